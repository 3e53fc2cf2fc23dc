import Derived.Test.YtofiflhjlohakaaK4
/-! The document's runs: what its function comes to. -/
namespace Go.Proofs.Ytofiflhjlohakaa.X
open Go.RowKit Go.Proofs.YtofiflhjlohakaaW.PrintWords Go.Proofs.YtofiflhjlohakaaW.PrintLast Go.Proofs.YtofiflhjlohakaaW.PrintMore
set_option linter.unusedVariables false
set_option linter.unusedSimpArgs false
section
variable {l m : List Int} {P : List Rn} (h : Rk l m P) (hl : l.length ≤ 2000)
include h hl
omit h hl in
theorem x_next (k : Nat) (hk : k < P.length) (t : Nat) (ht : t < P.length) (hto : toF l m P k = t) :
    ((xL l m P k).set k ⟨(rg P k).pl, t, frF l m P k k⟩).set t ⟨(rd_T55 ((xL l m P k).set k ⟨(rg P k).pl, t, frF l m P k k⟩) t).f0, (rd_T55 ((xL l m P k).set k ⟨(rg P k).pl, t, frF l m P k k⟩) t).f1, k⟩ = xL l m P (k + 1) := by
  have e1 : (xL l m P k).set k ⟨(rg P k).pl, t, frF l m P k k⟩ = (List.range P.length).map (fun j => if j = k then ⟨(rg P k).pl, t, frF l m P k k⟩ else xF l m P k j) :=
    set_rangeG _ _ _ _ _ (if_pos rfl) (fun j _ hj => if_neg hj)
  have e2 : rd_T55 ((List.range P.length).map (fun j => if j = k then (⟨(rg P k).pl, t, frF l m P k k⟩ : S55) else xF l m P k j)) (t : Int) = if t = k then ⟨(rg P k).pl, t, frF l m P k k⟩ else xF l m P k t := by simp [rd_T55, ht]
  rw [e1, e2]
  refine set_rangeG _ _ _ _ _ ?_ (fun j hj hjt => ?_)
  · have hfr : frF l m P (k + 1) t = k := if_pos hto
    unfold xF
    rw [hfr]
    by_cases e : t = k
    · subst e
      rw [if_pos rfl, if_pos (Nat.lt_succ_self _), hto]
    · rw [if_neg e]
      by_cases q : t < k
      · rw [if_pos q, if_pos (by omega)]
      · rw [if_neg q, if_neg (by omega)]
  · have hfr : frF l m P (k + 1) j = frF l m P k j := if_neg (by rw [hto]; omega)
    unfold xF
    rw [hfr]
    by_cases e : j = k
    · subst e
      rw [if_pos rfl, if_pos (Nat.lt_succ_self _), hto]
    · rw [if_neg e]
      by_cases q : j < k
      · rw [if_pos q, if_pos (by omega)]
      · rw [if_neg q, if_neg (by omega)]
omit h hl in
theorem x_same (k : Nat) (hk : k < P.length) (hto : toF l m P k = -1) : xL l m P (k + 1) = xL l m P k := by
  refine List.map_congr_left (fun j hj => ?_)
  unfold xF
  have e1 : frF l m P (k + 1) j = frF l m P k j := if_neg (by rw [hto]; omega)
  rw [e1]
  by_cases e : j = k
  · subst e
    rw [if_pos (Nat.lt_succ_self _), if_neg (Nat.lt_irrefl _), hto]
  · by_cases q : j < k
    · rw [if_pos q, if_pos (by omega)]
    · rw [if_neg q, if_neg (by omega)]
theorem ref_l3 : ∀ (t k : Nat), k + t = P.length → Ev (fun n => selvedgeref15_runs.l3 n l (xL l m P k) m (bgF P l.length P.length) (k : Int)) (xL l m P P.length) := by
  intro t
  induction t with
  | zero =>
    intro k hk
    have e : k = P.length := by omega
    rw [e]
    exact E.succ (E.neg (by rw [xL_len]; omega) (E.ret rfl))
  | succ t ih =>
    intro k hk
    have hkl : k < P.length := by omega
    have w : wrap64 ((k : Int) + 1) = ((k + 1 : Nat) : Int) := by
      have := (h.plen hl hkl).2
      rw [E.w64 (by omega) (by omega)]; omega
    have IH := ih (k + 1) (by omega)
    rw [← w] at IH
    have hlast := h.last hkl
    have hp := h.plen hl hkl
    have hne := List.length_pos_iff.mpr (h.ne _ (rg_mem P k hkl))
    have hat := xL_at l m P k k hkl
    have w2 : wrap64 (((rg P k).pl.length : Int) - 1) = ((rg P k).pl.length : Int) - 1 := E.w64 (by omega) (by omega)
    have hml := h.ml
    obtain ⟨la, hla⟩ : ∃ la, lastP (rg P k).pl = la := ⟨_, rfl⟩
    have hla2 : rd (rg P k).pl (((rg P k).pl.length : Int) - 1) = la := hla
    refine E.succ ?_
    unfold selvedgeref15_runs.l3
    simp only [hat]
    rw [hla] at hlast
    simp only [xF]
    simp only [w2, hla2]
    refine E.pos (by rw [xL_len]; omega) (E.pos (by omega) (E.pos (by omega) (E.pos (by omega) (E.pos hlast.1 (E.pos hlast.2 (E.bno (initiator14 _) ?_))))))
    rcases h.to_lt hkl with hto | ⟨u, hu, hto⟩
    · -- it leads nowhere
      rw [x_same k hkl hto] at IH
      by_cases q1 : iniC (rd l la) = true
      · have q1' : decide (20 ≤ rd l la ∧ rd l la ≤ 22) = true := q1
        refine E.pos q1' (E.pos (by omega) ?_)
        by_cases q2 : 0 ≤ rd m la
        · have hmv := h.mv (rd m la) (E.rd_mem hlast.1 (by omega))
          have hto2 : rd (bgF P l.length P.length) (rd m la) = -1 := by
            rw [← hto]
            unfold toF
            rw [hla, if_pos ⟨q1, q2⟩]
          refine E.pos q2 (E.pos q2 (E.pos (by rw [bgF_len]; exact hmv) (E.neg (by rw [hto2]; omega) IH)))
        · exact E.neg (by omega) IH
      · have q1' : ¬ decide (20 ≤ rd l la ∧ rd l la ≤ 22) = true := q1
        exact E.neg q1' IH
    · have hq : iniC (rd l la) = true ∧ 0 ≤ rd m la := by
        have : toF l m P k = (u : Int) := hto
        unfold toF at this
        rw [hla] at this
        by_cases q : iniC (rd l la) = true ∧ 0 ≤ rd m la
        · exact q
        · rw [if_neg q] at this
          omega
      have hmv := h.mv (rd m la) (E.rd_mem hlast.1 (by omega))
      have hto2 : rd (bgF P l.length P.length) (rd m la) = (u : Int) := by
        rw [← hto]
        unfold toF
        rw [hla, if_pos hq]
      have q1' : decide (20 ≤ rd l la ∧ rd l la ≤ 22) = true := hq.1
      have hx := x_next k hkl u hu hto
      rw [← hx] at IH
      refine E.pos q1' (E.pos (by omega) (E.pos hq.2 (E.pos hq.2 (E.pos (by rw [bgF_len]; exact hmv) ?_))))
      rw [hto2]
      exact E.pos (by omega) (E.bno rfl (E.pos (by omega) (E.pos (by rw [xL_len]; omega) IH)))
omit h hl in
theorem xL_zero : xL l m P 0 = P.map (fun c => mk55 c.pl) := by
  apply List.ext_getElem (by simp [xL])
  intro j h1 h2
  simp [xL] at h1
  simp [xL, xF, frF, mk55, rg, h1]
theorem ref_l2 : ∀ (t k : Nat), k + t = P.length → Ev (fun n => selvedgeref15_runs.l2 n l (xL l m P 0) m (bgF P l.length k) (k : Int)) (xL l m P P.length) := by
  intro t
  induction t with
  | zero =>
    intro k hk
    have e : k = P.length := by omega
    rw [e]
    exact E.succ (E.neg (by rw [xL_len]; omega) (ref_l3 h hl P.length 0 (by omega)))
  | succ t ih =>
    intro k hk
    have hkl : k < P.length := by omega
    have w : wrap64 ((k : Int) + 1) = ((k + 1 : Nat) : Int) := by
      have := (h.plen hl hkl).2
      rw [E.w64 (by omega) (by omega)]; omega
    have IH := ih (k + 1) (by omega)
    rw [← w] at IH
    have hf := h.first hkl
    have hne := List.length_pos_iff.mpr (h.ne _ (rg_mem P k hkl))
    have hat := xL_at l m P 0 k hkl
    refine E.succ ?_
    unfold selvedgeref15_runs.l2
    simp only [hat]
    simp only [xF]
    exact E.pos (by rw [xL_len]; omega) (E.pos (by omega) (E.pos (by omega) (E.pos hf.1 (E.pos (by rw [bgF_len]; exact hf.2) IH))))
theorem ref_l1 : ∀ (t i : Nat), i + t = l.length → Ev (fun n => selvedgeref15_runs.l1 n l (xL l m P 0) m (List.replicate i (-1) ++ List.replicate t 0) (i : Int)) (xL l m P P.length) := by
  intro t
  induction t with
  | zero =>
    intro i hi
    have e : i = l.length := by omega
    refine E.succ (E.neg (by omega) ?_)
    rw [e, List.replicate_zero, List.append_nil]
    exact ref_l2 h hl P.length 0 (by omega)
  | succ t ih =>
    intro i hi
    have w : wrap64 ((i : Int) + 1) = ((i + 1 : Nat) : Int) := by rw [E.w64 (by omega) (by omega)]; omega
    have IH := ih (i + 1) (by omega)
    rw [← w] at IH
    have es : (List.replicate i (-1) ++ List.replicate (t + 1) 0).set ((i : Int)).toNat (-1) = List.replicate (i + 1) (-1) ++ List.replicate t (0 : Int) := by
      rw [List.replicate_succ, E.set_mid' (by simp), List.replicate_succ', List.append_assoc]
      rfl
    rw [← es] at IH
    exact E.succ (E.pos (by omega) (E.pos (by omega) (E.pos (by simp; omega) IH)))
end
/-- What the document's runs are. -/
theorem ref_runs (l lev ah : List Int) (hl : l.length ≤ 2000) (hv : lev.length = l.length) {st : SqSt} {P : List Rn} (hj : J l lev (mtOf l) ah l.length st P) : Rk l (mtOf l) P ∧ Ev (fun k => selvedgeref15_runs.f k l lev) (xL l (mtOf l) P P.length) := by
  have h : Rk l (mtOf l) P := ⟨hj.ne, hj.inc, hj.bd, (mtOf_ok l).1, fun x hx => by
    obtain ⟨i, hi⟩ := List.getElem_of_mem hx
    obtain ⟨hi2, hi⟩ := hi
    have := (mtOf_inv l).inv (i : Int) (by omega) (by rw [← (mtOf_ok l).1]; omega)
    rw [E.rd_get hi2, hi] at this
    have h1 : (0 : Int) ≤ l.length := by omega
    have h2 := (mtOf_ok l).1
    omega⟩
  refine ⟨h, ?_⟩
  refine ref_runs_l0 l lev ah hl hv _ ?_ l.length 0 (by omega)
  refine E.bnd (ref14_Match_ev l (by omega)) (E.pos (by omega) (E.pos (by rw [Int.toNat_natCast]; omega) ?_))
  rw [Int.toNat_natCast, hj.rn]
  have e : (P.map (·.pl)).map mk55 = xL l (mtOf l) P 0 := by
    rw [xL_zero, List.map_map]
    rfl
  rw [e]
  exact ref_l1 h hl l.length 0 (by omega)
end Go.Proofs.Ytofiflhjlohakaa.X
