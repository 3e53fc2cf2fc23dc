import Derived.Test.YtiogpnefnapfeaaDoorX5
import Derived.Test.YtiogpnefnapfeaaDoorC
/-! Chapter 17: the reference, plainly. -/
namespace Go.Proofs.YtiogpnefnapfeaaDoor.Pure
open Go.RowKit Go.Proofs.YtiogpnefnapfeaaDoor.X Go.Proofs.YtiogpnefnapfeaaDoorW.PrintWords Go.Proofs.YtiogpnefnapfeaaDoorW.PrintLast
set_option linter.unusedSimpArgs false
set_option linter.unusedVariables false
set_option maxRecDepth 100000
theorem works_ev : Ev (fun k => selvedgelaw17_works.f k) true := E.of (fun k => selvedgelaw17_works.mono k) 400 (by decide +kernel)
theorem nat1 (n : Nat) (h : n ≤ 1000000) : wrap64 ((n : Int) + 1) = ((n + 1 : Nat) : Int) := by rw [E.w64 (by omega) (by omega)]; omega
theorem is_l0 (l : List Int) (hl : l.length ≤ 100000) : ∀ (m i : Nat), i + m = l.length → Ev (fun k => selvedgelaw17_is.l0 k l l (i : Int)) true := by
  intro m
  induction m with
  | zero =>
    intro i h
    refine E.succ ?_
    simp only [selvedgelaw17_is.l0]
    exact E.neg (by omega) (E.ret rfl)
  | succ m ih =>
    intro i h
    refine E.succ ?_
    simp only [selvedgelaw17_is.l0]
    rw [nat1 i (by omega)]
    exact E.pos (by omega) (E.pos (by omega) (E.pos (by omega) (E.pos (by trivial) (ih (i + 1) (by omega)))))
theorem is_ev (l : List Int) (hl : l.length ≤ 100000) : Ev (fun k => selvedgelaw17_is.f k l l) true := E.pos rfl (is_l0 l hl l.length 0 (by omega))
def BS : List S64 := BT.map fun x => ⟨x.1, x.2⟩
theorem BS_f : selvedgeref01_Brackets.f = some BS := rfl
theorem rd64 (a : List (Int × Int)) (e : Int × Int) (d : List (Int × Int)) (h : BT = a ++ e :: d) : rd_T64 BS (a.length : Int) = ⟨e.1, e.2⟩ := by
  unfold rd_T64 BS
  rw [Int.toNat_natCast, h, List.map_append, List.map_cons, List.getD_eq_getElem?_getD, List.getElem?_append_right (by simp)]
  simp
theorem bracket_l0 (r : Int) : ∀ (d a : List (Int × Int)), BT = a ++ d → Ev (fun k => selvedgeref01_Bracket.l0 k r BS (a.length : Int)) (brkIn r d) := by
  have hB : BS.length = 23 := rfl
  have hT : BT.length = 23 := rfl
  intro d
  induction d with
  | nil =>
    intro a h
    have : a.length = 23 := by rw [← hT, h]; simp
    refine E.succ ?_
    simp only [selvedgeref01_Bracket.l0]
    exact E.neg (by omega) (E.ret rfl)
  | cons e d ih =>
    intro a h
    have hl : a.length + (d.length + 1) = 23 := by rw [← hT, h]; simp
    have hr := rd64 a e d h
    have ih2 := ih (a ++ [e]) (by rw [h]; simp)
    rw [List.length_append, List.length_singleton] at ih2
    refine E.succ ?_
    simp only [selvedgeref01_Bracket.l0, hr]
    refine E.pos (by omega) (E.pos (by omega) ?_)
    have hj : ∀ b : Bool, b = decide (r ≠ e.1 ∧ r ≠ e.2) → Ev (fun k => selvedgeref01_Bracket.j1 k r BS (a.length : Int) b) (brkIn r (e :: d)) := by
      intro b hb
      refine E.succ ?_
      simp only [selvedgeref01_Bracket.j1, hr]
      rw [nat1 _ (by omega)]
      by_cases q : r ≠ e.1 ∧ r ≠ e.2
      · have : b = true := by rw [hb]; exact decide_eq_true q
        refine E.pos this ?_
        have e1 : brkIn r (e :: d) = brkIn r d := if_pos q
        rw [e1]
        exact ih2
      · have : b = false := by rw [hb]; exact decide_eq_false q
        refine E.neg (by rw [this]; decide) (E.pos (by omega) (E.pos (by omega) ?_))
        have e1 : brkIn r (e :: d) = (if e.2 = 9002 then 12297 else e.2, r == e.1, true) := if_neg q
        rw [e1]
        by_cases q2 : e.2 = 9002
        · exact E.pos q2 (E.ret (by rw [if_pos q2]))
        · exact E.neg q2 (E.ret (by rw [if_neg q2]))
    by_cases q : r = e.1
    · exact E.pos q (hj _ (by simp [q]))
    · exact E.neg q (hj _ (by by_cases q2 : r = e.2 <;> simp [q, q2]))
theorem bracket_ev (r : Int) : Ev (fun k => selvedgeref01_Bracket.f k r) (brk r) := E.bno BS_f (bracket_l0 r BT [] rfl)
def m54 (p : Int × Int) : S54 := ⟨p.1, p.2⟩
def m31 (p : Int × Int) : S31 := ⟨p.1, p.2⟩
theorem rd54 (st : List (Int × Int)) (k : Nat) (h : k < st.length) : rd_T54 (st.map m54) (k : Int) = m54 (st.getD k (0, 0)) := by
  unfold rd_T54
  rw [Int.toNat_natCast, List.getD_eq_getElem?_getD, List.getElem?_map, List.getElem?_eq_getElem h, List.getD_eq_getElem?_getD, List.getElem?_eq_getElem h]
  rfl
theorem ref_l2 (l cs : List Int) (hl : l.length ≤ 65536) (hc : cs.length = l.length) : ∀ (d a : List Int) (acc : List (Int × Int)), cs = a ++ d → acc.length ≤ a.length → Ev (fun k => selvedgeref17_Pairs.l2 k l cs (acc.map m31) (a.length : Int)) ((acc ++ scanF d a.length).map m31) := by
  intro d
  induction d with
  | nil =>
    intro a acc h ha
    have : a.length = l.length := by rw [← hc, h]; simp
    refine E.succ ?_
    simp only [selvedgeref17_Pairs.l2]
    refine E.neg (by omega) (E.ret ?_)
    unfold scanF
    rw [List.append_nil]
  | cons c d ih =>
    intro a acc h ha
    have hal : a.length + (d.length + 1) = l.length := by rw [← hc, h]; simp
    have hr : rd cs (a.length : Int) = c := by rw [rd_nat', h, List.getD_eq_getElem?_getD, List.getElem?_append_right (Nat.le_refl _)]; simp
    refine E.succ ?_
    simp only [selvedgeref17_Pairs.l2, hr]
    rw [nat1 _ (by omega)]
    refine E.pos (by omega) (E.pos (by omega) (E.pos (by omega) ?_))
    by_cases q : c > 0
    · refine E.pos q (E.pos (by rw [List.length_map]; omega) ?_)
      have := ih (a ++ [c]) (acc ++ [((a.length : Int), c)]) (by rw [h]; simp) (by simp; omega)
      rw [List.length_append, List.length_singleton, List.map_append] at this
      have e : scanF (c :: d) a.length = ((a.length : Int), c) :: scanF d (a.length + 1) := if_pos q
      rw [e]
      rw [List.append_assoc] at this
      exact this
    · refine E.neg q ?_
      have := ih (a ++ [c]) acc (by rw [h]; simp) (by simp; omega)
      rw [List.length_append, List.length_singleton] at this
      have e : scanF (c :: d) a.length = scanF d (a.length + 1) := if_neg q
      rw [e]
      exact this
theorem ref_j4 (l cs : List Int) (hl : l.length ≤ 65536) (hc : cs.length = l.length) : Ev (fun k => selvedgeref17_Pairs.j4 k l cs) ((scanF cs 0).map m31) := by
  refine E.succ ?_
  simp only [selvedgeref17_Pairs.j4]
  exact ref_l2 l cs hl hc cs [] [] rfl (Nat.le_refl _)
theorem ref_l1 (l now cs : List Int) (st : List (Int × Int)) (i : Nat) (cc : Int) (R : List S31) (hi : i ≤ 65536) (hst : st.length ≤ 63) (hb : ∀ e ∈ st, 0 ≤ e.2 ∧ e.2 < cs.length) :
    ∀ k' : Nat, k' ≤ st.length → (match seek cc st k' with
      | none => Ev (fun k => selvedgeref17_Pairs.l0 k l now cs (st.map m54) ((i + 1 : Nat) : Int)) R
      | some j => Ev (fun k => selvedgeref17_Pairs.l0 k l now (cs.set (st.getD j (0, 0)).2.toNat (i : Int)) ((st.take j).map m54) ((i + 1 : Nat) : Int)) R) →
    Ev (fun k => selvedgeref17_Pairs.l1 k l now cs (st.map m54) (i : Int) cc ((k' : Int) - 1)) R := by
  intro k'
  induction k' with
  | zero =>
    intro _ h
    refine E.succ ?_
    simp only [selvedgeref17_Pairs.l1]
    rw [nat1 _ (by omega)]
    exact E.neg (by omega) h
  | succ k' ih =>
    intro hk h
    have e1 : ((k' + 1 : Nat) : Int) - 1 = (k' : Int) := by omega
    rw [e1]
    have hr := rd54 st k' (by omega)
    have hm := hb _ (getD_mem (0, 0) (show k' < st.length by omega))
    have es : seek cc st (k' + 1) = if (st.getD k' (0, 0)).1 = cc then some k' else seek cc st k' := rfl
    rw [es] at h
    refine E.succ ?_
    simp only [selvedgeref17_Pairs.l1, hr]
    rw [nat1 _ (by omega), E.w64 (by omega) (by omega)]
    refine E.pos (by omega) (E.pos (by omega) (E.pos (by rw [List.length_map]; omega) ?_))
    by_cases q : (st.getD k' (0, 0)).1 = cc
    · rw [if_pos q] at h
      refine E.pos q (E.pos hm.1 (E.pos hm.2 (E.pos (by rw [List.length_map]; omega) ?_)))
      dsimp only at h
      rw [Int.toNat_natCast, ← List.map_take]
      exact h
    · rw [if_neg q] at h
      exact E.neg q (ih (by omega) h)
theorem ref_l0 (l now : List Int) (hl : l.length ≤ 65536) : ∀ (m i : Nat) (st : List (Int × Int)) (cs : List Int), i + m = min l.length now.length → st.length ≤ 63 → Inv l now i st → cs.length = l.length → Ev (fun k => selvedgeref17_Pairs.l0 k l now cs (st.map m54) (i : Int)) ((scanF (putF cs (go l now m i st)) 0).map m31) := by
  intro m
  induction m with
  | zero =>
    intro i st cs h hst hinv hc
    have hend : Ev (fun k => selvedgeref17_Pairs.j1 k l now cs (st.map m54) (i : Int) false) ((scanF (putF cs (go l now 0 i st)) 0).map m31) := by
      refine E.succ ?_
      simp only [selvedgeref17_Pairs.j1]
      exact E.neg (by decide) (ref_j4 l cs hl hc)
    refine E.succ ?_
    simp only [selvedgeref17_Pairs.l0]
    by_cases q : (i : Int) < (l.length : Int)
    · refine E.pos q ?_
      rw [decide_eq_false (by omega)]
      exact hend
    · exact E.neg q hend
  | succ m ih =>
    intro i st cs h hst hinv hc
    refine E.succ ?_
    simp only [selvedgeref17_Pairs.l0]
    refine E.pos (by omega) ?_
    rw [decide_eq_true (by omega)]
    refine E.succ ?_
    simp only [selvedgeref17_Pairs.j1]
    refine E.pos (by trivial) (E.pos (by omega) (E.pos (by omega) (E.bnd (bracket_ev _) ?_)))
    rw [rd_nat', rd_nat', go_succ]
    generalize hbk : brk (l.getD i 0) = b
    obtain ⟨cc, ob, kb⟩ := b
    have hb : ∀ e ∈ st, 0 ≤ e.2 ∧ e.2 < cs.length := fun e he => by have := hinv.lt e he; omega
    have hskip : Ev (fun k => selvedgeref17_Pairs.l0 k l now cs (st.map m54) (wrap64 ((i : Int) + 1))) ((scanF (putF cs (go l now m (i + 1) st)) 0).map m31) := by
      rw [nat1 _ (by omega)]
      exact ih (i + 1) st cs (by omega) hst hinv.skip hc
    have hj2t : Ev (fun k => selvedgeref17_Pairs.j2 k l now cs (st.map m54) (i : Int) cc ob true) ((scanF (putF cs (go l now m (i + 1) st)) 0).map m31) := by
      refine E.succ ?_
      simp only [selvedgeref17_Pairs.j2]
      exact E.pos (by trivial) hskip
    cases kb with
    | false =>
      refine E.neg (by simp) ?_
      rw [if_pos (Or.inl rfl)]
      exact hj2t
    | true =>
      refine E.pos rfl (E.pos (by omega) ?_)
      by_cases q : now.getD i 0 = 14
      · have e1 : (now.getD i 0 != 14) = false := by rw [q]; rfl
        rw [e1, if_neg (by rintro (z | z); cases z; exact z q)]
        refine E.succ ?_
        simp only [selvedgeref17_Pairs.j2]
        refine E.neg (by decide) ?_
        cases ob with
        | true =>
          refine E.pos rfl ?_
          rw [if_pos rfl]
          by_cases q2 : st.length = 63
          · rw [if_pos q2]
            exact E.pos (by rw [List.length_map]; omega) (ref_j4 l cs hl hc)
          · rw [if_neg q2]
            refine E.neg (by rw [List.length_map]; omega) (E.pos (by rw [List.length_map]; omega) ?_)
            rw [nat1 _ (by omega)]
            have hp := hinv.push (by rw [hbk]) q (by rw [hbk])
            rw [hbk] at hp
            have := ih (i + 1) (st ++ [(cc, (i : Int))]) cs (by omega) (by rw [List.length_append, List.length_singleton]; omega) hp hc
            rw [List.map_append] at this
            exact this
        | false =>
          refine E.neg (by decide) ?_
          rw [if_neg (by decide), List.length_map, E.w64 (by omega) (by omega)]
          refine ref_l1 l now cs st i cc _ (by omega) hst hb st.length (Nat.le_refl _) ?_
          cases hs : seek cc st st.length with
          | none => exact ih (i + 1) st cs (by omega) hst hinv.skip hc
          | some j => exact ih (i + 1) (st.take j) (cs.set (st.getD j (0, 0)).2.toNat (i : Int)) (by omega) (by rw [List.length_take]; omega) (hinv.take j).skip (by rw [List.length_set]; exact hc)
      · have e1 : (now.getD i 0 != 14) = true := bne_iff_ne.mpr q
        rw [e1, if_pos (Or.inr q)]
        exact hj2t
theorem refpairs_ev (l now : List Int) (hl : l.length ≤ 65536) : Ev (fun k => selvedgeref17_Pairs.f k l now) ((pairsF l now).map m31) := by
  simp only [selvedgeref17_Pairs.f]
  refine E.pos (by omega) (E.pos (by omega) ?_)
  rw [Int.toNat_natCast]
  exact ref_l0 l now hl _ 0 [] (List.replicate l.length 0) (by omega) (by decide) (Inv.nil l now 0) (by simp)
end Go.Proofs.YtiogpnefnapfeaaDoor.Pure
