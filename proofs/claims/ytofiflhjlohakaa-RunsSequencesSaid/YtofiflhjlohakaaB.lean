import Derived.Test.YtofiflhjlohakaaA
import Derived.Test.YtofiflhjlohakaaE
import Derived.Test.YtofiflhjlohakaaU2
/-! Matching initiators and PDIs; the first strong class: what is printed is what is said plainly. -/
namespace Go.Proofs.Ytofiflhjlohakaa.X
open Go.RowKit Go.Proofs.YtofiflhjlohakaaW.PrintWords Go.Proofs.YtofiflhjlohakaaW.PrintLast Go.Proofs.YtofiflhjlohakaaW.PrintMore
set_option linter.unusedVariables false
set_option linter.unusedSimpArgs false
def OpOk (i : Int) (op : List Int) : Prop := (op.length : Int) ≤ i ∧ ∀ x ∈ op, 0 ≤ x ∧ x < i
theorem OpOk.snoc {i : Int} {op : List Int} (h : OpOk i op) (hi : 0 ≤ i) : OpOk (i + 1) (op ++ [i]) := by
  refine ⟨by have := h.1; simp; omega, fun x hx => ?_⟩
  rcases List.mem_append.1 hx with hx | hx
  · have := h.2 x hx; omega
  · have := List.mem_singleton.1 hx; omega
theorem OpOk.next {i : Int} {op : List Int} (h : OpOk i op) : OpOk (i + 1) op := ⟨by have := h.1; omega, fun x hx => by have := h.2 x hx; omega⟩
theorem OpOk.take {i : Int} {op : List Int} (h : OpOk i op) (n : Nat) : OpOk i (op.take n) := ⟨by have := h.1; rw [List.length_take]; omega, fun x hx => h.2 x (List.mem_of_mem_take hx)⟩
theorem OpOk.last {i : Int} {op : List Int} (h : OpOk i op) (hp : 0 < op.length) : 0 ≤ rd op ((op.length : Int) - 1) ∧ rd op ((op.length : Int) - 1) < i := h.2 _ (E.rd_mem (by omega) (by omega))
theorem rd_head {l : List Int} {i : Int} {c : Int} {t : List Int} (h0 : 0 ≤ i) (h : l.drop i.toNat = c :: t) : rd l i = c ∧ i < l.length ∧ l.drop (i + 1).toNat = t := by
  have hlt : i.toNat < l.length := by
    rcases Nat.lt_or_ge i.toNat l.length with h1 | h1
    · exact h1
    · rw [List.drop_of_length_le h1] at h; cases h
  have := E.rd_drop h0 (l := l) (by omega)
  rw [h] at this
  injection this with h1 h2
  exact ⟨h1.symm, by omega, h2.symm⟩
theorem match_ev (l : List Int) (hl : l.length ≤ 1000000) : ∀ (t : List Int) (i : Int) (op out : List Int), 0 ≤ i → l.drop i.toNat = t → OpOk i op → out.length = l.length → i ≤ l.length → 
    Ev (fun k => explicit_Match.l0 k out op l (l.length : Int) i) (mtF t i op out) := by
  intro t
  induction t with
  | nil =>
    intro i op out h0 ht hop ho hi
    have : ¬ i < (l.length : Int) := by
      intro h
      have := E.rd_drop h0 h
      rw [ht] at this
      cases this
    exact E.succ (E.neg this (E.ret rfl))
  | cons c t ih =>
    intro i op out h0 ht hop ho hi
    obtain ⟨hc, hlt, ht'⟩ := rd_head h0 ht
    have hw : wrap64 (i + 1) = i + 1 := E.w64 (by omega) (by omega)
    have hopl := hop.1
    refine E.succ (E.pos hlt (E.pos h0 (E.pos hlt (E.pos (by omega) (E.bno rfl ?_)))))
    by_cases q1 : 20 ≤ c ∧ c ≤ 22
    · have e1 : explicit_initiator.f (rd l i) = some true := by unfold explicit_initiator.f; rw [hc, if_pos q1.1, decide_eq_true q1.2]
      refine E.bno e1 (E.pos rfl (E.pos (by omega) ?_))
      have e2 : mtF (c :: t) i op out = mtF t (i + 1) (op ++ [i]) (out.set i.toNat (-1)) := if_pos q1
      rw [hw, e2]
      exact ih (i + 1) _ _ (by omega) ht' (hop.snoc h0) (by simpa using ho) (by omega)
    · have e1 : explicit_initiator.f (rd l i) = some false := by
        unfold explicit_initiator.f
        rw [hc]
        by_cases q2 : c ≥ 20
        · rw [if_pos q2, decide_eq_false (fun q => q1 ⟨q2, q⟩)]
        · rw [if_neg q2]
      refine E.bno e1 (E.neg (by decide) ?_)
      by_cases q2 : c = 11
      · refine E.pos (by rw [hc]; exact q2) (E.pos (by omega) ?_)
        have e2 : mtF (c :: t) i op out = mtF t (i + 1) [] (out.set i.toNat (-1)) := (if_neg q1).trans (if_pos q2)
        rw [hw, e2]
        exact ih (i + 1) _ _ (by omega) ht' ⟨by simp; omega, fun x hx => by simp at hx⟩ (by simpa using ho) (by omega)
      · refine E.neg (by rw [hc]; exact q2) ?_
        by_cases q3 : c = 23
        · refine E.pos (by rw [hc]; exact q3) ?_
          by_cases q4 : (op.length : Int) > 0
          · have hw2 : wrap64 ((op.length : Int) - 1) = (op.length : Int) - 1 := E.w64 (by omega) (by omega)
            have hla := hop.last (by omega)
            refine E.pos q4 (E.pos (by rw [hw2]; omega) (E.pos (by rw [hw2]; omega) (E.pos (by rw [hw2]; omega) (E.pos (by rw [hw2]; omega) (E.pos (by rw [hw2]; omega) ?_)))))
            have e2 : mtF (c :: t) i op out = mtF t (i + 1) (op.take ((op.length : Int) - 1).toNat) (((out.set i.toNat (-1)).set i.toNat (rd op ((op.length : Int) - 1))).set (rd op ((op.length : Int) - 1)).toNat i) :=
              (if_neg q1).trans ((if_neg q2).trans (if_pos ⟨q3, by omega⟩))
            rw [hw, hw2, e2]
            exact ih (i + 1) _ _ (by omega) ht' (hop.next.take _) (by simpa using ho) (by omega)
          · refine E.neg q4 ?_
            have e2 : mtF (c :: t) i op out = mtF t (i + 1) op (out.set i.toNat (-1)) := (if_neg q1).trans ((if_neg q2).trans (if_neg (fun q => q4 (by have := q.2; omega))))
            rw [hw, e2]
            exact ih (i + 1) _ _ (by omega) ht' hop.next (by simpa using ho) (by omega)
        · refine E.neg (by rw [hc]; exact q3) ?_
          have e2 : mtF (c :: t) i op out = mtF t (i + 1) op (out.set i.toNat (-1)) := (if_neg q1).trans ((if_neg q2).trans (if_neg (fun q => q3 q.1)))
          rw [hw, e2]
          exact ih (i + 1) _ _ (by omega) ht' hop.next (by simpa using ho) (by omega)
theorem explicit_Match_ev (l : List Int) (hl : l.length ≤ 1000000) : Ev (fun k => explicit_Match.f k l) (mtOf l) := by
  refine E.pos (by omega) (E.pos (by rw [Int.toNat_natCast]; omega) ?_)
  rw [Int.toNat_natCast]
  exact match_ev l hl l 0 [] _ (by omega) rfl ⟨by simp, fun x hx => by simp at hx⟩ (by simp) (by omega)
theorem initiator14 (c : Int) : selvedgeref14_Initiator.f c = some (decide (20 ≤ c ∧ c ≤ 22)) := by
  unfold selvedgeref14_Initiator.f
  split
  · rw [decide_eq_true (by omega)]
  · split
    · rw [decide_eq_true (by omega)]
    · congr 1
      by_cases q : c = 22
      · rw [decide_eq_true (by omega)]; simpa using q
      · rw [decide_eq_false (by omega)]; simpa using q
theorem match14_ev (l : List Int) (hl : l.length ≤ 1000000) : ∀ (t : List Int) (i : Int) (op out : List Int), 0 ≤ i → l.drop i.toNat = t → OpOk i op → out.length = l.length → i ≤ l.length → 
    Ev (fun k => selvedgeref14_Match.l0 k l out op i) (mtF t i op out) := by
  intro t
  induction t with
  | nil =>
    intro i op out h0 ht hop ho hi
    have : ¬ i < (l.length : Int) := by
      intro h
      have := E.rd_drop h0 h
      rw [ht] at this
      cases this
    exact E.succ (E.neg this (E.ret rfl))
  | cons c t ih =>
    intro i op out h0 ht hop ho hi
    obtain ⟨hc, hlt, ht'⟩ := rd_head h0 ht
    have hw : wrap64 (i + 1) = i + 1 := E.w64 (by omega) (by omega)
    have hopl := hop.1
    refine E.succ (E.pos hlt (E.pos h0 (E.pos (by omega) (E.bno rfl ?_))))
    by_cases q1 : 20 ≤ c ∧ c ≤ 22
    · have e1 : selvedgeref14_Initiator.f (rd l i) = some true := by rw [initiator14, hc, decide_eq_true q1]
      refine E.bno e1 (E.pos rfl (E.pos (by omega) ?_))
      have e2 : mtF (c :: t) i op out = mtF t (i + 1) (op ++ [i]) (out.set i.toNat (-1)) := if_pos q1
      rw [hw, e2]
      exact ih (i + 1) _ _ (by omega) ht' (hop.snoc h0) (by simpa using ho) (by omega)
    · have e1 : selvedgeref14_Initiator.f (rd l i) = some false := by rw [initiator14, hc, decide_eq_false q1]
      refine E.bno e1 (E.neg (by decide) ?_)
      by_cases q2 : c = 11
      · refine E.pos (by rw [hc]; exact q2) ?_
        have e2 : mtF (c :: t) i op out = mtF t (i + 1) [] (out.set i.toNat (-1)) := (if_neg q1).trans (if_pos q2)
        rw [hw, e2]
        exact ih (i + 1) _ _ (by omega) ht' ⟨by simp; omega, fun x hx => by simp at hx⟩ (by simpa using ho) (by omega)
      · refine E.neg (by rw [hc]; exact q2) ?_
        by_cases q3 : c = 23
        · refine E.pos (by rw [hc]; exact q3) ?_
          by_cases q4 : (op.length : Int) > 0
          · have hw2 : wrap64 ((op.length : Int) - 1) = (op.length : Int) - 1 := E.w64 (by omega) (by omega)
            have hla := hop.last (by omega)
            refine E.pos q4 (E.pos (by rw [hw2]; omega) (E.pos (by rw [hw2]; omega) (E.pos (by rw [hw2]; omega) (E.pos (by rw [hw2]; omega) (E.pos (by rw [hw2]; omega) ?_)))))
            have e2 : mtF (c :: t) i op out = mtF t (i + 1) (op.take ((op.length : Int) - 1).toNat) (((out.set i.toNat (-1)).set i.toNat (rd op ((op.length : Int) - 1))).set (rd op ((op.length : Int) - 1)).toNat i) :=
              (if_neg q1).trans ((if_neg q2).trans (if_pos ⟨q3, by omega⟩))
            rw [hw, hw2, e2]
            exact ih (i + 1) _ _ (by omega) ht' (hop.next.take _) (by simpa using ho) (by omega)
          · refine E.neg q4 ?_
            have e2 : mtF (c :: t) i op out = mtF t (i + 1) op (out.set i.toNat (-1)) := (if_neg q1).trans ((if_neg q2).trans (if_neg (fun q => q4 (by have := q.2; omega))))
            rw [hw, e2]
            exact ih (i + 1) _ _ (by omega) ht' hop.next (by simpa using ho) (by omega)
        · refine E.neg (by rw [hc]; exact q3) ?_
          have e2 : mtF (c :: t) i op out = mtF t (i + 1) op (out.set i.toNat (-1)) := (if_neg q1).trans ((if_neg q2).trans (if_neg (fun q => q3 q.1)))
          rw [hw, e2]
          exact ih (i + 1) _ _ (by omega) ht' hop.next (by simpa using ho) (by omega)
theorem ref14_Match_ev (l : List Int) (hl : l.length ≤ 1000000) : Ev (fun k => selvedgeref14_Match.f k l) (mtOf l) := by
  refine E.pos (by omega) (E.pos (by rw [Int.toNat_natCast]; omega) ?_)
  rw [Int.toNat_natCast]
  exact match14_ev l hl l 0 [] _ (by omega) rfl ⟨by simp, fun x hx => by simp at hx⟩ (by simp) (by omega)
/-! ### The levels around -/
theorem removed_f (c : Int) : runs_removed.f c = some (remC c) := by
  unfold runs_removed.f remC
  by_cases h1 : c ≥ 15
  · rw [if_pos h1]
    by_cases h2 : c ≤ 19
    · rw [if_pos h2, decide_eq_true (p := 15 ≤ c ∧ c ≤ 19) ⟨h1, h2⟩]
      rfl
    · rw [if_neg h2, decide_eq_false (p := 15 ≤ c ∧ c ≤ 19) (fun h => h2 h.2)]
      by_cases q : c = 10 <;> simp [q]
  · rw [if_neg h1, decide_eq_false (p := 15 ≤ c ∧ c ≤ 19) (fun h => h1 h.1)]
    by_cases q : c = 10 <;> simp [q]
theorem rd_range (n : Nat) (f : Nat → Int) (i : Nat) (h : i < n) : rd ((List.range n).map f) (i : Int) = f i := by simp [rd, h]
theorem set_range (n : Nat) (f g : Nat → Int) (i : Nat) (v : Int) (hi : g i = v) (hg : ∀ j, j < n → j ≠ i → g j = f j) : ((List.range n).map f).set i v = (List.range n).map g := by
  apply List.ext_getElem (by simp)
  intro j h1 h2
  simp at h1
  rw [List.getElem_set]
  by_cases e : i = j
  · subst e; simp [hi]
  · rw [if_neg e]; simp [hg j h1 (fun h => e h.symm)]
theorem replicate_range (n : Nat) : List.replicate n (0 : Int) = (List.range n).map (fun _ => 0) := by
  apply List.ext_getElem (by simp)
  intro j h1 h2
  simp
def ahU (l lev : List Int) (base : Int) (i : Nat) : List Int := (List.range l.length).map (fun j => if j < i then aAt l lev base j else 0)
def beU (l lev : List Int) (base : Int) (i : Nat) : List Int := (List.range l.length).map (fun k => if l.length - i ≤ k then bAt l lev base (l.length - 1 - k) else 0)
theorem ahU_set (l lev : List Int) (base : Int) (i : Nat) : (ahU l lev base i).set i (aAt l lev base i) = ahU l lev base (i + 1) :=
  set_range _ _ _ _ _ (if_pos (Nat.lt_succ_self i)) (fun j _ hj => by
    by_cases h : j < i
    · rw [if_pos h, if_pos (by omega)]
    · rw [if_neg h, if_neg (by omega)])
theorem beU_set (l lev : List Int) (base : Int) (i : Nat) (hi : i < l.length) : (beU l lev base i).set (l.length - 1 - i) (bAt l lev base i) = beU l lev base (i + 1) :=
  set_range _ _ _ _ _ (by rw [if_pos (by omega)]; congr 1; omega) (fun j _ hj => by
    by_cases h : l.length - i ≤ j
    · rw [if_pos h, if_pos (by omega)]
    · rw [if_neg h, if_neg (by omega)])
theorem ahU_all (l lev : List Int) (base : Int) : ahU l lev base l.length = ahF l lev base :=
  List.map_congr_left (fun j hj => if_pos (List.mem_range.mp hj))
theorem beU_all (l lev : List Int) (base : Int) : beU l lev base l.length = beF l lev base :=
  List.map_congr_left (fun j hj => if_pos (by omega))
theorem neighbours_loop (l lev : List Int) (base : Int) (hl : l.length ≤ 1000000) (hv : lev.length = l.length) : ∀ (t i : Nat), i + t = l.length →
    Ev (fun k => runs_neighbours.l0 k l lev (ahU l lev base i) (beU l lev base i) (aAt l lev base i) (bAt l lev base i) (l.length : Int) (i : Int)) (ahF l lev base, beF l lev base) := by
  intro t
  induction t with
  | zero =>
    intro i hi
    have : i = l.length := by omega
    refine E.succ (E.neg (by omega) (E.ret ?_))
    rw [this, ahU_all, beU_all]
  | succ t ih =>
    intro i hi
    have w1 : wrap64 ((l.length : Int) - 1) = (l.length : Int) - 1 := E.w64 (by omega) (by omega)
    have w2 : wrap64 (wrap64 ((l.length : Int) - 1) - (i : Int)) = (l.length : Int) - 1 - i := by rw [w1]; exact E.w64 (by omega) (by omega)
    have w3 : wrap64 ((i : Int) + 1) = ((i + 1 : Nat) : Int) := by rw [E.w64 (by omega) (by omega)]; omega
    have e1 : ((l.length : Int) - 1 - i).toNat = l.length - 1 - i := by omega
    have la : (ahU l lev base i).length = l.length := by simp [ahU]
    have lb : (beU l lev base i).length = l.length := by simp [beU]
    have IH := ih (i + 1) (by omega)
    rw [← w3] at IH
    have hA : aAt l lev base (i + 1) = if remC (rd l (i : Int)) = true then aAt l lev base i else rd lev (i : Int) := rfl
    have hB : bAt l lev base (i + 1) = if remC (rd l ((l.length : Int) - 1 - i)) = true then bAt l lev base i else rd lev ((l.length : Int) - 1 - i) := rfl
    rw [hA, hB, ← ahU_set, ← beU_set l lev base i (by omega)] at IH
    refine E.succ (E.pos (by omega) (E.pos (by omega) (E.pos (by omega) (E.bno rfl (E.pos (by omega) (E.pos (by omega) (E.bno rfl (E.pos (by omega) (E.bno (removed_f _) ?_)))))))))
    rw [w2, e1, Int.toNat_natCast]
    cases q1 : remC (rd l (i : Int)) with
    | true =>
      rw [q1] at IH
      refine E.pos rfl (E.pos (by omega) (E.bno (removed_f _) ?_))
      cases q2 : remC (rd l ((l.length : Int) - 1 - i)) with
      | true =>
        rw [q2] at IH
        exact E.pos rfl IH
      | false =>
        rw [q2] at IH
        exact E.neg (by decide) (E.pos (by omega) IH)
    | false =>
      rw [q1] at IH
      refine E.neg (by decide) (E.pos (by omega) (E.pos (by omega) (E.bno (removed_f _) ?_)))
      cases q2 : remC (rd l ((l.length : Int) - 1 - i)) with
      | true =>
        rw [q2] at IH
        exact E.pos rfl IH
      | false =>
        rw [q2] at IH
        exact E.neg (by decide) (E.pos (by omega) IH)
theorem neighbours_ev (l lev : List Int) (base : Int) (hl : l.length ≤ 1000000) (hv : lev.length = l.length) : Ev (fun k => runs_neighbours.f k l lev base) (ahF l lev base, beF l lev base) := by
  refine E.pos (by omega) (E.pos (by rw [Int.toNat_natCast]; omega) ?_)
  rw [Int.toNat_natCast]
  have h := neighbours_loop l lev base hl hv l.length 0 (by omega)
  have e1 : ahU l lev base 0 = List.replicate l.length 0 := by
    rw [replicate_range]
    exact List.map_congr_left (fun j _ => if_neg (by omega))
  have e2 : beU l lev base 0 = List.replicate l.length 0 := by
    rw [replicate_range]
    exact List.map_congr_left (fun j hj => if_neg (by have := List.mem_range.mp hj; omega))
  rw [e1, e2] at h
  exact h
theorem aAt_range (l lev : List Int) (base : Int) (hb : 0 ≤ base ∧ base ≤ 255) (hlv : ∀ x ∈ lev, 0 ≤ x ∧ x ≤ 255) : ∀ i, i ≤ lev.length → 0 ≤ aAt l lev base i ∧ aAt l lev base i ≤ 255 := by
  intro i
  induction i with
  | zero => intro _; exact hb
  | succ i ih =>
    intro hi
    unfold aAt
    split
    · exact ih (by omega)
    · exact hlv _ (E.rd_mem (by omega) (by omega))
theorem bAt_range (l lev : List Int) (base : Int) (hb : 0 ≤ base ∧ base ≤ 255) (hlv : ∀ x ∈ lev, 0 ≤ x ∧ x ≤ 255) (he : lev.length = l.length) : ∀ i, i ≤ lev.length → 0 ≤ bAt l lev base i ∧ bAt l lev base i ≤ 255 := by
  intro i
  induction i with
  | zero => intro _; exact hb
  | succ i ih =>
    intro hi
    unfold bAt
    split
    · exact ih (by omega)
    · exact hlv _ (E.rd_mem (by omega) (by omega))
theorem ahF_ok (l lev : List Int) (base : Int) (hb : 0 ≤ base ∧ base ≤ 255) (hlv : ∀ x ∈ lev, 0 ≤ x ∧ x ≤ 255) (he : lev.length = l.length) : (ahF l lev base).length = l.length ∧ ∀ x ∈ ahF l lev base, 0 ≤ x ∧ x ≤ 255 := by
  refine ⟨by simp [ahF], fun x hx => ?_⟩
  obtain ⟨i, hi, rfl⟩ := List.mem_map.mp hx
  exact aAt_range l lev base hb hlv i (by have := List.mem_range.mp hi; omega)
theorem beF_ok (l lev : List Int) (base : Int) (hb : 0 ≤ base ∧ base ≤ 255) (hlv : ∀ x ∈ lev, 0 ≤ x ∧ x ≤ 255) (he : lev.length = l.length) : (beF l lev base).length = l.length ∧ ∀ x ∈ beF l lev base, 0 ≤ x ∧ x ≤ 255 := by
  refine ⟨by simp [beF], fun x hx => ?_⟩
  obtain ⟨i, hi, rfl⟩ := List.mem_map.mp hx
  exact bAt_range l lev base hb hlv he _ (by have := List.mem_range.mp hi; omega)
/-- What stands in the matches: -1, or a place. -/
theorem mtF_ok (n : Nat) : ∀ (t : List Int) (i : Int) (op out : List Int), 0 ≤ i → i + t.length = n → OpOk i op → out.length = n → (∀ x ∈ out, -1 ≤ x ∧ x < n ∨ x = 0) →
    (mtF t i op out).length = n ∧ ∀ x ∈ mtF t i op out, -1 ≤ x ∧ x < n ∨ x = 0 := by
  intro t
  induction t with
  | nil => intro i op out h0 hi hop ho hx; exact ⟨ho, hx⟩
  | cons c t ih =>
    intro i op out h0 hi hop ho hx
    simp at hi
    have hset : ∀ (out : List Int) (j : Nat) (v : Int), (∀ x ∈ out, -1 ≤ x ∧ x < n ∨ x = 0) → (-1 ≤ v ∧ v < n) → ∀ x ∈ out.set j v, -1 ≤ x ∧ x < n ∨ x = 0 := fun out j v h1 h2 x hx => by
      rcases List.mem_or_eq_of_mem_set hx with h | h
      · exact h1 x h
      · exact .inl (h ▸ h2)
    unfold mtF
    split
    · exact ih _ _ _ (by omega) (by omega) (hop.snoc h0) (by simpa using ho) (hset _ _ _ hx (by omega))
    · split
      · exact ih _ _ _ (by omega) (by omega) ⟨by simp; omega, fun x hx => by simp at hx⟩ (by simpa using ho) (hset _ _ _ hx (by omega))
      · split
        · next q =>
          have hla := hop.last q.2
          exact ih _ _ _ (by omega) (by omega) (hop.next.take _) (by simpa using ho) (hset _ _ _ (hset _ _ _ (hset _ _ _ hx (by omega)) (by omega)) (by omega))
        · exact ih _ _ _ (by omega) (by omega) hop.next (by simpa using ho) (hset _ _ _ hx (by omega))
theorem mtOf_ok (l : List Int) : (mtOf l).length = l.length ∧ ∀ x ∈ mtOf l, -1 ≤ x ∧ (x < l.length ∨ x = 0) := by
  obtain ⟨h1, h2⟩ := mtF_ok l.length l 0 [] (List.replicate l.length 0) (by omega) (by omega) ⟨by simp, fun x hx => by simp at hx⟩ (by simp) (fun x hx => .inr (List.eq_of_mem_replicate hx))
  exact ⟨h1, fun x hx => by have := h2 x hx; omega⟩
end Go.Proofs.Ytofiflhjlohakaa.X
