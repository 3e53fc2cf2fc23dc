import Derived.Test.YtofiflhjlohakaaC
/-! What holds of the sequences, where a PDI has its initiator's level. -/
namespace Go.Proofs.Ytofiflhjlohakaa.X
open Go.RowKit Go.Proofs.YtofiflhjlohakaaW.PrintWords Go.Proofs.YtofiflhjlohakaaW.PrintLast Go.Proofs.YtofiflhjlohakaaW.PrintMore
set_option linter.unusedVariables false
set_option linter.unusedSimpArgs false
theorem lastP_snoc (p : List Int) (x : Int) : lastP (p ++ [x]) = x := by
  unfold lastP
  exact E.rd_mid' (by simp) (b := [])
theorem lastP_mem (p : List Int) (h : p ≠ []) : lastP p ∈ p := by
  have := List.length_pos_iff.mpr h
  exact E.rd_mem (by omega) (by omega)
/-- Between two places of a sequence that follow each other. -/
def Adj (l m : List Int) (a b : Int) : Prop := (∀ j, a < j → j < b → remC (rd l j) = true) ∨ rd m a = b
/-- What holds of one sequence. -/
structure SOk (l lev m : List Int) (i : Int) (x : S36) : Prop where
  ne : x.f0 ≠ []
  inc : x.f0.Pairwise (· < ·)
  pl : ∀ p ∈ x.f0, 0 ≤ p ∧ p < i ∧ remC (rd l p) = false ∧ rd lev p = x.f1
  adj : ∀ k : Nat, k + 1 < x.f0.length → Adj l m (rd x.f0 k) (rd x.f0 (k + 1 : Nat))
theorem SOk.more {l lev m : List Int} {i i' : Int} {x : S36} (h : SOk l lev m i x) (hi : i ≤ i') : SOk l lev m i' x :=
  ⟨h.ne, h.inc, fun p hp => by have := h.pl p hp; exact ⟨this.1, by omega, this.2.2⟩, h.adj⟩
theorem SOk.put {l lev m : List Int} {i : Int} {x : S36} (h : SOk l lev m i x) (hi : 0 ≤ i) (hr : remC (rd l i) = false) (hv : rd lev i = x.f1) (ha : Adj l m (lastP x.f0) i) : SOk l lev m (i + 1) { x with f0 := x.f0 ++ [i] } := by
  refine ⟨by simp, ?_, fun p hp => ?_, fun k hk => ?_⟩
  · exact List.pairwise_append.mpr ⟨h.inc, by simp, fun a ha b hb => by rw [List.mem_singleton.mp hb]; exact (h.pl a ha).2.1⟩
  · rcases List.mem_append.mp hp with hp | hp
    · have := h.pl p hp; exact ⟨this.1, by omega, this.2.2⟩
    · rw [List.mem_singleton.mp hp]; exact ⟨hi, by omega, hr, hv⟩
  · have hk : k + 1 < (x.f0 ++ [i]).length := hk
    simp at hk
    show Adj l m (rd (x.f0 ++ [i]) k) (rd (x.f0 ++ [i]) (k + 1 : Nat))
    have e1 : rd (x.f0 ++ [i]) (k : Int) = rd x.f0 k := E.rd_append_left (by omega) (by omega)
    rw [e1]
    rcases Nat.lt_or_ge (k + 1) x.f0.length with q | q
    · have e2 : rd (x.f0 ++ [i]) ((k + 1 : Nat) : Int) = rd x.f0 (k + 1 : Nat) := E.rd_append_left (by omega) (by omega)
      rw [e2]
      exact h.adj k q
    · have e2 : rd (x.f0 ++ [i]) ((k + 1 : Nat) : Int) = i := E.rd_mid' (by omega) (b := [])
      have e3 : rd x.f0 (k : Int) = lastP x.f0 := by unfold lastP; congr 1; omega
      rw [e2, e3]
      exact ha
/-- What holds on the way. -/
structure SqI (l lev m : List Int) (i : Nat) (st : SqSt) : Prop where
  so : ∀ (s : Nat) (x : S36), st.all[s]? = some x → SOk l lev m i x
  dj : ∀ (s t : Nat) (x y : S36), st.all[s]? = some x → st.all[t]? = some y → s ≠ t → ∀ p ∈ x.f0, p ∉ y.f0
  cv : ∀ p : Nat, p < i → remC (rd l p) = false → ∃ (s : Nat) (x : S36), st.all[s]? = some x ∧ (p : Int) ∈ x.f0
  hd : ∀ (s t : Nat) (x y : S36), st.all[s]? = some x → st.all[t]? = some y → s < t → rd x.f0 0 < rd y.f0 0
  ls : 0 ≤ st.last → ∃ x, st.all[st.now]? = some x ∧ lastP x.f0 = st.last
  rm : ∀ j, st.last < j → j < i → 0 ≤ j → remC (rd l j) = true
  wt : ∀ k s, st.wt k = some s → (0 ≤ st.last → s ≠ st.now) ∧ ∃ x, st.all[s]? = some x ∧ iniC (rd l (lastP x.f0)) = true ∧ rd m (lastP x.f0) = k ∧ 0 ≤ k
theorem get_modify {L : List S36} {n s : Nat} {f : S36 → S36} {y : S36} (h : (L.modify n f)[s]? = some y) : ∃ x, L[s]? = some x ∧ y = if n = s then f x else x := by
  rw [List.getElem?_modify] at h
  cases hx : L[s]? with
  | none => rw [hx] at h; cases h
  | some x =>
    rw [hx] at h
    refine ⟨x, rfl, ?_⟩
    by_cases e : n = s
    · simp [e] at h ⊢; exact h.symm
    · simp [e] at h ⊢; exact h.symm
/-- A place is put to the sequence 'now'. -/
theorem SqI.put {l lev m : List Int} {i : Nat} {st0 : SqSt} (h : SqI l lev m i st0) (st : SqSt) (hall : st.all = st0.all) (x : S36) (hx : st.all[st.now]? = some x) (hr : remC (rd l i) = false) (hv : rd lev i = x.f1) (ha : Adj l m (lastP x.f0) i)
    (hw : ∀ k s, st.wt k = some s → s ≠ st.now ∧ ∃ x, st.all[s]? = some x ∧ iniC (rd l (lastP x.f0)) = true ∧ rd m (lastP x.f0) = k ∧ 0 ≤ k) : SqI l lev m (i + 1) (sqPut i st) := by
  have hso := h.so
  have hdj := h.dj
  have hcv := h.cv
  have hhd := h.hd
  rw [← hall] at hso hdj hcv hhd
  have hlt : st.now < st.all.length := (List.getElem?_eq_some_iff.mp hx).1
  have key : ∀ (s : Nat) (y : S36), (sqPut i st).all[s]? = some y → ∃ z, st.all[s]? = some z ∧ y = if st.now = s then { z with f0 := z.f0 ++ [(i : Int)] } else z := fun s y hy => get_modify hy
  have hnew : (sqPut i st).all[st.now]? = some { x with f0 := x.f0 ++ [(i : Int)] } := by
    show (st.all.modify st.now _)[st.now]? = _
    rw [List.getElem?_modify, hx]
    simp
  have hmem : ∀ (s : Nat) (z : S36), st.all[s]? = some z → (i : Int) ∉ z.f0 := fun s z hz hp => by
    have := (hso s z hz).pl _ hp
    omega
  refine ⟨fun s y hy => ?_, fun s t y z hy hz hst p hp hq => ?_, fun p hp hrp => ?_, fun s t y z hy hz hst => ?_, fun _ => ⟨_, hnew, lastP_snoc _ _⟩, fun j h1 h2 _ => ?_, fun k s hk => ?_⟩
  · obtain ⟨z, hz, rfl⟩ := key s y hy
    split
    · next e =>
      rw [← e, hx] at hz
      injection hz with hz
      subst hz
      exact (hso _ _ hx).put (by omega) hr hv ha
    · exact (hso s z hz).more (by omega)
  · obtain ⟨a, ha2, rfl⟩ := key s y hy
    obtain ⟨b, hb2, rfl⟩ := key t z hz
    have hd := hdj s t a b ha2 hb2 hst p
    split at hp <;> split at hq
    · next e1 e2 => omega
    · rcases List.mem_append.mp hp with hp | hp
      · exact hd hp hq
      · rw [List.mem_singleton.mp hp] at hq
        exact hmem t b hb2 hq
    · rcases List.mem_append.mp hq with hq | hq
      · exact hd hp hq
      · rw [List.mem_singleton.mp hq] at hp
        exact hmem s a ha2 hp
    · exact hd hp hq
  · rcases Nat.lt_or_ge p i with q | q
    · obtain ⟨s, z, hz, hpz⟩ := hcv p q hrp
      by_cases e : st.now = s
      · rw [← e, hx] at hz
        injection hz with hz
        subst hz
        exact ⟨_, _, hnew, List.mem_append_left _ hpz⟩
      · refine ⟨s, z, ?_, hpz⟩
        show (st.all.modify st.now _)[s]? = _
        rw [List.getElem?_modify, hz]
        simp [e]
    · have : p = i := by omega
      subst this
      exact ⟨_, _, hnew, List.mem_append_right _ (List.mem_singleton.mpr rfl)⟩
  · obtain ⟨a, ha2, rfl⟩ := key s y hy
    obtain ⟨b, hb2, rfl⟩ := key t z hz
    have h0 := hhd s t a b ha2 hb2 hst
    have hA : ∀ (c : S36) (q : Nat), st.all[q]? = some c → rd (if st.now = q then ({ c with f0 := c.f0 ++ [(i : Int)] } : S36) else c).f0 0 = rd c.f0 0 := fun c q hc => by
      have := List.length_pos_iff.mpr (hso q c hc).ne
      split
      · exact E.rd_append_left (by omega) (by omega)
      · rfl
    rw [hA a s ha2, hA b t hb2]
    exact h0
  · have : (i : Int) < j := h1
    omega
  · have hk : st.wt k = some s := hk
    obtain ⟨hne, z, hz, h1⟩ := hw k s hk
    refine ⟨fun _ => hne, z, ?_, h1⟩
    show (st.all.modify st.now _)[s]? = _
    rw [List.getElem?_modify, hz]
    simp [Ne.symm hne]
/-- A new sequence with its first place. -/
theorem SqI.new {l lev m : List Int} {i : Nat} {st : SqSt} (h : SqI l lev m i st) (x : S36) (hx0 : x.f0 = []) (hx1 : x.f1 = rd lev i) (hr : remC (rd l i) = false) (wt' : Int → Option Nat)
    (hw : ∀ k s, wt' k = some s → ∃ x, st.all[s]? = some x ∧ iniC (rd l (lastP x.f0)) = true ∧ rd m (lastP x.f0) = k ∧ 0 ≤ k) : SqI l lev m (i + 1) (sqPut i ⟨st.all ++ [x], st.all.length, st.last, wt'⟩) := by
  have e : (sqPut i ⟨st.all ++ [x], st.all.length, st.last, wt'⟩).all = st.all ++ [{ x with f0 := [(i : Int)] }] := by
    show (st.all ++ [x]).modify st.all.length _ = _
    apply List.ext_getElem?
    intro s
    rw [List.getElem?_modify]
    rcases Nat.lt_trichotomy s st.all.length with q | q | q
    · rw [List.getElem?_append_left q, List.getElem?_append_left q]
      have : ¬ st.all.length = s := by omega
      simp [this]
    · subst q
      simp [hx0]
    · rw [List.getElem?_eq_none (by simp; omega), List.getElem?_eq_none (by simp; omega)]
      rfl
  have hmem : ∀ (s : Nat) (z : S36), st.all[s]? = some z → (i : Int) ∉ z.f0 := fun s z hz hp => by
    have := (h.so s z hz).pl _ hp
    omega
  have key : ∀ (s : Nat) (y : S36), (sqPut i ⟨st.all ++ [x], st.all.length, st.last, wt'⟩).all[s]? = some y → (s < st.all.length ∧ st.all[s]? = some y) ∨ (s = st.all.length ∧ y = { x with f0 := [(i : Int)] }) := fun s y hy => by
    rw [e] at hy
    rcases Nat.lt_trichotomy s st.all.length with q | q | q
    · rw [List.getElem?_append_left q] at hy
      exact .inl ⟨q, hy⟩
    · subst q
      simp at hy
      exact .inr ⟨rfl, hy.symm⟩
    · rw [List.getElem?_eq_none (by simp; omega)] at hy
      cases hy
  have hold : ∀ (s : Nat) (z : S36), st.all[s]? = some z → (sqPut i ⟨st.all ++ [x], st.all.length, st.last, wt'⟩).all[s]? = some z := fun s z hz => by
    rw [e, List.getElem?_append_left (List.getElem?_eq_some_iff.mp hz).1]
    exact hz
  have hnew : (sqPut i ⟨st.all ++ [x], st.all.length, st.last, wt'⟩).all[st.all.length]? = some { x with f0 := [(i : Int)] } := by
    rw [e]
    simp
  refine ⟨fun s y hy => ?_, fun s t y z hy hz hst p hp hq => ?_, fun p hp hrp => ?_, fun s t y z hy hz hst => ?_, fun _ => ⟨_, hnew, rfl⟩, fun j h1 h2 _ => ?_, fun k s hk => ?_⟩
  · rcases key s y hy with ⟨q, hy⟩ | ⟨_, rfl⟩
    · exact (h.so s y hy).more (by omega)
    · refine ⟨by simp, by simp, fun p hp => ?_, fun k hk => absurd hk (by simp)⟩
      rw [List.mem_singleton.mp hp]
      exact ⟨by omega, by omega, hr, hx1.symm⟩
  · rcases key s y hy with ⟨q1, hy⟩ | ⟨q1, rfl⟩ <;> rcases key t z hz with ⟨q2, hz⟩ | ⟨q2, rfl⟩
    · exact h.dj s t y z hy hz hst p hp hq
    · rw [List.mem_singleton.mp hq] at hp
      exact hmem s y hy hp
    · rw [List.mem_singleton.mp hp] at hq
      exact hmem t z hz hq
    · omega
  · rcases Nat.lt_or_ge p i with q | q
    · obtain ⟨s, z, hz, hpz⟩ := h.cv p q hrp
      exact ⟨s, z, hold s z hz, hpz⟩
    · have : p = i := by omega
      subst this
      exact ⟨_, _, hnew, List.mem_singleton.mpr rfl⟩
  · rcases key s y hy with ⟨q1, hy⟩ | ⟨q1, rfl⟩ <;> rcases key t z hz with ⟨q2, hz⟩ | ⟨q2, rfl⟩
    · exact h.hd s t y z hy hz hst
    · have hlen := List.length_pos_iff.mpr (h.so s y hy).ne
      have := (h.so s y hy).pl _ (E.rd_mem (i := 0) (by omega) (by omega))
      show _ < (i : Int)
      omega
    · omega
    · omega
  · have : (i : Int) < j := h1
    omega
  · have hk : wt' k = some s := hk
    obtain ⟨z, hz, h1⟩ := hw k s hk
    refine ⟨fun _ => ?_, z, hold s z hz, h1⟩
    have := (List.getElem?_eq_some_iff.mp hz).1
    show s ≠ st.all.length
    omega
/-- A PDI has its initiator's level. -/
def LevM (l lev m : List Int) : Prop := ∀ a : Int, 0 ≤ a → a < l.length → iniC (rd l a) = true → 0 ≤ rd m a → rd lev (rd m a) = rd lev a
theorem SqI.step {l lev m ah : List Int} (hLM : LevM l lev m) {i : Nat} (hi : i < l.length) {st : SqSt} (hok : SqOk st i) (h : SqI l lev m i st) : SqI l lev m (i + 1) (sqStep l lev m ah i st) := by
  unfold sqStep
  by_cases hr : remC (rd l i) = true
  · rw [if_pos hr]
    refine ⟨fun s x hx => (h.so s x hx).more (by omega), h.dj, fun p hp hrp => ?_, h.hd, h.ls, fun j h1 h2 h3 => ?_, h.wt⟩
    · rcases Nat.lt_or_ge p i with q | q
      · exact h.cv p q hrp
      · have : p = i := by omega
        subst this
        rw [hr] at hrp
        cases hrp
    · by_cases q : j = i
      · rw [q]; exact hr
      · exact h.rm j h1 (by omega) h3
  · rw [if_neg hr]
    have hr := eq_false_of_ne_true hr
    by_cases q : st.last < 0 ∨ rd lev st.last ≠ rd lev i
    · rw [if_pos q]
      -- what waits
      have hW : ∀ k s, sqWait l m st k = some s → ∃ x, st.all[s]? = some x ∧ iniC (rd l (lastP x.f0)) = true ∧ rd m (lastP x.f0) = k ∧ 0 ≤ k := by
        intro k s hk
        unfold sqWait at hk
        split at hk
        · next hc =>
          obtain ⟨x, hx, hl⟩ := h.ls hc.1
          unfold upW at hk
          split at hk
          · next hkk =>
            injection hk with hk
            subst hk
            exact ⟨x, hx, by rw [hl]; exact hc.2.1, by rw [hl, hkk], by rw [hkk]; exact hc.2.2⟩
          · exact (h.wt k s hk).2
        · exact (h.wt k s hk).2
      unfold sqTurn
      cases hs : sqWait l m st i with
      | some s =>
        obtain ⟨x, hx, h1, h2, h3⟩ := hW i s hs
        have hlm := lastP_mem x.f0 (h.so s x hx).ne
        have hp := (h.so s x hx).pl _ hlm
        have hlv := hLM (lastP x.f0) hp.1 (by omega) h1 (by omega)
        rw [h2] at hlv
        have huniq : ∀ k s', upW (sqWait l m st) i none k = some s' → s' ≠ s ∧ ∃ x, st.all[s']? = some x ∧ iniC (rd l (lastP x.f0)) = true ∧ rd m (lastP x.f0) = k ∧ 0 ≤ k := by
          intro k s' hk
          unfold upW at hk
          split at hk
          · cases hk
          · next hne =>
            have h4 := hW k s' hk
            refine ⟨fun e => ?_, h4⟩
            subst e
            obtain ⟨y, hy, _, h5, _⟩ := h4
            rw [hx] at hy
            injection hy with hy
            subst hy
            omega
        exact h.put ⟨st.all, s, st.last, upW (sqWait l m st) i none⟩ rfl x hx hr (by rw [hlv, hp.2.2.2]) (.inr h2) huniq
      | none =>
        refine h.new ⟨[], rd lev i, sideV (mx (rd lev i) (rd ah i)), 0⟩ rfl rfl hr _ (fun k s' hk => ?_)
        unfold upW at hk
        split at hk
        · cases hk
        · exact hW k s' hk
    · rw [if_neg q]
      have hl0 : 0 ≤ st.last := by rcases Int.lt_or_le st.last 0 with e | e; exact absurd (.inl e) q; exact e
      have hlev : rd lev st.last = rd lev i := Decidable.byContradiction (fun e => q (.inr e))
      obtain ⟨x, hx, hl⟩ := h.ls hl0
      have hp := (h.so _ x hx).pl _ (lastP_mem x.f0 (h.so _ x hx).ne)
      rw [hl] at hp
      exact h.put st rfl x hx hr (by rw [← hlev, hp.2.2.2]) (.inl (fun j h1 h2 => h.rm j (by omega) (by omega) (by omega))) (fun k s hk => ⟨(h.wt k s hk).1 hl0, (h.wt k s hk).2⟩)
theorem SqI.zero (l lev m : List Int) : SqI l lev m 0 sq0 := ⟨fun s x h => by simp [sq0] at h, fun s t x y h => by simp [sq0] at h, fun p h => absurd h (Nat.not_lt_zero p), fun s t x y h => by simp [sq0] at h, fun h => absurd h (by decide), fun j h1 h2 h3 => by omega, fun k s h => by cases h⟩
theorem sqI_at (l lev m ah : List Int) (hLM : LevM l lev m) : ∀ i, i ≤ l.length → SqI l lev m i (sqAt l lev m ah i) := by
  intro i
  induction i with
  | zero => intro _; exact SqI.zero l lev m
  | succ i ih => intro hi; exact (ih (by omega)).step hLM (by omega) (sqAt_ok l lev m ah i)
end Go.Proofs.Ytofiflhjlohakaa.X
