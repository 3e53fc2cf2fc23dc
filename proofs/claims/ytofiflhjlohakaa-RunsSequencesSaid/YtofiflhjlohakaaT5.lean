import Derived.Test.YtofiflhjlohakaaA
import Derived.Test.YtofiflhjlohakaaE
/-! The sequences on the way, place by place. -/
namespace Go.Proofs.Ytofiflhjlohakaa.X
open Go.RowKit Go.Proofs.YtofiflhjlohakaaW.PrintWords Go.Proofs.YtofiflhjlohakaaW.PrintLast Go.Proofs.YtofiflhjlohakaaW.PrintMore
set_option linter.unusedVariables false
set_option linter.unusedSimpArgs false
def sqAt (l lev m ah : List Int) : Nat → SqSt
  | 0 => sq0
  | i + 1 => sqStep l lev m ah i (sqAt l lev m ah i)
theorem sqF_at (l lev m ah : List Int) : ∀ (t : List Int) (i : Nat), sqF l lev m ah t i (sqAt l lev m ah i) = sqAt l lev m ah (i + t.length) := by
  intro t
  induction t with
  | nil => intro i; rfl
  | cons c t ih =>
    intro i
    have := ih (i + 1)
    show sqF l lev m ah t ((i : Int) + 1) (sqStep l lev m ah i (sqAt l lev m ah i)) = _
    rw [show (i : Int) + 1 = ((i + 1 : Nat) : Int) by omega]
    refine this.trans ?_
    congr 1
    simp
    omega
theorem sqF_all (l lev m ah : List Int) : sqF l lev m ah l 0 sq0 = sqAt l lev m ah l.length := by
  have := sqF_at l lev m ah l 0
  rw [Nat.zero_add] at this
  exact this
/-- What holds of the sequences on the way. -/
structure SqOk (st : SqSt) (i : Nat) : Prop where
  l0 : -1 ≤ st.last
  l1 : st.last < i
  nw : 0 ≤ st.last → st.now < st.all.length
  wt : ∀ k s, st.wt k = some s → s < st.all.length
  al : st.all.length ≤ i
  pl : ∀ (s : Nat) (x : S36), st.all[s]? = some x → x.f0.length ≤ i ∧ x.f0 ≠ [] ∧ (∀ p ∈ x.f0, 0 ≤ p ∧ p < (i : Int))
theorem SqOk.zero : SqOk sq0 0 := ⟨by decide, by decide, fun h => absurd h (by decide), fun k s h => (by cases h), Nat.le_refl _, fun s x h => by simp [sq0] at h⟩
theorem SqOk.next {st : SqSt} {i : Nat} (h : SqOk st i) : SqOk st (i + 1) :=
  ⟨h.l0, by have := h.l1; omega, h.nw, h.wt, by have := h.al; omega, fun s x hx => by
    obtain ⟨h1, h2, h3⟩ := h.pl s x hx
    exact ⟨by omega, h2, fun p hp => by have := h3 p hp; omega⟩⟩
theorem wait_lt {st : SqSt} {i : Nat} (h : SqOk st i) (l m : List Int) : ∀ k s, sqWait l m st k = some s → s < st.all.length := by
  intro k s hk
  unfold sqWait at hk
  split at hk
  · next hc =>
    unfold upW at hk
    split at hk
    · injection hk with hk
      subst hk
      exact h.nw hc.1
    · exact h.wt k s hk
  · exact h.wt k s hk
/-- .. while a run begins: 'now' is one of them. -/
structure SqMid (st : SqSt) (i : Nat) : Prop where
  nw : st.now < st.all.length
  wt : ∀ k s, st.wt k = some s → s < st.all.length
  al : st.all.length ≤ i + 1
  pl : ∀ (s : Nat) (x : S36), st.all[s]? = some x → x.f0.length ≤ i ∧ (s ≠ st.now → x.f0 ≠ []) ∧ (∀ p ∈ x.f0, 0 ≤ p ∧ p < (i : Int))
theorem SqOk.turn {st : SqSt} {i : Nat} (h : SqOk st i) (l lev m ah : List Int) : SqMid (sqTurn l lev m ah i st) i := by
  have hw := wait_lt h l m
  unfold sqTurn
  split
  · next s hs =>
    refine ⟨hw _ s hs, fun k s' hk => ?_, by have := h.al; show st.all.length ≤ _; omega, fun s' x hx => ?_⟩
    · have hk : (if k = (i : Int) then none else sqWait l m st k) = some s' := hk
      split at hk
      · cases hk
      · exact hw k s' hk
    · obtain ⟨h1, h2, h3⟩ := h.pl s' x hx
      exact ⟨h1, fun _ => h2, h3⟩
  · next hs =>
    refine ⟨by simp, fun k s' hk => ?_, by have := h.al; simp; omega, fun s' x hx => ?_⟩
    · have hk : (if k = (i : Int) then none else sqWait l m st k) = some s' := hk
      split at hk
      · cases hk
      · have := hw k s' hk; simp; omega
    · have hx : (st.all ++ [⟨[], rd lev i, sideV (mx (rd lev i) (rd ah i)), 0⟩])[s']? = some x := hx
      rcases Nat.lt_trichotomy s' st.all.length with q | q | q
      · rw [List.getElem?_append_left q] at hx
        obtain ⟨h1, h2, h3⟩ := h.pl s' x hx
        exact ⟨h1, fun _ => h2, h3⟩
      · subst q
        simp at hx
        subst hx
        exact ⟨Nat.zero_le _, fun e => absurd rfl e, fun p hp => by cases hp⟩
      · rw [List.getElem?_eq_none (by simp; omega)] at hx
        cases hx
theorem SqOk.mid {st : SqSt} {i : Nat} (h : SqOk st i) (hl : 0 ≤ st.last) : SqMid st i :=
  ⟨h.nw hl, h.wt, by have := h.al; omega, fun s x hx => by
    obtain ⟨h1, h2, h3⟩ := h.pl s x hx
    exact ⟨h1, fun _ => h2, h3⟩⟩
theorem SqMid.put {st : SqSt} {i : Nat} (h : SqMid st i) : SqOk (sqPut i st) (i + 1) := by
  refine ⟨by show (-1 : Int) ≤ (i : Int); omega, by show (i : Int) < _; omega, fun _ => by show st.now < (st.all.modify _ _).length; rw [List.length_modify]; exact h.nw, fun k s hk => by show s < (st.all.modify _ _).length; rw [List.length_modify]; exact h.wt k s hk, by show (st.all.modify _ _).length ≤ _; rw [List.length_modify]; exact h.al, fun s x hx => ?_⟩
  have hx : (st.all.modify st.now fun s => { s with f0 := s.f0 ++ [(i : Int)] })[s]? = some x := hx
  rw [List.getElem?_modify] at hx
  cases hy : st.all[s]? with
  | none => rw [hy] at hx; cases hx
  | some y =>
    rw [hy] at hx
    simp at hx
    obtain ⟨h1, h2, h3⟩ := h.pl s y hy
    by_cases q : st.now = s
    · rw [if_pos q] at hx
      subst hx
      refine ⟨by simp; omega, by simp, fun p hp => ?_⟩
      rcases List.mem_append.mp hp with hp | hp
      · have := h3 p hp; omega
      · simp at hp; omega
    · rw [if_neg q] at hx
      subst hx
      exact ⟨by omega, h2 (fun e => q e.symm), fun p hp => by have := h3 p hp; omega⟩
theorem sqAt_ok (l lev m ah : List Int) : ∀ i, SqOk (sqAt l lev m ah i) i := by
  intro i
  induction i with
  | zero => exact SqOk.zero
  | succ i ih =>
    show SqOk (sqStep l lev m ah i (sqAt l lev m ah i)) (i + 1)
    unfold sqStep
    split
    · exact ih.next
    · split
      · exact (ih.turn l lev m ah).put
      · next hq => exact (ih.mid (by have := ih.l0; omega)).put
end Go.Proofs.Ytofiflhjlohakaa.X
