import Derived.Test.YtofiflhjlohakaaT12
import Derived.Test.YtofiflhjlohakaaG
namespace Go.Proofs.Ytofiflhjlohakaa.Pure
open Go.RowKit Go.Proofs.Ytofiflhjlohakaa.X Go.Proofs.Ytofiflhjlohakaa Go.Proofs.YtofiflhjlohakaaW.PrintWords Go.Proofs.YtofiflhjlohakaaW.PrintLast
set_option linter.unusedVariables false
set_option linter.unusedSimpArgs false
structure OnceOk (l lv m : List Int) (S : List S36) : Prop where
  so : ∀ s : Nat, s < S.length → SOk l lv m l.length (rd_T36 S s)
  dj : ∀ s t : Nat, s < S.length → t < S.length → s ≠ t → ∀ p ∈ (rd_T36 S s).f0, p ∉ (rd_T36 S t).f0
  cv : ∀ p : Nat, p < l.length → remC (rd l p) = false → ∃ s : Nat, s < S.length ∧ (p : Int) ∈ (rd_T36 S s).f0
  hd : ∀ s t : Nat, s < t → t < S.length → rd (rd_T36 S s).f0 0 < rd (rd_T36 S t).f0 0
theorem once_ok (l lev m ah be : List Int) (base : Int) (hLM : LevM l lev m) : OnceOk l lev m ((sqAt l lev m ah l.length).all.map (sqEos l lev m be base)) := by
  have h := sqI_at l lev m ah hLM l.length (Nat.le_refl _)
  have hx : ∀ s : Nat, s < ((sqAt l lev m ah l.length).all.map (sqEos l lev m be base)).length → ∃ x, (sqAt l lev m ah l.length).all[s]? = some x ∧ rd_T36 ((sqAt l lev m ah l.length).all.map (sqEos l lev m be base)) s = sqEos l lev m be base x := fun s hs => by
    have hs' : s < (sqAt l lev m ah l.length).all.length := by simpa using hs
    exact ⟨_, List.getElem?_eq_getElem hs', by simp [rd_T36, hs']⟩
  refine ⟨fun s hs => ?_, fun s t hs ht hst p hp hq => ?_, fun p hp hr => ?_, fun s t hst ht => ?_⟩
  · obtain ⟨x, h1, h2⟩ := hx s hs
    rw [h2]
    have g := h.so s x h1
    exact ⟨g.ne, g.inc, g.pl, g.adj⟩
  · obtain ⟨x, h1, h2⟩ := hx s hs
    obtain ⟨y, h3, h4⟩ := hx t ht
    rw [h2] at hp
    rw [h4] at hq
    exact h.dj s t x y h1 h3 hst p hp hq
  · obtain ⟨s, x, h1, h2⟩ := h.cv p hp hr
    have hs : s < ((sqAt l lev m ah l.length).all.map (sqEos l lev m be base)).length := by simpa using (List.getElem?_eq_some_iff.mp h1).1
    obtain ⟨y, h3, h4⟩ := hx s hs
    rw [h1] at h3
    injection h3 with h3
    subst h3
    exact ⟨s, hs, by rw [h4]; exact h2⟩
  · obtain ⟨x, h1, h2⟩ := hx s (by omega)
    obtain ⟨y, h3, h4⟩ := hx t ht
    rw [h2, h4]
    exact h.hd s t x y h1 h3 hst
/-- The places that are marked. -/
def Seen (n : Nat) (seen : List Bool) (P : Nat → Prop) : Prop := seen.length = n ∧ ∀ p : Nat, p < n → (rdOf false seen (p : Int) = true ↔ P p)
theorem Seen.set {n : Nat} {seen : List Bool} {P : Nat → Prop} (h : Seen n seen P) (q : Nat) (hq : q < n) (Q : Nat → Prop) (hQ : ∀ p, Q p ↔ (P p ∨ p = q)) : Seen n (seen.set q true) Q := by
  refine ⟨by simp [h.1], fun p hp => ?_⟩
  have h1 := h.1
  rw [hQ, ← h.2 p hp]
  by_cases e : q = p
  · subst e
    simp [rdOf, h1, hp]
  · have : rdOf false (seen.set q true) (p : Int) = rdOf false seen p := by simp [rdOf, List.getElem?_set, e]
    rw [this]
    constructor
    · exact .inl
    · rintro (h | h)
      · exact h
      · exact absurd h.symm e
section
variable (l lv m : List Int) (S : List S36) (h : OnceOk l lv m S) (hl : l.length ≤ 2000) (hlv : lv.length = l.length) (hm : m.length = l.length) (hSl : S.length ≤ 100000)
include h hl hlv hm hSl
omit hSl in
theorem on_l3 (seen : List Bool) (hs : Seen l.length seen (fun p => ∃ s : Nat, s < S.length ∧ (p : Int) ∈ (rd_T36 S s).f0)) : ∀ t i : Nat, i + t = l.length → Ev (fun k => selvedgelaw15_RunsOnce.l3 k l seen (i : Int)) true := by
  intro t
  induction t with
  | zero => intro i hi; exact E.succ (E.neg (by omega) (E.bnd works_ev (E.ret rfl)))
  | succ t ih =>
    intro i hi
    have w : wrap64 ((i : Int) + 1) = ((i + 1 : Nat) : Int) := by rw [E.w64 (by omega) (by omega)]; omega
    have IH := ih (i + 1) (by omega)
    rw [← w] at IH
    have hl2 := hs.1
    have key : ¬ (rdOf false seen (i : Int) == remC (rd l i)) = true := by
      cases hr : remC (rd l i) with
      | false =>
        have := (hs.2 i (by omega)).mpr (h.cv i (by omega) hr)
        rw [this]
        decide
      | true =>
        intro e
        have e := beq_iff_eq.mp e
        obtain ⟨s, hs1, hs2⟩ := (hs.2 i (by omega)).mp e
        have := ((h.so s hs1).pl _ hs2).2.2.1
        rw [hr] at this
        cases this
    exact E.succ (E.pos (by omega) (E.pos (by omega) (E.pos (by omega) (E.bno (removed14 _) (E.neg key IH)))))
omit h hSl in
theorem on_l2 (seen : List Bool) (i : Nat) (k : Nat) (last p : Int) (hla : -1 ≤ last) (hp : p < l.length) (hadj : 0 < k → 0 ≤ last ∧ Adj l m last p)
    (hN : Ev (fun n => selvedgelaw15_RunsOnce.l1 n l lv S m seen (i : Int) p ((k : Int) + 1)) true) (hk : k ≤ 100000) : ∀ (t : Nat) (j : Int), last < j → j + t = max p j → Ev (fun n => selvedgelaw15_RunsOnce.l2 n l lv S m seen (i : Int) last (k : Int) p j) true := by
  have w : wrap64 ((k : Int) + 1) = (k : Int) + 1 := E.w64 (by omega) (by omega)
  have hF : ∀ (j : Int) (b : Bool), b = false → Ev (fun n => selvedgelaw15_RunsOnce.j4 n l lv S m seen (i : Int) last (k : Int) p j b) true := fun j b hb => by
    refine E.succ (E.neg (by rw [hb]; decide) ?_)
    rw [w]
    exact hN
  intro t
  induction t with
  | zero =>
    intro j hj ht
    by_cases q : (k : Int) > 0
    · exact E.succ (E.pos q (hF j _ (decide_eq_false (by omega))))
    · exact E.succ (E.neg q (hF j _ rfl))
  | succ t ih =>
    intro j hj ht
    by_cases q : (k : Int) > 0
    · obtain ⟨h0, ha⟩ := hadj (by omega)
      have hjp : j < p := by omega
      have w2 : wrap64 (j + 1) = j + 1 := E.w64 (by omega) (by omega)
      have IH := ih (j + 1) (by omega) (by omega)
      rw [← w2] at IH
      have hT : ∀ b : Bool, b = true → Ev (fun n => selvedgelaw15_RunsOnce.j4 n l lv S m seen (i : Int) last (k : Int) p j b) true := fun b hb => by
        refine E.succ (E.pos hb (E.pos (by omega) (E.pos (by omega) (E.bno (removed14 _) ?_))))
        cases hr : remC (rd l j) with
        | true => exact E.pos rfl IH
        | false =>
          refine E.neg (by decide) (E.pos h0 (E.pos (by omega) (E.pos ?_ IH)))
          rcases ha with ha | ha
          · rw [ha j hj hjp] at hr; cases hr
          · exact ha
      exact E.succ (E.pos q (hT _ (decide_eq_true hjp)))
    · exact E.succ (E.neg q (hF j _ rfl))
omit h hl hlv hm hSl in
theorem inc_rd (x : List Int) (hi : x.Pairwise (· < ·)) (a b : Nat) (hab : a < b) (hb : b < x.length) : rd x a < rd x b := by
  rw [E.rd_get (by omega), E.rd_get hb]
  exact List.pairwise_iff_getElem.mp hi a b (by omega) hb hab
theorem on_l1 (i : Nat) (hi : i < S.length) (hN : ∀ seen, Seen l.length seen (fun p => ∃ s : Nat, s < i + 1 ∧ (p : Int) ∈ (rd_T36 S s).f0) → Ev (fun n => selvedgelaw15_RunsOnce.l0 n l lv S m seen ((i : Int) + 1)) true) :
    ∀ (t k : Nat) (seen : List Bool) (last : Int), k + t = (rd_T36 S i).f0.length → last = (if k = 0 then -1 else rd (rd_T36 S i).f0 ((k : Int) - 1)) → Seen l.length seen (fun p => (∃ s : Nat, s < i ∧ (p : Int) ∈ (rd_T36 S s).f0) ∨ ∃ k' : Nat, k' < k ∧ rd (rd_T36 S i).f0 k' = (p : Int)) →
    Ev (fun n => selvedgelaw15_RunsOnce.l1 n l lv S m seen (i : Int) last (k : Int)) true := by
  have hso := h.so i hi
  have hne := List.length_pos_iff.mpr hso.ne
  have hxl : (rd_T36 S i).f0.length ≤ 100000 := by
    have := List.Pairwise.imp (S := (· ≠ ·)) (fun h => by omega) hso.inc
    -- strictly rising places below l.length
    have key : ∀ k : Nat, k < (rd_T36 S i).f0.length → (k : Int) ≤ rd (rd_T36 S i).f0 k := by
      intro k
      induction k with
      | zero => intro hk; exact (hso.pl _ (E.rd_mem (by omega) (by omega))).1
      | succ k ih =>
        intro hk
        have h1 := ih (by omega)
        have h2 := inc_rd _ hso.inc k (k + 1) (by omega) hk
        omega
    have h1 := key ((rd_T36 S i).f0.length - 1) (by omega)
    have h2 := (hso.pl _ (E.rd_mem (l := (rd_T36 S i).f0) (i := (((rd_T36 S i).f0.length - 1 : Nat) : Int)) (by omega) (by omega))).2.1
    omega
  have w1 : wrap64 ((i : Int) + 1) = (i : Int) + 1 := E.w64 (by omega) (by omega)
  have w2 : wrap64 ((i : Int) - 1) = (i : Int) - 1 := E.w64 (by omega) (by omega)
  intro t
  induction t with
  | zero =>
    intro k seen last hk hla hs
    have hN2 : Ev (fun n => selvedgelaw15_RunsOnce.l0 n l lv S m seen (wrap64 ((i : Int) + 1))) true := by
      rw [w1]
      refine hN seen ⟨hs.1, fun p hp => ?_⟩
      rw [hs.2 p hp]
      constructor
      · rintro (⟨s, h1, h2⟩ | ⟨k', h1, h2⟩)
        · exact ⟨s, by omega, h2⟩
        · exact ⟨i, by omega, by rw [← h2]; exact E.rd_mem (by omega) (by omega)⟩
      · rintro ⟨s, h1, h2⟩
        rcases Nat.lt_or_ge s i with q | q
        · exact .inl ⟨s, q, h2⟩
        · have : s = i := by omega
          subst this
          obtain ⟨k', h3, h4⟩ := List.getElem_of_mem h2
          exact .inr ⟨k', by omega, by rw [E.rd_get h3]; exact h4⟩
    refine E.succ ?_
    unfold selvedgelaw15_RunsOnce.l1
    refine E.pos (by omega) (E.pos (by omega) (E.neg (by omega) (E.neg (by omega) ?_)))
    by_cases q : (i : Int) > 0
    · have e1 : wrap64 ((i : Int) - 1) = ((i - 1 : Nat) : Int) := by rw [w2]; omega
      have hne2 := List.length_pos_iff.mpr (h.so (i - 1) (by omega)).ne
      have hh := h.hd (i - 1) i (by omega) hi
      refine E.pos q (E.pos (by omega) (E.pos (by omega) (E.pos (by omega) (E.pos ?_ (E.neg ?_ hN2)))))
      · rw [e1]; omega
      · rw [e1]; omega
    · exact E.neg q hN2
  | succ t ih =>
    intro k seen last hk hla hs
    obtain ⟨p, hp⟩ : ∃ p, rd (rd_T36 S i).f0 (k : Int) = p := ⟨_, rfl⟩
    have hpl := hso.pl _ (E.rd_mem (l := (rd_T36 S i).f0) (i := (k : Int)) (by omega) (by omega))
    rw [hp] at hpl
    have hlast : last < p ∧ -1 ≤ last := by
      rw [hla]
      split
      · omega
      · next q =>
        have := inc_rd _ hso.inc (k - 1) k (by omega) (by omega)
        rw [show ((k - 1 : Nat) : Int) = (k : Int) - 1 by omega, hp] at this
        have h3 := hso.pl _ (E.rd_mem (l := (rd_T36 S i).f0) (i := (k : Int) - 1) (by omega) (by omega))
        omega
    obtain ⟨q, hq⟩ := Int.eq_ofNat_of_zero_le hpl.1
    have hsn : ¬ rdOf false seen p = true := by
      rw [hq]
      intro e
      rcases (hs.2 q (by omega)).mp e with ⟨s, h1, h2⟩ | ⟨k', h1, h2⟩
      · refine h.dj s i (by omega) hi (by omega) _ h2 ?_
        rw [← hq, ← hp]
        exact E.rd_mem (by omega) (by omega)
      · have := inc_rd _ hso.inc k' k h1 (by omega)
        omega
    have hs2 : Seen l.length (seen.set q true) (fun p => (∃ s : Nat, s < i ∧ (p : Int) ∈ (rd_T36 S s).f0) ∨ ∃ k' : Nat, k' < k + 1 ∧ rd (rd_T36 S i).f0 k' = (p : Int)) := hs.set q (by omega) _ (fun r => by
      constructor
      · rintro (h1 | ⟨k', h1, h2⟩)
        · exact .inl (.inl h1)
        · rcases Nat.lt_or_ge k' k with g | g
          · exact .inl (.inr ⟨k', g, h2⟩)
          · have : k' = k := by omega
            subst this
            exact .inr (by omega)
      · rintro ((h1 | ⟨k', h1, h2⟩) | h1)
        · exact .inl h1
        · exact .inr ⟨k', by omega, h2⟩
        · exact .inr ⟨k, by omega, by rw [hp, hq, h1]⟩)
    have w3 : wrap64 (last + 1) = last + 1 := E.w64 (by omega) (by omega)
    have hIH := ih (k + 1) (seen.set q true) p (by omega) (by rw [if_neg (by omega), show ((k + 1 : Nat) : Int) - 1 = (k : Int) by omega, hp]) hs2
    have hadj : 0 < k → 0 ≤ last ∧ Adj l m last p := fun hk0 => by
      have h1 := hso.adj (k - 1) (by omega)
      rw [show ((k - 1 : Nat) : Int) = (k : Int) - 1 by omega, show (k - 1 + 1 : Nat) = k by omega, hp] at h1
      rw [hla, if_neg (by omega)]
      exact ⟨(hso.pl _ (E.rd_mem (by omega) (by omega))).1, h1⟩
    have hL2 := on_l2 l lv m S hl hlv hm (seen.set q true) i k last p hlast.2 hpl.2.1 hadj (by rw [show (k : Int) + 1 = ((k + 1 : Nat) : Int) by omega]; exact hIH) (by omega) (max p (last + 1) - (last + 1)).toNat (last + 1) (by omega) (by omega)
    rw [← w3] at hL2
    have hj2 : ∀ b : Bool, b = false → Ev (fun n => selvedgelaw15_RunsOnce.j2 n l lv S m seen (i : Int) last (k : Int) p b) true := fun b hb => by
      refine E.succ (E.neg (by rw [hb]; decide) (E.pos hpl.1 (E.pos (by rw [hs.1]; omega) ?_)))
      rw [show p.toNat = q by omega]
      exact hL2
    have hsl := hs.1
    refine E.succ ?_
    unfold selvedgelaw15_RunsOnce.l1
    refine E.pos (by omega) (E.pos (by omega) (E.pos (by omega) (E.pos (by omega) ?_)))
    rw [hp]
    refine E.neg (by omega) (E.neg (by omega) (E.pos hpl.1 (E.pos (by omega) (E.neg hsn (E.pos (by omega) (E.bno (removed14 _) ?_))))))
    rw [hpl.2.2.1]
    exact E.neg (by decide) (E.pos (by omega) (hj2 _ (by rw [hpl.2.2.2]; simp)))
theorem on_l0 : ∀ (t i : Nat) (seen : List Bool), i + t = S.length → Seen l.length seen (fun p => ∃ s : Nat, s < i ∧ (p : Int) ∈ (rd_T36 S s).f0) → Ev (fun n => selvedgelaw15_RunsOnce.l0 n l lv S m seen (i : Int)) true := by
  intro t
  induction t with
  | zero =>
    intro i seen hi hs
    have e : i = S.length := by omega
    rw [e] at hs ⊢
    exact E.succ (E.neg (by omega) (on_l3 l lv m S h hl hlv hm seen hs l.length 0 (by omega)))
  | succ t ih =>
    intro i seen hi hs
    refine E.succ (E.pos (by omega) ?_)
    refine on_l1 l lv m S h hl hlv hm hSl i (by omega) (fun seen hs => ?_) (rd_T36 S i).f0.length 0 seen (-1) (by omega) rfl ⟨hs.1, fun p hp => ?_⟩
    · have := ih (i + 1) seen (by omega) hs
      rw [show ((i + 1 : Nat) : Int) = (i : Int) + 1 by omega] at this
      exact this
    · rw [hs.2 p hp]
      constructor
      · exact .inl
      · rintro (h1 | ⟨k', h1, _⟩)
        · exact h1
        · omega
end
theorem RunsOnce : selvedgelaw15_RunsOnce.Pure := by
  intro l base _ _ hlw hbw
  have hb := E.u8_lo hbw
  refine E.out (g := fun k => selvedgelaw15_RunsOnce.f k l base) ?_
  by_cases hL : (l.length : Int) > 2000
  · exact E.pos hL (E.bnd works_ev (E.ret rfl))
  · have hlev : selvedgeref14_Levels.f l base = some (lvRes l base) := if_pos hb.1
    refine E.neg hL (E.bno hlev ?_)
    by_cases q1 : l.all okC = false
    · have e : lvRes l base = ([], [], 0, 2) := (if_neg (by omega)).trans (if_pos q1)
      rw [e]
      exact E.neg (by decide) (E.bnd works_ev (E.ret rfl))
    · by_cases q2 : 2 < base
      · have e : lvRes l base = ([], [], 0, 2) := (if_neg (by omega)).trans ((if_neg q1).trans (if_pos q2))
        rw [e]
        exact E.neg (by decide) (E.bnd works_ev (E.ret rfl))
      · obtain ⟨n, hn⟩ : ∃ n, lvBase l base = n := ⟨_, rfl⟩
        have hn2 : 0 ≤ n ∧ n ≤ 1 := by
          rw [← hn]
          unfold lvBase
          split
          · split <;> decide
          · omega
        have e : lvRes l base = ((runL n l (newA n) n).map (·.1), (runL n l (newA n) n).map (·.2), n, 0) := (if_neg (by omega)).trans ((if_neg q1).trans ((if_neg q2).trans (by rw [hn])))
        rw [e]
        have hlen : ((runL n l (newA n) n).map (·.1)).length = l.length := by rw [List.length_map, runL_len]
        have hall : (((runL n l (newA n) n).map (·.1)).all fun x => decide (0 ≤ x ∧ x ≤ 255)) = true := List.all_eq_true.mpr (fun x hx => decide_eq_true (runL_range n hn2.1 hn2.2 l _ n 0 (Int.le_refl 0) (Wf.new hn2.1 hn2.2) hn2.1 (by omega) x hx))
        have hs := seq_f l ((runL n l (newA n) n).map (·.1)) n ⟨hn2.1, by omega⟩ hall (by omega) hlen
        have ho := once_ok l ((runL n l (newA n) n).map (·.1)) (mtOf l) (ahF l ((runL n l (newA n) n).map (·.1)) n) (beF l ((runL n l (newA n) n).map (·.1)) n) n (levM_of n hn2.1 hn2.2 l)
        have hal := (sqAt_ok l ((runL n l (newA n) n).map (·.1)) (mtOf l) (ahF l ((runL n l (newA n) n).map (·.1)) n) l.length).al
        refine E.pos rfl (E.bno hs (E.pos rfl (E.bnd (ref14_Match_ev l (by omega)) (E.pos (by omega) (E.pos (by omega) ?_)))))
        rw [Int.toNat_natCast]
        exact on_l0 l _ (mtOf l) _ ho (by omega) hlen (mtOf_ok l).1 (by rw [List.length_map]; omega) _ 0 _ (Nat.zero_add _) ⟨by simp, fun p hp => by simp [rdOf, hp]⟩
end Go.Proofs.Ytofiflhjlohakaa.Pure
