import Derived.Test.YtiogpnefnapfeaaDoorE
/-! Chapter 17: the pairs of a row, plainly. -/
namespace Go.Proofs.YtiogpnefnapfeaaDoor.Pure
set_option linter.unusedVariables false
set_option linter.unusedSimpArgs false
/-- The brackets: opening, closing. -/
def BT : List (Int × Int) := [(0x0028, 0x0029), (0x005B, 0x005D), (0x007B, 0x007D), (0x2045, 0x2046), (0x207D, 0x207E), (0x208D, 0x208E), (0x2308, 0x2309), (0x230A, 0x230B), (0x2329, 0x232A), (0x27E6, 0x27E7), (0x27E8, 0x27E9), (0x27EA, 0x27EB), (0x27EC, 0x27ED), (0x27EE, 0x27EF), (0x3008, 0x3009), (0x300A, 0x300B), (0x300C, 0x300D), (0x300E, 0x300F), (0x3010, 0x3011), (0x3014, 0x3015), (0x3016, 0x3017), (0x3018, 0x3019), (0x301A, 0x301B)]
/-- What is told of a character: its closing one, does it open, is it one. -/
def brkIn (r : Int) : List (Int × Int) → Int × Bool × Bool
  | [] => (0, false, false)
  | x :: t => if r ≠ x.1 ∧ r ≠ x.2 then brkIn r t else (if x.2 = 9002 then 12297 else x.2, r == x.1, true)
def brk (r : Int) : Int × Bool × Bool := brkIn r BT
def seek (c : Int) (st : List (Int × Int)) : Nat → Option Nat
  | 0 => none
  | k + 1 => if (st.getD k (0, 0)).1 = c then some k else seek c st k
theorem seek_some {c : Int} {st : List (Int × Int)} {j : Nat} : ∀ {k : Nat}, seek c st k = some j → j < k ∧ (st.getD j (0, 0)).1 = c := by
  intro k
  induction k with
  | zero => intro h; cases h
  | succ k ih =>
    intro h
    unfold seek at h
    split at h
    · next q => injection h with h; subst h; exact ⟨Nat.lt_succ_self _, q⟩
    · have := ih h; exact ⟨by omega, this.2⟩
/-- The pairs, as their closing ones come; m characters are left, the next one is i. -/
def go (l now : List Int) : Nat → Nat → List (Int × Int) → List (Int × Int)
  | 0, _, _ => []
  | m + 1, i, st =>
    if (brk (l.getD i 0)).2.2 = false ∨ now.getD i 0 ≠ 14 then go l now m (i + 1) st
    else if (brk (l.getD i 0)).2.1 = true then
      if st.length = 63 then [] else go l now m (i + 1) (st ++ [((brk (l.getD i 0)).1, (i : Int))])
    else match seek (brk (l.getD i 0)).1 st st.length with
      | none => go l now m (i + 1) st
      | some k => ((st.getD k (0, 0)).2, (i : Int)) :: go l now m (i + 1) (st.take k)
structure Inv (l now : List Int) (i : Nat) (st : List (Int × Int)) : Prop where
  lt : ∀ e ∈ st, 0 ≤ e.2 ∧ e.2 < i
  inc : st.Pairwise (fun a b => a.2 < b.2)
  fact : ∀ e ∈ st, brk (l.getD e.2.toNat 0) = (e.1, true, true) ∧ now.getD e.2.toNat 0 = 14
theorem Inv.nil (l now : List Int) (i : Nat) : Inv l now i [] := ⟨fun _ h => (by cases h), List.Pairwise.nil, fun _ h => (by cases h)⟩
theorem Inv.skip {l now : List Int} {i : Nat} {st : List (Int × Int)} (h : Inv l now i st) : Inv l now (i + 1) st :=
  ⟨fun e he => ⟨(h.lt e he).1, by have := (h.lt e he).2; omega⟩, h.inc, h.fact⟩
theorem Inv.push {l now : List Int} {i : Nat} {st : List (Int × Int)} (h : Inv l now i st) (h1 : (brk (l.getD i 0)).2.2 = true) (h2 : now.getD i 0 = 14) (h3 : (brk (l.getD i 0)).2.1 = true) : Inv l now (i + 1) (st ++ [((brk (l.getD i 0)).1, (i : Int))]) := by
  refine ⟨fun e he => ?_, ?_, fun e he => ?_⟩
  · rcases List.mem_append.1 he with q | q
    · have := h.lt e q; omega
    · rw [List.mem_singleton.1 q]; dsimp only; omega
  · rw [List.pairwise_append]
    refine ⟨h.inc, List.pairwise_singleton _ _, fun a ha b hb => ?_⟩
    rw [List.mem_singleton.1 hb]
    exact (h.lt a ha).2
  · rcases List.mem_append.1 he with q | q
    · exact h.fact e q
    · rw [List.mem_singleton.1 q]
      dsimp only
      rw [Int.toNat_natCast]
      exact ⟨Prod.ext rfl (Prod.ext h3 h1), h2⟩
theorem Inv.take {l now : List Int} {i : Nat} {st : List (Int × Int)} (h : Inv l now i st) (k : Nat) : Inv l now i (st.take k) :=
  ⟨fun e he => h.lt e (List.mem_of_mem_take he), h.inc.sublist (List.take_sublist _ _), fun e he => h.fact e (List.mem_of_mem_take he)⟩
/-- Two brackets that pair. -/
structure IsPair (l now : List Int) (p : Int × Int) : Prop where
  nn : 0 ≤ p.1
  lt : p.1 < p.2
  ends : ∃ c, brk (l.getD p.1.toNat 0) = (c, true, true) ∧ brk (l.getD p.2.toNat 0) = (c, false, true)
  a : now.getD p.1.toNat 0 = 14
  b : now.getD p.2.toNat 0 = 14
theorem getD_mem {α : Type} {st : List α} {k : Nat} (d : α) (h : k < st.length) : st.getD k d ∈ st := by
  rw [List.getD_eq_getElem?_getD, List.getElem?_eq_getElem h]
  exact List.getElem_mem h
theorem go_mem {l now : List Int} : ∀ (m i : Nat) (st : List (Int × Int)), Inv l now i st → ∀ p ∈ go l now m i st, ((∃ e ∈ st, e.2 = p.1) ∨ (i : Int) ≤ p.1) ∧ (i : Int) ≤ p.2 ∧ p.2 < i + m ∧ IsPair l now p := by
  intro m
  induction m with
  | zero => intro i st h p hp; cases hp
  | succ m ih =>
    intro i st h p hp
    unfold go at hp
    split at hp
    · obtain ⟨a, b, c, d⟩ := ih _ _ h.skip p hp
      refine ⟨?_, by omega, by omega, d⟩
      rcases a with a | a
      · exact Or.inl a
      · exact Or.inr (by omega)
    · next q =>
      have q1 : (brk (l.getD i 0)).2.2 = true := by cases z : (brk (l.getD i 0)).2.2 <;> simp_all
      have q2 : now.getD i 0 = 14 := by by_cases z : now.getD i 0 = 14; exact z; exact absurd (Or.inr z) q
      split at hp
      · next q3 =>
        split at hp
        · cases hp
        · obtain ⟨a, b, c, d⟩ := ih _ _ (h.push q1 q2 q3) p hp
          refine ⟨?_, by omega, by omega, d⟩
          rcases a with ⟨e, he, a⟩ | a
          · rcases List.mem_append.1 he with z | z
            · exact Or.inl ⟨e, z, a⟩
            · rw [List.mem_singleton.1 z] at a
              dsimp only at a
              exact Or.inr (by omega)
          · exact Or.inr (by omega)
      · next q3 =>
        have q3 : (brk (l.getD i 0)).2.1 = false := by cases z : (brk (l.getD i 0)).2.1 <;> simp_all
        split at hp
        · obtain ⟨a, b, c, d⟩ := ih _ _ h.skip p hp
          refine ⟨?_, by omega, by omega, d⟩
          rcases a with a | a
          · exact Or.inl a
          · exact Or.inr (by omega)
        · next k hk =>
          obtain ⟨k1, k2⟩ := seek_some hk
          have hm := getD_mem (0, 0) k1
          have hl := h.lt _ hm
          have hf := h.fact _ hm
          rcases List.mem_cons.1 hp with z | z
          · subst z
            refine ⟨Or.inl ⟨_, hm, rfl⟩, by dsimp only; omega, by dsimp only; omega, hl.1, hl.2, ⟨_, hf.1, ?_⟩, hf.2, ?_⟩
            · dsimp only
              rw [Int.toNat_natCast, k2, ← q1, ← q3]
            · dsimp only
              rw [Int.toNat_natCast, q2]
          · obtain ⟨a, b, c, d⟩ := ih _ _ (h.take k).skip p z
            refine ⟨?_, by omega, by omega, d⟩
            rcases a with ⟨e, he, a⟩ | a
            · exact Or.inl ⟨e, List.mem_of_mem_take he, a⟩
            · exact Or.inr (by omega)
theorem go_pw {l now : List Int} : ∀ (m i : Nat) (st : List (Int × Int)), Inv l now i st → (go l now m i st).Pairwise (fun p q => p.2 < q.2 ∧ (q.1 < p.1 ∨ p.2 < q.1)) := by
  intro m
  induction m with
  | zero => intro i st h; exact List.Pairwise.nil
  | succ m ih =>
    intro i st h
    unfold go
    split
    · exact ih _ _ h.skip
    · next q =>
      have q1 : (brk (l.getD i 0)).2.2 = true := by cases z : (brk (l.getD i 0)).2.2 <;> simp_all
      have q2 : now.getD i 0 = 14 := by by_cases z : now.getD i 0 = 14; exact z; exact absurd (Or.inr z) q
      split
      · next q3 =>
        split
        · exact List.Pairwise.nil
        · exact ih _ _ (h.push q1 q2 q3)
      · split
        · exact ih _ _ h.skip
        · next k hk =>
          obtain ⟨k1, k2⟩ := seek_some hk
          refine List.Pairwise.cons (fun p hp => ?_) (ih _ _ (h.take k).skip)
          obtain ⟨a, b, c, d⟩ := go_mem _ _ _ (h.take k).skip p hp
          dsimp only
          refine ⟨by omega, ?_⟩
          rcases a with ⟨e, he, a⟩ | a
          · refine Or.inl ?_
            rw [← a]
            have hd : st = st.take k ++ st.drop k := (List.take_append_drop k st).symm
            have hi := h.inc
            rw [hd, List.pairwise_append] at hi
            have hg : st.getD k (0, 0) ∈ st.drop k := by
              rw [List.getD_eq_getElem?_getD, List.getElem?_eq_getElem k1, List.drop_eq_getElem_cons k1]
              exact List.mem_cons_self
            exact hi.2.2 e he _ hg
          · exact Or.inr (by omega)
/-- The row of closing ones. -/
def putF (cs : List Int) (L : List (Int × Int)) : List Int := L.foldl (fun c p => c.set p.1.toNat p.2) cs
def scanF : List Int → Nat → List (Int × Int)
  | [], _ => []
  | c :: cs, i => if c > 0 then ((i : Int), c) :: scanF cs (i + 1) else scanF cs (i + 1)
theorem putF_len (L : List (Int × Int)) : ∀ cs : List Int, (putF cs L).length = cs.length := by
  induction L with
  | nil => intro cs; rfl
  | cons p L ih => intro cs; show (putF (cs.set p.1.toNat p.2) L).length = _; rw [ih, List.length_set]
theorem putF_out (L : List (Int × Int)) : ∀ (cs : List Int) (x : Nat), (∀ p ∈ L, p.1.toNat ≠ x) → (putF cs L).getD x 0 = cs.getD x 0 := by
  induction L with
  | nil => intro cs x h; rfl
  | cons p L ih =>
    intro cs x h
    show (putF (cs.set p.1.toNat p.2) L).getD x 0 = _
    rw [ih _ _ (fun q hq => h q (List.mem_cons_of_mem _ hq)), List.getD_eq_getElem?_getD, List.getElem?_set_ne (h p List.mem_cons_self), ← List.getD_eq_getElem?_getD]
theorem putF_in (L : List (Int × Int)) : ∀ (cs : List Int), L.Pairwise (fun p q => p.1 ≠ q.1) → (∀ p ∈ L, 0 ≤ p.1 ∧ p.1 < cs.length) → ∀ p ∈ L, (putF cs L).getD p.1.toNat 0 = p.2 := by
  induction L with
  | nil => intro cs h1 h2 p hp; cases hp
  | cons a L ih =>
    intro cs h1 h2 p hp
    show (putF (cs.set a.1.toNat a.2) L).getD p.1.toNat 0 = p.2
    obtain ⟨g1, g2⟩ := List.pairwise_cons.1 h1
    rcases List.mem_cons.1 hp with z | z
    · subst z
      have hb := h2 p List.mem_cons_self
      rw [putF_out _ _ _ (fun q hq e => g1 q hq (by have := h2 q (List.mem_cons_of_mem _ hq); omega)), List.getD_eq_getElem?_getD, List.getElem?_set_self (by omega)]
      rfl
    · exact ih _ g2 (fun q hq => by have := h2 q (List.mem_cons_of_mem _ hq); rw [List.length_set]; exact this) p z
theorem mem_scanF : ∀ (cs : List Int) (i : Nat) (p : Int × Int), p ∈ scanF cs i ↔ ∃ k, k < cs.length ∧ p.1 = ((i + k : Nat) : Int) ∧ p.2 = cs.getD k 0 ∧ 0 < p.2 := by
  intro cs
  induction cs with
  | nil => intro i p; simp [scanF]
  | cons c cs ih =>
    intro i p
    unfold scanF
    have e : (∃ k, k < cs.length ∧ p.1 = ((i + 1 + k : Nat) : Int) ∧ p.2 = cs.getD k 0 ∧ 0 < p.2) → ∃ k, k < (c :: cs).length ∧ p.1 = ((i + k : Nat) : Int) ∧ p.2 = (c :: cs).getD k 0 ∧ 0 < p.2 := by
      rintro ⟨k, a, b, d, f⟩
      exact ⟨k + 1, by simp; omega, by rw [b]; omega, by simpa using d, f⟩
    split
    · next q =>
      rw [List.mem_cons, ih]
      constructor
      · rintro (z | z)
        · subst z
          exact ⟨0, by simp, by simp, by simp, q⟩
        · exact e z
      · rintro ⟨k, a, b, d, f⟩
        cases k with
        | zero => exact Or.inl (Prod.ext (by simpa using b) (by simpa using d))
        | succ k => exact Or.inr ⟨k, by simpa using a, by rw [b]; omega, by simpa using d, f⟩
    · next q =>
      rw [ih]
      constructor
      · exact e
      · rintro ⟨k, a, b, d, f⟩
        cases k with
        | zero => exact absurd (by have : p.2 = c := (by simpa using d); omega) q
        | succ k => exact ⟨k, by simpa using a, by rw [b]; omega, by simpa using d, f⟩
theorem scanF_inc : ∀ (cs : List Int) (i : Nat), (scanF cs i).Pairwise (fun p q => p.1 < q.1) := by
  intro cs
  induction cs with
  | nil => intro i; exact List.Pairwise.nil
  | cons c cs ih =>
    intro i
    unfold scanF
    split
    · refine List.Pairwise.cons (fun p hp => ?_) (ih _)
      obtain ⟨k, a, b, _⟩ := (mem_scanF _ _ _).1 hp
      dsimp only
      omega
    · exact ih _
/-- Two rows that rise and have the same members are the same. -/
theorem inc_same : ∀ (a b : List (Int × Int)), a.Pairwise (fun p q => p.1 < q.1) → b.Pairwise (fun p q => p.1 < q.1) → (∀ p, p ∈ a ↔ p ∈ b) → a = b := by
  intro a
  induction a with
  | nil =>
    intro b _ _ h
    cases b with
    | nil => rfl
    | cons y b => exact absurd ((h y).2 List.mem_cons_self) List.not_mem_nil
  | cons x a ih =>
    intro b ha hb h
    cases b with
    | nil => exact absurd ((h x).1 List.mem_cons_self) List.not_mem_nil
    | cons y b =>
      obtain ⟨a1, a2⟩ := List.pairwise_cons.1 ha
      obtain ⟨b1, b2⟩ := List.pairwise_cons.1 hb
      have e : x = y := by
        rcases List.mem_cons.1 ((h x).1 List.mem_cons_self) with z | z
        · exact z
        · rcases List.mem_cons.1 ((h y).2 List.mem_cons_self) with z1 | z1
          · exact z1.symm
          · have := a1 y z1; have := b1 x z; omega
      subst e
      congr 1
      refine ih b a2 b2 (fun p => ⟨fun hp => ?_, fun hp => ?_⟩)
      · rcases List.mem_cons.1 ((h p).1 (List.mem_cons_of_mem _ hp)) with z | z
        · subst z; have := a1 p hp; omega
        · exact z
      · rcases List.mem_cons.1 ((h p).2 (List.mem_cons_of_mem _ hp)) with z | z
        · subst z; have := b1 p hp; omega
        · exact z
/-- The pairs as they are closed. -/
def goF (l now : List Int) : List (Int × Int) := go l now (min l.length now.length) 0 []
/-- The pairs of a row, by their opening ones. -/
def pairsF (l now : List Int) : List (Int × Int) := scanF (putF (List.replicate l.length 0) (goF l now)) 0
theorem goF_mem {l now : List Int} {p : Int × Int} (h : p ∈ goF l now) : IsPair l now p ∧ p.2 < l.length ∧ p.2 < now.length := by
  obtain ⟨a, b, c, d⟩ := go_mem _ _ _ (Inv.nil l now 0) p h
  exact ⟨d, by omega, by omega⟩
theorem goF_pw (l now : List Int) : (goF l now).Pairwise (fun p q => p.2 < q.2 ∧ (q.1 < p.1 ∨ p.2 < q.1)) := go_pw _ _ _ (Inv.nil l now 0)
theorem goF_ne (l now : List Int) : (goF l now).Pairwise (fun p q => p.1 ≠ q.1) := by
  refine (List.pairwise_iff_forall_sublist.2 fun {a b} hs => ?_)
  have h1 := List.pairwise_iff_forall_sublist.1 (goF_pw l now) hs
  have hm : a ∈ goF l now := hs.subset (by simp)
  have := (goF_mem hm).1.lt
  omega
theorem mem_pairsF {l now : List Int} (p : Int × Int) : p ∈ pairsF l now ↔ p ∈ goF l now := by
  unfold pairsF
  rw [mem_scanF]
  have hin := putF_in (goF l now) (List.replicate l.length 0) (goF_ne l now) (fun p hp => by have z0 := goF_mem hp; have z1 := z0.1.nn; have z2 := z0.1.lt; rw [List.length_replicate]; omega)
  constructor
  · rintro ⟨k, a, b, c, d⟩
    by_cases q : ∃ q ∈ goF l now, q.1.toNat = k
    · obtain ⟨q, hq, e⟩ := q
      have h1 := hin q hq
      rw [e, ← c] at h1
      have h2 := (goF_mem hq).1.nn
      have : p = q := Prod.ext (by omega) h1
      rw [this]
      exact hq
    · rw [putF_out _ _ _ (fun p hp e => q ⟨p, hp, e⟩)] at c
      rw [putF_len, List.length_replicate] at a
      rw [List.getD_eq_getElem?_getD, List.getElem?_replicate_of_lt a] at c
      simp at c
      omega
  · intro hp
    have h1 := goF_mem hp
    have h2 := h1.1.nn
    have h3 := h1.1.lt
    exact ⟨p.1.toNat, by rw [putF_len, List.length_replicate]; omega, by omega, (hin p hp).symm, by omega⟩
theorem pairsF_inc (l now : List Int) : (pairsF l now).Pairwise (fun p q => p.1 < q.1) := scanF_inc _ _
/-- What holds of two pairs, the first one ahead. -/
theorem pairsF_nest {l now : List Int} {p q : Int × Int} (hp : p ∈ pairsF l now) (hq : q ∈ pairsF l now) (h : p.1 < q.1) : p.2 < q.1 ∨ q.2 < p.2 := by
  rw [mem_pairsF] at hp hq
  have hpw := goF_pw l now
  obtain ⟨i, hi, ei⟩ := List.getElem_of_mem hp
  obtain ⟨j, hj, ej⟩ := List.getElem_of_mem hq
  rw [List.pairwise_iff_getElem] at hpw
  rcases Nat.lt_trichotomy i j with z | z | z
  · have := hpw i j hi hj z
    rw [ei, ej] at this
    omega
  · subst z
    rw [ei] at ej
    subst ej
    omega
  · have := hpw j i hj hi z
    rw [ei, ej] at this
    omega
theorem brk_open {r c : Int} {a b : Bool} (h : brk r = (c, a, b)) : (brk r).1 = c ∧ (brk r).2.1 = a ∧ (brk r).2.2 = b := by rw [h]; exact ⟨rfl, rfl, rfl⟩
/-- Places of brackets of two pairs are unlike. -/
theorem pairsF_apart {l now : List Int} {p q : Int × Int} (hp : p ∈ pairsF l now) (hq : q ∈ pairsF l now) : p.1 ≠ q.2 ∧ (p.1 = q.1 → p = q) ∧ (p.2 = q.2 → p = q) := by
  rw [mem_pairsF] at hp hq
  obtain ⟨c, e1, e2⟩ := (goF_mem hp).1.ends
  obtain ⟨d, f1, f2⟩ := (goF_mem hq).1.ends
  refine ⟨fun e => ?_, fun e => ?_, fun e => ?_⟩
  · rw [e] at e1
    rw [e1] at f2
    simp at f2
  · obtain ⟨i, hi, ei⟩ := List.getElem_of_mem hp
    obtain ⟨j, hj, ej⟩ := List.getElem_of_mem hq
    have hpw := goF_ne l now
    rw [List.pairwise_iff_getElem] at hpw
    rcases Nat.lt_trichotomy i j with z | z | z
    · exact absurd e (by rw [← ei, ← ej]; exact hpw i j hi hj z)
    · subst z; rw [← ei, ← ej]
    · exact absurd e.symm (by rw [← ei, ← ej]; exact hpw j i hj hi z)
  · obtain ⟨i, hi, ei⟩ := List.getElem_of_mem hp
    obtain ⟨j, hj, ej⟩ := List.getElem_of_mem hq
    have hpw := goF_pw l now
    rw [List.pairwise_iff_getElem] at hpw
    rcases Nat.lt_trichotomy i j with z | z | z
    · have := (hpw i j hi hj z).1; rw [ei, ej] at this; omega
    · subst z; rw [← ei, ← ej]
    · have := (hpw j i hj hi z).1; rw [ei, ej] at this; omega
end Go.Proofs.YtiogpnefnapfeaaDoor.Pure
