import Derived.Test.YtnpcfiahmadkjaaX2
import Derived.Test.YtnpcfiahmadkjaaX3
import Derived.Test.YtnpcfiahmadkjaaX4
import Derived.Test.YtnpcfiahmadkjaaT7
import Derived.Test.YtnpcfiahmadkjaaE
/-! What the rules of chapter 16 come to: plain laws, and the reference's functions. -/
namespace Go.Proofs.Ytnpcfiahmadkjaa.A
open Go.RowKit Go.Proofs.Ytnpcfiahmadkjaa.X Go.Proofs.YtnpcfiahmadkjaaW.PrintWords Go.Proofs.YtnpcfiahmadkjaaW.PrintLast Go.Proofs.Ytnpcfiahmadkjaa
set_option linter.unusedVariables false
set_option linter.unusedSimpArgs false

/-! ### Where BN are put in -/
/-- a is l, b is w, with BN put in at the same places. -/
inductive Ins : List Int → List Int → List Int → List Int → Prop where
  | nil : Ins [] [] [] []
  | put {l w a b : List Int} : Ins l w a b → Ins l w (10 :: a) (10 :: b)
  | both {l w a b : List Int} (c x : Int) : Ins l w a b → Ins (c :: l) (x :: w) (c :: a) (x :: b)
theorem Ins.append {l w a b l' w' a' b' : List Int} (h : Ins l w a b) (h' : Ins l' w' a' b') : Ins (l ++ l') (w ++ w') (a ++ a') (b ++ b') := by
  induction h with
  | nil => exact h'
  | put _ ih => exact .put ih
  | both c x _ ih => exact .both c x ih
theorem Ins.r13 {l w a b : List Int} (h : Ins l w a b) : ∀ p n, wkR13 p n a = wkR13 p n l := by
  induction h with
  | nil => intro p n; rfl
  | put _ ih => intro p n; rw [wkR13, if_pos rfl, ih]
  | both c x _ ih => intro p n; rw [wkR13, wkR13]; split
                     · exact ih _ _
                     · rw [ih]
theorem Ins.mg {l w a b : List Int} (h : Ins l w a b) : ∀ r, wkMg l r = w → wkMg a r = b := by
  induction h with
  | nil => intro r _; rfl
  | put _ ih => intro r hw; rw [wkMg, if_pos rfl, ih r hw]
  | both c x _ ih =>
    intro r hw
    rw [wkMg] at hw ⊢
    by_cases h10 : c = 10
    · rw [if_pos h10] at hw ⊢
      injection hw with h1 h2
      rw [ih r h2, h1]
    · rw [if_neg h10] at hw ⊢
      injection hw with h1 h2
      rw [ih _ h2, h1]
theorem Ins.res {l w a b : List Int} (h : Ins l w a b) (s : Int) (hw : wkRes s l = w) : wkRes s a = b := by
  unfold wkRes at hw ⊢
  rw [h.r13]
  exact h.mg _ hw

/-! ### One class after the other -/
theorem wkW4_cons (p c : Int) (t : List Int) : wkW4 p (c :: t) = (if p = t.headD 10 ∧ (p = 4 ∧ (c = 5 ∨ c = 8) ∨ p = 7 ∧ c = 8) then p else c) :: wkW4 (if p = t.headD 10 ∧ (p = 4 ∧ (c = 5 ∨ c = 8) ∨ p = 7 ∧ c = 8) then p else c) t := by
  rw [wkW4]; split <;> rfl
def o5 (q c nx : Int) : Int := if c = 6 then (if q = 4 ∨ nx = 4 then 4 else 14) else if c = 5 ∨ c = 8 then 14 else c
theorem wkW5_cons (q c : Int) (t : List Int) : wkW5 q (c :: t) = o5 q c (wkNx t) :: wkW5 (o5 q c (wkNx t)) t := by
  rw [wkW5]; unfold o5
  split
  · split <;> rfl
  · split <;> rfl
def o7 (s c : Int) : Int := if c = 4 then (if s = 1 then 1 else 4) else c
def s7 (s c : Int) : Int := if c = 1 ∨ c = 2 then c else s
theorem wkW7_cons (s c : Int) (t : List Int) : wkW7 s (c :: t) = o7 s c :: wkW7 (s7 s c) t := by
  rw [wkW7]; unfold o7 s7
  by_cases h : c = 1 ∨ c = 2
  · rw [if_pos h, if_pos h, if_neg (by omega)]
  · rw [if_neg h, if_neg h]; split <;> rfl
theorem wkW4_len (x : List Int) : ∀ p, (wkW4 p x).length = x.length := by
  induction x with
  | nil => intro p; rfl
  | cons c t ih => intro p; rw [wkW4_cons, List.length_cons, List.length_cons, ih]
theorem wkW5_len (x : List Int) : ∀ p, (wkW5 p x).length = x.length := by
  induction x with
  | nil => intro p; rfl
  | cons c t ih => intro p; rw [wkW5_cons, List.length_cons, List.length_cons, ih]
theorem wkW7_len (x : List Int) : ∀ p, (wkW7 p x).length = x.length := by
  induction x with
  | nil => intro p; rfl
  | cons c t ih => intro p; rw [wkW7_cons, List.length_cons, List.length_cons, ih]
theorem fst1_facts (b n c : Int) : ∃ x, (c = 9 → x = b) ∧ (c ≠ 9 → x = c) ∧ (x = 1 ∨ x = 2 → fst1 b n c = (x, x, x)) ∧ (x = 3 → fst1 b n c = (2, 3, 3)) ∧ (x = 4 → n = 3 → fst1 b n c = (7, 4, n)) ∧ (x = 4 → n ≠ 3 → fst1 b n c = (4, 4, n)) ∧
    (20 ≤ x → x ≤ 23 → fst1 b n c = (x, 14, n)) ∧ (x < 1 ∨ 4 < x → ¬(20 ≤ x ∧ x ≤ 23) → fst1 b n c = (x, x, n)) := by
  refine ⟨if c = 9 then b else c, fun h => if_pos h, fun h => if_neg h, ?_⟩
  unfold fst1
  generalize (if c = 9 then b else c) = x
  unfold fst2 isoB
  refine ⟨fun h => ?_, fun h => ?_, fun h h' => ?_, fun h h' => ?_, fun h h' => ?_, fun h h' => ?_⟩
  · rw [if_neg (by simp; omega), if_pos h]
  · rw [if_neg (by simp; omega), if_neg (by omega), if_pos h]
  · rw [if_neg (by simp; omega), if_neg (by omega), if_neg (by omega), if_pos ⟨h, h'⟩]
  · rw [if_neg (by simp; omega), if_neg (by omega), if_neg (by omega), if_neg (by omega), h]
  · rw [if_pos (by simp; omega)]
  · rw [if_neg (by simp; omega), if_neg (by omega), if_neg (by omega), if_neg (by omega)]
/-- One class through W1 to W3, told as numbers. -/
theorem fst1_cases (b n c : Int) : ∃ x o b' n', fst1 b n c = (o, b', n') ∧ (c = 9 → x = b) ∧ (c ≠ 9 → x = c) ∧ ((x = 1 ∨ x = 2) ∧ o = x ∧ b' = x ∧ n' = x ∨ x = 3 ∧ o = 2 ∧ b' = 3 ∧ n' = 3 ∨ x = 4 ∧ n = 3 ∧ o = 7 ∧ b' = 4 ∧ n' = n ∨ x = 4 ∧ n ≠ 3 ∧ o = 4 ∧ b' = 4 ∧ n' = n ∨
    20 ≤ x ∧ x ≤ 23 ∧ o = x ∧ b' = 14 ∧ n' = n ∨ (x < 1 ∨ 4 < x) ∧ ¬(20 ≤ x ∧ x ≤ 23) ∧ o = x ∧ b' = x ∧ n' = n) := by
  obtain ⟨x, h1, h2, h3, h4, h5, h6, h7, h8⟩ := fst1_facts b n c
  by_cases q3 : x = 1 ∨ x = 2
  · exact ⟨x, _, _, _, h3 q3, h1, h2, .inl ⟨q3, rfl, rfl, rfl⟩⟩
  by_cases q4 : x = 3
  · exact ⟨x, _, _, _, h4 q4, h1, h2, .inr (.inl ⟨q4, rfl, rfl, rfl⟩)⟩
  by_cases q5 : x = 4
  · by_cases q6 : n = 3
    · exact ⟨x, _, _, _, h5 q5 q6, h1, h2, .inr (.inr (.inl ⟨q5, q6, rfl, rfl, rfl⟩))⟩
    · exact ⟨x, _, _, _, h6 q5 q6, h1, h2, .inr (.inr (.inr (.inl ⟨q5, q6, rfl, rfl, rfl⟩)))⟩
  by_cases q7 : 20 ≤ x ∧ x ≤ 23
  · exact ⟨x, _, _, _, h7 q7.1 q7.2, h1, h2, .inr (.inr (.inr (.inr (.inl ⟨q7.1, q7.2, rfl, rfl, rfl⟩))))⟩
  · exact ⟨x, _, _, _, h8 (by omega) q7, h1, h2, .inr (.inr (.inr (.inr (.inr ⟨by omega, q7, rfl, rfl, rfl⟩))))⟩

/-! ### What ends: the stage's theorem -/
def eOk : Int → Bool → List Int → List Int → Prop
  | _, _, [], [] => True
  | _, _, [], _ :: _ => False
  | _, _, _ :: _, [] => False
  | st, ar, c :: l, x :: w => (x ≠ 3 ∧ x ≠ 5 ∧ x ≠ 6 ∧ x ≠ 8 ∧ x ≠ 9) ∧ (x = 4 → st ≠ 1 ∧ ar = false) ∧
      (c = 1 ∨ c = 2 → x = c) ∧ (c = 3 → x = 2) ∧ (c = 4 → (ar = true ↔ x = 7) ∧ (ar = false → (x = 1 ↔ st = 1))) ∧ (c < 1 ∨ 9 < c ∨ c = 7 → x = c) ∧
      eOk (if c = 1 ∨ c = 2 then c else if c = 3 then 2 else st) (if c = 1 ∨ c = 2 then false else if c = 3 then true else ar) l w
theorem wkNx_ar (l : List Int) : ∀ b p, p ≠ 4 → wkNx (wkW4 p (wkR13 b 3 l)) ≠ 4 := by
  induction l with
  | nil => intro b p h; simp [wkR13, wkW4, wkNx]
  | cons c l ih =>
    intro b p h
    rw [wkR13]
    by_cases h10 : c = 10
    · rw [if_pos h10]; exact ih b p h
    · rw [if_neg h10]
      obtain ⟨x, o, b', n', hf, h1, h2, h3⟩ := fst1_cases b 3 c
      rw [hf, wkW4_cons]
      simp only
      generalize hv : (if p = (wkR13 b' n' l).headD 10 ∧ (p = 4 ∧ (o = 5 ∨ o = 8) ∨ p = 7 ∧ o = 8) then p else o) = v
      rw [wkNx]
      have hv4 : v ≠ 4 := by
        rw [← hv]; split
        · exact h
        · omega
      by_cases hv6 : v = 6
      · rw [if_pos hv6]
        have hn : n' = 3 := by
          have : o = 6 := by
            rw [← hv] at hv6
            split at hv6
            · omega
            · exact hv6
          omega
        rw [hn]
        exact ih b' v hv4
      · rw [if_neg hv6]; exact hv4
theorem e_s1 {b n c x o b' n' : Int} (hn : n = 1 ∨ n = 2 ∨ n = 3) (hb : b ≠ 9 ∧ b ≠ 10 ∧ (b = 1 ∨ b = 2 → b = n) ∧ (b = 3 → n = 3)) (h10 : c ≠ 10) (h1 : c = 9 → x = b) (h2 : c ≠ 9 → x = c)
    (h3 : (x = 1 ∨ x = 2) ∧ o = x ∧ b' = x ∧ n' = x ∨ x = 3 ∧ o = 2 ∧ b' = 3 ∧ n' = 3 ∨ x = 4 ∧ n = 3 ∧ o = 7 ∧ b' = 4 ∧ n' = n ∨ x = 4 ∧ n ≠ 3 ∧ o = 4 ∧ b' = 4 ∧ n' = n ∨
    20 ≤ x ∧ x ≤ 23 ∧ o = x ∧ b' = 14 ∧ n' = n ∨ (x < 1 ∨ 4 < x) ∧ ¬(20 ≤ x ∧ x ≤ 23) ∧ o = x ∧ b' = x ∧ n' = n) :
    (n' = 1 ∨ n' = 2 ∨ n' = 3) ∧ (b' ≠ 9 ∧ b' ≠ 10 ∧ (b' = 1 ∨ b' = 2 → b' = n') ∧ (b' = 3 → n' = 3)) ∧ (o ≠ 3 ∧ o ≠ 9 ∧ o ≠ 10) ∧ (o = 4 → n ≠ 3) ∧ (o ≠ 1 → o ≠ 2 → n' = n) ∧ (o = 1 ∨ o = 2 → (n' = 3 → o = 2) ∧ (n' ≠ 3 → o = n')) ∧
    (c = 1 ∨ c = 2 → o = c ∧ n' = c) ∧ (c = 3 → o = 2 ∧ n' = 3) ∧ (c = 4 → (n = 3 → o = 7) ∧ (n ≠ 3 → o = 4)) ∧ (c < 1 ∨ 9 < c ∨ c = 7 → o = c) ∧ (¬(c = 1 ∨ c = 2 ∨ c = 3) → n' = n) := by
  by_cases hc : c = 9
  · have hx := h1 hc
    clear h1 h2
    subst hx hc
    rcases h3 with ⟨h3, h4, h5, h6⟩ | ⟨h3, h4, h5, h6⟩ | ⟨h3, h4, h5, h6, h7⟩ | ⟨h3, h4, h5, h6, h7⟩ | ⟨h3, h4, h5, h6, h7⟩ | ⟨h3, h4, h5, h6, h7⟩ <;> refine ⟨?_, ?_, ?_, ?_, ?_, ?_, ?_, ?_, ?_, ?_, ?_⟩ <;> omega
  · have hx := h2 hc
    clear h1 h2 hb
    subst hx
    rcases h3 with ⟨h3, h4, h5, h6⟩ | ⟨h3, h4, h5, h6⟩ | ⟨h3, h4, h5, h6, h7⟩ | ⟨h3, h4, h5, h6, h7⟩ | ⟨h3, h4, h5, h6, h7⟩ | ⟨h3, h4, h5, h6, h7⟩ <;> refine ⟨?_, ?_, ?_, ?_, ?_, ?_, ?_, ?_, ?_, ?_, ?_⟩ <;> omega
theorem e_s2 {n p o v q nx u n' : Int} (h3 : o ≠ 3 ∧ o ≠ 9 ∧ o ≠ 10) (h4 : o = 4 → n ≠ 3) (h5 : o ≠ 1 → o ≠ 2 → n' = n) (hp : p = 4 → n ≠ 3) (hq : q = 4 → n ≠ 3) (hv : v = o ∨ (v = p ∧ (p = 4 ∧ (o = 5 ∨ o = 8) ∨ p = 7 ∧ o = 8)))
    (hu : v = 6 ∧ (q = 4 ∨ nx = 4) ∧ u = 4 ∨ v = 6 ∧ u = 14 ∨ (v = 5 ∨ v = 8) ∧ u = 14 ∨ v ≠ 6 ∧ v ≠ 5 ∧ v ≠ 8 ∧ u = v) (hnx : n' = 3 → v ≠ 4 → nx ≠ 4) :
    (u ≠ 3 ∧ u ≠ 5 ∧ u ≠ 6 ∧ u ≠ 8 ∧ u ≠ 9 ∧ u ≠ 10) ∧ (u = 4 → n ≠ 3 ∧ n' = n) ∧ (v = 4 → n ≠ 3 ∧ n' = n) ∧ (u = 1 ∨ u = 2 → u = o) ∧ (o ≠ 5 → o ≠ 6 → o ≠ 8 → u = o) := by
  rcases hv with hv | ⟨hv, hv'⟩
  · subst hv
    clear hp
    rcases hu with ⟨u1, u2, u3⟩ | ⟨u1, u2⟩ | ⟨u1, u2⟩ | ⟨u1, u2, u3, u4⟩ <;> refine ⟨?_, ?_, ?_, ?_, ?_⟩ <;> omega
  · subst hv
    have : v = 4 ∨ v = 7 := by omega
    have ho : n' = n := h5 (by omega) (by omega)
    clear h5 h4 h3 hnx
    rcases hu with ⟨u1, u2, u3⟩ | ⟨u1, u2⟩ | ⟨u1, u2⟩ | ⟨u1, u2, u3, u4⟩ <;> refine ⟨?_, ?_, ?_, ?_, ?_⟩ <;> omega
theorem e_s3 {u s y s' : Int} (hy : u = 4 ∧ s = 1 ∧ y = 1 ∨ u = 4 ∧ s ≠ 1 ∧ y = 4 ∨ u ≠ 4 ∧ y = u) (hu : u ≠ 3 ∧ u ≠ 5 ∧ u ≠ 6 ∧ u ≠ 8 ∧ u ≠ 9 ∧ u ≠ 10) :
    (y ≠ 3 ∧ y ≠ 5 ∧ y ≠ 6 ∧ y ≠ 8 ∧ y ≠ 9) ∧ (y = 4 → s ≠ 1 ∧ u = 4) ∧ (u ≠ 4 → y = u) ∧ (u = 4 → y ≠ 7 ∧ (y = 1 ↔ s = 1)) := by
  refine ⟨?_, ?_, ?_, ?_⟩ <;> omega
theorem eOk_res (l : List Int) : ∀ b n p q s : Int, (n = 1 ∨ n = 2 ∨ n = 3) → (n = 3 → s = 2) → (n ≠ 3 → s = n) → (b ≠ 9 ∧ b ≠ 10 ∧ (b = 1 ∨ b = 2 → b = n) ∧ (b = 3 → n = 3)) → (p = 4 → n ≠ 3) → (q = 4 → n ≠ 3) →
    eOk s (decide (n = 3)) l (wkMg l (wkW7 s (wkW5 q (wkW4 p (wkR13 b n l))))) := by
  induction l with
  | nil => intro b n p q s _ _ _ _ _ _; exact trivial
  | cons c l ih =>
    intro b n p q s hn hs1 hs2 hb hp hq
    rw [wkMg, wkR13]
    by_cases h10 : c = 10
    · rw [if_pos h10, if_pos h10]
      have := ih b n p q s hn hs1 hs2 hb hp hq
      subst h10
      refine ⟨by omega, by omega, by omega, by omega, by omega, by omega, ?_⟩
      exact this
    · rw [if_neg h10, if_neg h10]
      obtain ⟨x, o, b', n', hf, h1, h2, h3⟩ := fst1_cases b n c
      rw [hf]
      simp only
      have hn4 : n' = 3 → ∀ p, p ≠ 4 → wkNx (wkW4 p (wkR13 b' n' l)) ≠ 4 := fun e p hp => by rw [e]; exact wkNx_ar l b' p hp
      have H := ih b' n'
      clear ih hf
      generalize wkR13 b' n' l = R at hn4 H ⊢
      rw [wkW4_cons]
      generalize hv : (if p = R.headD 10 ∧ (p = 4 ∧ (o = 5 ∨ o = 8) ∨ p = 7 ∧ o = 8) then p else o) = v
      have hv1 : v = o ∨ (v = p ∧ (p = 4 ∧ (o = 5 ∨ o = 8) ∨ p = 7 ∧ o = 8)) := by
        rw [← hv]; split
        · rename_i hh; exact .inr ⟨rfl, hh.2⟩
        · exact .inl rfl
      clear hv
      rw [wkW5_cons]
      have hnx : n' = 3 → v ≠ 4 → wkNx (wkW4 v R) ≠ 4 := fun e h => hn4 e v h
      clear hn4
      generalize hu : o5 q v (wkNx (wkW4 v R)) = u
      generalize wkNx (wkW4 v R) = nx at hu hnx
      have hu1 : v = 6 ∧ (q = 4 ∨ nx = 4) ∧ u = 4 ∨ v = 6 ∧ u = 14 ∨ (v = 5 ∨ v = 8) ∧ u = 14 ∨ v ≠ 6 ∧ v ≠ 5 ∧ v ≠ 8 ∧ u = v := by
        rw [← hu]; unfold o5; split
        · split <;> omega
        · split <;> omega
      clear hu
      rw [wkW7_cons, List.headD_cons, List.tail_cons]
      have K := H v u (s7 s u)
      clear H
      have hs7 : (u = 1 ∨ u = 2) ∧ s7 s u = u ∨ ¬(u = 1 ∨ u = 2) ∧ s7 s u = s := by unfold s7; split <;> omega
      generalize s7 s u = s' at hs7 K ⊢
      have hy1 : u = 4 ∧ s = 1 ∧ o7 s u = 1 ∨ u = 4 ∧ s ≠ 1 ∧ o7 s u = 4 ∨ u ≠ 4 ∧ o7 s u = u := by
        unfold o7; split
        · split <;> omega
        · omega
      generalize o7 s u = y at hy1
      obtain ⟨f1, f2, f3, f4, f5, f6, f7, f8, f9, f10, f11⟩ := e_s1 hn hb h10 h1 h2 h3
      clear h1 h2 h3 hb
      obtain ⟨g1, g2, g3, g4, g5⟩ := e_s2 f3 f4 f5 hp hq hv1 hu1 hnx
      clear hv1 hu1 hnx hp hq
      obtain ⟨k1, k2, k3, k4⟩ := e_s3 (s' := s') hy1 g1
      clear hy1
      have m1 : c = 1 ∨ c = 2 → y = c := fun h => by
        have a := f7 h
        have := g5 (by omega) (by omega) (by omega)
        have := k3 (by omega)
        omega
      have m2 : c = 3 → y = 2 := fun h => by
        have a := f8 h
        have := g5 (by omega) (by omega) (by omega)
        have := k3 (by omega)
        omega
      have m3 : c = 4 → (n = 3 ↔ y = 7) ∧ (n ≠ 3 → (y = 1 ↔ s = 1)) := fun h => by
        have a := f9 h
        by_cases e : n = 3
        · have b1 := a.1 e
          have := g5 (by omega) (by omega) (by omega)
          have := k3 (by omega)
          exact ⟨⟨fun _ => by omega, fun _ => e⟩, fun e' => absurd e e'⟩
        · have b1 := a.2 e
          have := g5 (by omega) (by omega) (by omega)
          have b2 := k4 (by omega)
          exact ⟨⟨fun e' => absurd e' e, fun e' => absurd e' b2.1⟩, fun _ => b2.2⟩
      have m4 : c < 1 ∨ 9 < c ∨ c = 7 → y = c := fun h => by
        have a := f10 h
        have := g5 (by omega) (by omega) (by omega)
        have := k3 (by omega)
        omega
      have hS : (o = 1 ∨ o = 2) ∧ s' = o ∨ (o ≠ 1 ∧ o ≠ 2) ∧ n' = n ∧ s' = s := by
        by_cases e : o = 1 ∨ o = 2
        · have := g5 (by omega) (by omega) (by omega)
          exact .inl ⟨e, by clear f1 f2 f3 f4 f5 f6 f7 f8 f9 f10 f11 g1 g2 g3 g4 k1 k2 k3 k4 m1 m2 m3 m4; omega⟩
        · have : ¬(u = 1 ∨ u = 2) := fun h => e (by have := g4 h; omega)
          have h := f5 (by omega) (by omega)
          exact .inr ⟨by omega, h, by clear f1 f2 f3 f4 f5 f6 f7 f8 f9 f10 f11 g1 g2 g3 g4 k1 k2 k3 k4 m1 m2 m3 m4; omega⟩
      have t1 : n' = 3 → s' = 2 := fun h => by
        rcases hS with ⟨h1, h2⟩ | ⟨h1, h2, h4⟩
        · have := (f6 h1).1 h; omega
        · rw [h4]; exact hs1 (by omega)
      have t2 : n' ≠ 3 → s' = n' := fun h => by
        rcases hS with ⟨h1, h2⟩ | ⟨h1, h2, h4⟩
        · have := (f6 h1).2 h; omega
        · rw [h4, h2]; exact hs2 (by omega)
      have m5 : (if c = 1 ∨ c = 2 then c else if c = 3 then 2 else s) = s' := by
        split
        · rename_i h; have a := f7 h; rw [t2 (by omega)]; omega
        · split
          · rename_i h; have a := f8 h; rw [t1 (by omega)]
          · have a := f11 (by omega)
            by_cases e : n = 3
            · rw [hs1 e, t1 (by omega)]
            · rw [hs2 e, t2 (by omega), a]
      have e2 : (if c = 1 ∨ c = 2 then false else if c = 3 then true else decide (n = 3)) = decide (n' = 3) := by
        split
        · rename_i h
          have := f7 h
          symm; apply decide_eq_false; omega
        · split
          · rename_i h
            have := f8 h
            symm; apply decide_eq_true; omega
          · rw [f11 (by omega)]
      refine ⟨k1, fun h => ⟨(k2 h).1, decide_eq_false (g2 (k2 h).2).1⟩, m1, m2, fun h => ⟨by rw [decide_eq_true_iff]; exact (m3 h).1, fun h' => (m3 h).2 (of_decide_eq_false h')⟩, m4, ?_⟩
      rw [m5, e2]
      exact K f1 t1 t2 f2 (fun h => by have := g3 h; omega) (fun h => by have := g2 h; omega)
theorem wkSos_cases (s : Int) : s = 2 ∧ wkSos s = 2 ∨ s ≠ 2 ∧ wkSos s = 1 := by
  unfold wkSos; split <;> omega
theorem eOk_all (s : Int) (l : List Int) : eOk (wkSos s) false l (wkRes s l) := by
  have h := wkSos_cases s
  have := eOk_res l (wkSos s) (wkSos s) 10 10 (wkSos s) (by omega) (by omega) (by omega) (by omega) (by omega) (by omega)
  rw [show decide (wkSos s = 3) = false from decide_eq_false (by omega)] at this
  exact this

/-! ### A strong class parts a row -/
theorem wkW4_ne (t : List Int) {p q : Int} (hp : p ≠ 4 ∧ p ≠ 7) (hq : q ≠ 4 ∧ q ≠ 7) : wkW4 p t = wkW4 q t := by
  cases t with
  | nil => rfl
  | cons c t => rw [wkW4_cons, wkW4_cons, if_neg (by omega), if_neg (by omega)]
theorem wkW5_ne4 (t : List Int) {p q : Int} (hp : p ≠ 4) (hq : q ≠ 4) : wkW5 p t = wkW5 q t := by
  cases t with
  | nil => rfl
  | cons c t =>
    rw [wkW5_cons, wkW5_cons]
    have : o5 p c (wkNx t) = o5 q c (wkNx t) := by unfold o5; simp [hp, hq]
    rw [this]
theorem cutR13 (c : Int) (hc : c = 1 ∨ c = 2) (t a : List Int) : ∀ b n, wkR13 b n (a ++ c :: t) = wkR13 b n a ++ c :: wkR13 c c t := by
  induction a with
  | nil =>
    intro b n
    have : fst1 b n c = (c, c, c) := by
      obtain ⟨x, h1, h2, h3, _⟩ := fst1_facts b n c
      have e := h2 (by omega)
      subst e
      exact h3 hc
    have h10 : ¬ c = 10 := by omega
    simp only [List.nil_append, wkR13, if_neg h10, this]
  | cons d a ih =>
    intro b n
    rw [List.cons_append, wkR13, wkR13]
    split
    · exact ih b n
    · rw [ih]; rfl
theorem cutW4 (c : Int) (hc : c = 1 ∨ c = 2) (t x : List Int) : ∀ p, wkW4 p (x ++ c :: t) = wkW4 p x ++ c :: wkW4 10 t := by
  induction x with
  | nil => intro p; rw [List.nil_append, wkW4_cons, if_neg (by omega), wkW4_ne t (p := c) (q := 10) (by omega) (by omega)]; rfl
  | cons d x ih =>
    intro p
    rw [List.cons_append, wkW4_cons, wkW4_cons, ih]
    have : (p = (x ++ c :: t).headD 10 ∧ (p = 4 ∧ (d = 5 ∨ d = 8) ∨ p = 7 ∧ d = 8)) = (p = x.headD 10 ∧ (p = 4 ∧ (d = 5 ∨ d = 8) ∨ p = 7 ∧ d = 8)) := by
      cases x with
      | nil => simp only [List.nil_append, List.headD_cons, List.headD_nil]; apply propext; omega
      | cons e x => rfl
    simp only [this]
    rw [List.cons_append]
theorem cutNx (c : Int) (hc : c = 1 ∨ c = 2) (t x : List Int) : (wkNx (x ++ c :: t) = 4) = (wkNx x = 4) := by
  induction x with
  | nil => rw [List.nil_append, wkNx, wkNx, if_neg (by omega)]; apply propext; omega
  | cons d x ih => rw [List.cons_append, wkNx, wkNx]; split
                   · exact ih
                   · rfl
theorem cutW5 (c : Int) (hc : c = 1 ∨ c = 2) (t x : List Int) : ∀ q, wkW5 q (x ++ c :: t) = wkW5 q x ++ c :: wkW5 10 t := by
  induction x with
  | nil =>
    intro q
    have : o5 q c (wkNx t) = c := by unfold o5; rw [if_neg (by omega), if_neg (by omega)]
    rw [List.nil_append, wkW5_cons, this, wkW5_ne4 t (p := c) (q := 10) (by omega) (by omega)]; rfl
  | cons d x ih =>
    intro q
    have : o5 q d (wkNx (x ++ c :: t)) = o5 q d (wkNx x) := by unfold o5; simp only [cutNx c hc t x]
    rw [List.cons_append, wkW5_cons, wkW5_cons, ih, this, List.cons_append]
theorem cutW7 (c : Int) (hc : c = 1 ∨ c = 2) (t x : List Int) : ∀ s, wkW7 s (x ++ c :: t) = wkW7 s x ++ c :: wkW7 c t := by
  induction x with
  | nil =>
    intro s
    have h1 : o7 s c = c := by unfold o7; rw [if_neg (by omega)]
    have h2 : s7 s c = c := by unfold s7; rw [if_pos hc]
    rw [List.nil_append, wkW7_cons, h1, h2]; rfl
  | cons d x ih => intro s; rw [List.cons_append, wkW7_cons, wkW7_cons, ih, List.cons_append]
def cnt : List Int → Nat
  | [] => 0
  | c :: l => if c = 10 then cnt l else cnt l + 1
theorem cntR13 (l : List Int) : ∀ b n, (wkR13 b n l).length = cnt l := by
  induction l with
  | nil => intro b n; rfl
  | cons c l ih => intro b n; rw [wkR13, cnt]; split
                   · exact ih _ _
                   · rw [List.length_cons, ih]
theorem cutMg (c : Int) (hc : c = 1 ∨ c = 2) (t y a : List Int) : ∀ x : List Int, x.length = cnt a → wkMg (a ++ c :: t) (x ++ c :: y) = wkMg a x ++ c :: wkMg t y := by
  induction a with
  | nil =>
    intro x hx
    have h10 : ¬ c = 10 := by omega
    rw [List.eq_nil_of_length_eq_zero hx]
    simp only [List.nil_append, wkMg, if_neg h10, List.headD_cons, List.tail_cons]
  | cons d a ih =>
    intro x hx
    rw [cnt] at hx
    rw [List.cons_append, wkMg, wkMg]
    by_cases h : d = 10
    · rw [if_pos h] at hx
      rw [if_pos h, if_pos h, ih x hx]; rfl
    · rw [if_neg h] at hx
      rw [if_neg h, if_neg h]
      cases x with
      | nil => simp at hx
      | cons e x =>
        rw [List.length_cons] at hx
        rw [List.cons_append, List.headD_cons, List.tail_cons, List.headD_cons, List.tail_cons, ih x (by omega)]; rfl
theorem cutRes (c : Int) (hc : c = 1 ∨ c = 2) (s : Int) (a t : List Int) : wkRes s (a ++ c :: t) = wkRes s a ++ c :: wkRes c t := by
  have hs : wkSos c = c := by unfold wkSos; split <;> omega
  unfold wkRes
  rw [cutR13 c hc, cutW4 c hc, cutW5 c hc, cutW7 c hc, cutMg c hc _ _ _ _ (by rw [wkW7_len, wkW5_len, wkW4_len, cntR13]), hs]

/-! ### What is resolved stays -/
def settled : Int → List Int → Prop
  | _, [] => True
  | s, x :: t => (x ≠ 3 ∧ x ≠ 5 ∧ x ≠ 6 ∧ x ≠ 8 ∧ x ≠ 9) ∧ (x = 4 → s ≠ 1) ∧ settled (s7 s x) t
theorem settled_R13 (w : List Int) : ∀ s b, (s = 1 ∨ s = 2) → settled s w → ∃ z, wkR13 b s w = z ∧ z.length = cnt w ∧ wkMg w z = w ∧ settled s z ∧ ∀ x ∈ z, x ≠ 10 := by
  induction w with
  | nil => intro s b _ _; exact ⟨_, rfl, rfl, rfl, trivial, fun x hx => by cases hx⟩
  | cons c w ih =>
    intro s b hs h
    obtain ⟨h1, h2, h3⟩ := h
    rw [wkR13]
    by_cases h10 : c = 10
    · subst h10
      rw [if_pos rfl]
      have : s7 s 10 = s := rfl
      rw [this] at h3
      obtain ⟨z, e1, e2, e3, e4, e5⟩ := ih s b hs h3
      exact ⟨z, e1, by rw [cnt, if_pos rfl, e2], by rw [wkMg, if_pos rfl, e3], e4, e5⟩
    · rw [if_neg h10]
      obtain ⟨x, o, b', n', hf, q1, q2, q3⟩ := fst1_cases b s c
      have hq : o = c ∧ n' = s7 s c := by
        unfold s7; split <;> omega
      rw [hf]
      simp only
      rw [hq.1, hq.2]
      have hs' : s7 s c = 1 ∨ s7 s c = 2 := by unfold s7; split <;> omega
      obtain ⟨z, e1, e2, e3, e4, e5⟩ := ih (s7 s c) b' hs' h3
      refine ⟨_, rfl, by rw [e1, List.length_cons, e2, cnt, if_neg h10], by rw [wkMg, if_neg h10, e1, List.headD_cons, List.tail_cons, e3], ?_, ?_⟩
      · rw [e1]; exact ⟨h1, h2, e4⟩
      · rw [e1]; intro y hy
        cases hy with
        | head => exact h10
        | tail _ hy => exact e5 y hy
theorem settled_W4 (z : List Int) : ∀ s p, settled s z → wkW4 p z = z := by
  induction z with
  | nil => intro s p _; rfl
  | cons c z ih => intro s p h; rw [wkW4_cons, if_neg (by have := h.1; omega), ih _ _ h.2.2]
theorem settled_W5 (z : List Int) : ∀ s p, settled s z → wkW5 p z = z := by
  induction z with
  | nil => intro s p _; rfl
  | cons c z ih =>
    intro s p h
    have : o5 p c (wkNx z) = c := by unfold o5; rw [if_neg (by have := h.1; omega), if_neg (by have := h.1; omega)]
    rw [wkW5_cons, this, ih _ _ h.2.2]
theorem settled_W7 (z : List Int) : ∀ s, settled s z → wkW7 s z = z := by
  induction z with
  | nil => intro s _; rfl
  | cons c z ih =>
    intro s h
    have : o7 s c = c := by
      unfold o7
      split
      · rename_i h4; rw [if_neg (h.2.1 h4), h4]
      · rfl
    rw [wkW7_cons, this, ih _ h.2.2]
theorem settled_res (s : Int) (w : List Int) (h : settled (wkSos s) w) : wkRes s w = w := by
  unfold wkRes
  obtain ⟨z, e1, e2, e3, e4, e5⟩ := settled_R13 w (wkSos s) (wkSos s) (by have := wkSos_cases s; omega) h
  rw [e1, settled_W4 _ _ _ e4, settled_W5 _ _ _ e4, settled_W7 _ _ e4, e3]
theorem all_R13 (l : List Int) : ∀ b n, b ≠ 9 → b ≠ 10 → ∀ x ∈ wkR13 b n l, x ≠ 3 ∧ x ≠ 9 ∧ x ≠ 10 := by
  induction l with
  | nil => intro b n _ _ x hx; cases hx
  | cons c l ih =>
    intro b n hb hb' x hx
    rw [wkR13] at hx
    by_cases h10 : c = 10
    · rw [if_pos h10] at hx; exact ih b n hb hb' x hx
    · rw [if_neg h10] at hx
      obtain ⟨y, o, b', n', hf, q1, q2, q3⟩ := fst1_cases b n c
      rw [hf] at hx
      cases hx with
      | head => simp only; omega
      | tail _ hx => exact ih b' n' (by omega) (by omega) x hx
theorem all_W4 (z : List Int) : ∀ p, (∀ x ∈ z, x ≠ 3 ∧ x ≠ 9 ∧ x ≠ 10) → ∀ x ∈ wkW4 p z, x ≠ 3 ∧ x ≠ 9 ∧ x ≠ 10 := by
  induction z with
  | nil => intro p _ x hx; cases hx
  | cons c z ih =>
    intro p h x hx
    rw [wkW4_cons] at hx
    cases hx with
    | head =>
      have := h c (.head _)
      split <;> omega
    | tail _ hx => exact ih _ (fun y hy => h y (.tail _ hy)) x hx
theorem all_W5 (z : List Int) : ∀ p, (∀ x ∈ z, x ≠ 3 ∧ x ≠ 9 ∧ x ≠ 10) → ∀ x ∈ wkW5 p z, x ≠ 3 ∧ x ≠ 9 ∧ x ≠ 10 ∧ x ≠ 5 ∧ x ≠ 6 ∧ x ≠ 8 := by
  induction z with
  | nil => intro p _ x hx; cases hx
  | cons c z ih =>
    intro p h x hx
    rw [wkW5_cons] at hx
    cases hx with
    | head =>
      have := h c (.head _)
      unfold o5
      split
      · split <;> omega
      · split <;> omega
    | tail _ hx => exact ih _ (fun y hy => h y (.tail _ hy)) x hx
theorem settled_of (l : List Int) : ∀ s z, z.length = cnt l → (∀ x ∈ z, x ≠ 3 ∧ x ≠ 9 ∧ x ≠ 10 ∧ x ≠ 5 ∧ x ≠ 6 ∧ x ≠ 8) → (s = 1 ∨ s = 2) → settled s (wkMg l (wkW7 s z)) := by
  induction l with
  | nil => intro s z _ _ _; trivial
  | cons c l ih =>
    intro s z hz h hs
    rw [cnt] at hz
    rw [wkMg]
    by_cases h10 : c = 10
    · rw [if_pos h10] at hz ⊢
      refine ⟨by omega, by omega, ?_⟩
      exact ih s z hz h hs
    · rw [if_neg h10] at hz ⊢
      cases z with
      | nil => simp at hz
      | cons x z =>
        rw [wkW7_cons, List.headD_cons, List.tail_cons]
        have hx := h x (.head _)
        have e : o7 s x = 1 ∧ x = 4 ∧ s = 1 ∨ o7 s x = 4 ∧ s ≠ 1 ∧ x = 4 ∨ o7 s x = x ∧ x ≠ 4 := by
          unfold o7; split
          · split <;> omega
          · omega
        refine ⟨by omega, by omega, ?_⟩
        have e2 : s7 s (o7 s x) = s7 s x := by unfold s7; split <;> split <;> omega
        rw [e2]
        rw [List.length_cons] at hz
        exact ih _ z (by omega) (fun y hy => h y (.tail _ hy)) (by unfold s7; split <;> omega)
theorem settled_wkRes (s : Int) (l : List Int) : settled (wkSos s) (wkRes s l) := by
  have h := wkSos_cases s
  unfold wkRes
  exact settled_of l _ _ (by rw [wkW5_len, wkW4_len, cntR13]) (all_W5 _ _ (all_W4 _ _ (all_R13 _ _ _ (by omega) (by omega)))) (by omega)
theorem again (s : Int) (l : List Int) : wkRes s (wkRes s l) = wkRes s l := settled_res s _ (settled_wkRes s l)
/-- A row of L, R, AN, ON and white space alone is as it was. -/
theorem plain_stays (s : Int) (c : List Int) (h : ∀ x ∈ c, x = 1 ∨ x = 2 ∨ x = 7 ∨ 11 ≤ x ∧ x ≤ 14) : wkRes s c = c := by
  apply settled_res
  generalize wkSos s = t
  induction c generalizing t with
  | nil => trivial
  | cons x c ih =>
    have hx := h x (.head _)
    exact ⟨by omega, by omega, ih (fun y hy => h y (.tail _ hy)) _⟩
/-! ### The reference, rule by rule -/
theorem mid_len (dn t : List Int) (c : Int) : (dn ++ c :: t).length = dn.length + (t.length + 1) := by rw [List.length_append, List.length_cons]
theorem snoc_app (dn t : List Int) (c : Int) : dn ++ c :: t = (dn ++ [c]) ++ t := by rw [List.append_assoc]; rfl
theorem snoc_len (dn : List Int) (c : Int) : ((dn ++ [c]).length : Int) = (dn.length : Int) + 1 := by rw [List.length_append, List.length_singleton]; rfl

theorem refIso (c : Int) : selvedgeref16_Isolate.f c = some (isoB c) := by
  unfold selvedgeref16_Isolate.f isoB
  by_cases h1 : 20 ≤ c <;> by_cases h2 : c ≤ 23 <;> simp [h1, h2]
def rW1 (b : Int) : List Int → List Int
  | [] => []
  | c :: t => (if c = 9 then b else c) :: rW1 (if isoB (if c = 9 then b else c) then 14 else if c = 9 then b else c) t
def rW2 (n : Int) : List Int → List Int
  | [] => []
  | c :: t => if c = 1 ∨ c = 2 ∨ c = 3 then c :: rW2 c t else if c = 4 ∧ n = 3 then 7 :: rW2 n t else c :: rW2 n t
def rAL : List Int → List Int
  | [] => []
  | c :: t => (if c = 3 then 2 else c) :: rAL t
theorem ref1 (cur : List Int) : ∀ (dn : List Int) (b : Int), (dn ++ cur).length ≤ 140737488351232 → Ev (fun k => selvedgeref16_w1.l0 k (dn ++ cur) b dn.length) (dn ++ rW1 b cur) := by
  induction cur with
  | nil =>
    intro dn b hl
    refine E.succ ?_
    simp only [selvedgeref16_w1.l0]
    exact E.neg (by rw [List.append_nil]; omega) (E.ret rfl)
  | cons c t ih =>
    intro dn b hl
    have h1 := mid_len dn t c
    have hc : rd (dn ++ c :: t) dn.length = c := E.rd_mid dn t c
    refine E.succ ?_
    simp only [selvedgeref16_w1.l0]
    refine E.pos (by omega) (E.pos (by omega) ?_)
    rw [hc, E.w64 (by omega) (by omega), rW1]
    have go : ∀ v : Int, v = (if c = 9 then b else c) → Ev (fun k => (selvedgeref16_Isolate.f v).bind fun x => if x = true then selvedgeref16_w1.l0 k (dn ++ v :: t) 14 ((dn.length : Int) + 1) else selvedgeref16_w1.l0 k (dn ++ v :: t) v ((dn.length : Int) + 1)) (dn ++ (v :: rW1 (if isoB v then 14 else v) t)) := by
      intro v hv
      have hl' : ((dn ++ [v]) ++ t).length ≤ 140737488351232 := by rw [← snoc_app, mid_len]; omega
      refine E.bno (refIso v) ?_
      have H := ih (dn ++ [v]) (if isoB v then 14 else v) hl'
      rw [snoc_len, ← snoc_app, ← snoc_app] at H
      by_cases hi : isoB v = true
      · rw [if_pos hi] at H ⊢
        exact E.pos hi H
      · rw [if_neg hi] at H ⊢
        exact E.neg hi H
    by_cases h9 : c = 9
    · refine E.pos h9 ?_
      rw [E.set_mid' rfl]
      refine E.bno rfl ?_
      have h := go b (by rw [if_pos h9])
      simp only [E.rd_mid]
      simpa only [if_pos h9] using h
    · refine E.neg h9 ?_
      have h := go c (by rw [if_neg h9])
      simpa only [if_neg h9] using h
theorem ref2b (cur : List Int) : ∀ (dn : List Int), (dn ++ cur).length ≤ 140737488351232 → Ev (fun k => selvedgeref16_w2.l1 k (dn ++ cur) dn.length) (dn ++ rAL cur) := by
  induction cur with
  | nil =>
    intro dn hl
    refine E.succ ?_
    simp only [selvedgeref16_w2.l1]
    exact E.neg (by rw [List.append_nil]; omega) (E.ret rfl)
  | cons c t ih =>
    intro dn hl
    have h1 := mid_len dn t c
    have hc : rd (dn ++ c :: t) dn.length = c := E.rd_mid dn t c
    have go : ∀ v, Ev (fun k => selvedgeref16_w2.l1 k (dn ++ v :: t) ((dn.length : Int) + 1)) (dn ++ (v :: rAL t)) := by
      intro v
      have H := ih (dn ++ [v]) (by rw [← snoc_app, mid_len]; omega)
      rwa [snoc_len, ← snoc_app, ← snoc_app] at H
    refine E.succ ?_
    simp only [selvedgeref16_w2.l1]
    refine E.pos (by omega) (E.pos (by omega) ?_)
    rw [hc, E.w64 (by omega) (by omega), E.set_mid' rfl, rAL]
    by_cases h : c = 3
    · rw [if_pos h]; exact E.pos h (go 2)
    · rw [if_neg h]; exact E.neg h (go c)
theorem ref2a (cur : List Int) : ∀ (dn : List Int) (n : Int), (dn ++ cur).length ≤ 140737488351232 → Ev (fun k => selvedgeref16_w2.l0 k (dn ++ cur) n dn.length) (rAL (dn ++ rW2 n cur)) := by
  induction cur with
  | nil =>
    intro dn n hl
    refine E.succ ?_
    simp only [selvedgeref16_w2.l0]
    refine E.neg (by rw [List.append_nil]; omega) ?_
    exact ref2b (dn ++ []) [] (by simpa using hl)
  | cons c t ih =>
    intro dn n hl
    have h1 := mid_len dn t c
    have hc : rd (dn ++ c :: t) dn.length = c := E.rd_mid dn t c
    have go : ∀ v n', Ev (fun k => selvedgeref16_w2.l0 k (dn ++ v :: t) n' ((dn.length : Int) + 1)) (rAL (dn ++ (v :: rW2 n' t))) := by
      intro v n'
      have H := ih (dn ++ [v]) n' (by rw [← snoc_app, mid_len]; omega)
      rwa [snoc_len, ← snoc_app, ← snoc_app] at H
    have j : ∀ b : Bool, (b = true ↔ c = 1 ∨ c = 2 ∨ c = 3) → Ev (fun k => selvedgeref16_w2.j1 k (dn ++ c :: t) n dn.length c b) (rAL (dn ++ rW2 n (c :: t))) := by
      intro b hb
      refine E.succ ?_
      simp only [selvedgeref16_w2.j1]
      rw [rW2, E.w64 (by omega) (by omega), hc, E.set_mid' rfl]
      by_cases h : c = 1 ∨ c = 2 ∨ c = 3
      · rw [if_pos h]
        exact E.pos (hb.2 h) (E.pos (by omega) (E.pos (by omega) (go c c)))
      · rw [if_neg h]
        refine E.neg (fun e => h (hb.1 e)) ?_
        by_cases h4 : c = 4
        · refine E.pos h4 ?_
          by_cases hn : n = 3
          · rw [if_pos ⟨h4, hn⟩]
            exact E.pos hn (E.pos (by omega) (E.pos (by omega) (go 7 n)))
          · rw [if_neg (by omega)]
            exact E.neg hn (go c n)
        · rw [if_neg (by omega)]
          exact E.neg h4 (go c n)
    refine E.succ ?_
    simp only [selvedgeref16_w2.l0]
    refine E.pos (by omega) (E.pos (by omega) ?_)
    rw [hc]
    by_cases e1 : c = 1
    · exact E.pos e1 (j _ (by simp; omega))
    refine E.neg e1 ?_
    by_cases e2 : c = 2
    · exact E.pos e2 (j _ (by simp; omega))
    exact E.neg e2 (j _ (by simp; omega))
theorem refR13 (z : List Int) : ∀ b n, (∀ x ∈ z, x ≠ 10) → rAL (rW2 n (rW1 b z)) = wkR13 b n z := by
  induction z with
  | nil => intro b n _; rfl
  | cons c z ih =>
    intro b n h
    have h10 := h c (.head _)
    have hz : ∀ x ∈ z, x ≠ 10 := fun x hx => h x (.tail _ hx)
    obtain ⟨x, q1, q2, q3, q4, q5, q6, q7, q8⟩ := fst1_facts b n c
    have hx : x = (if c = 9 then b else c) := by split
                                                 · rename_i e; exact q1 e
                                                 · rename_i e; exact q2 e
    rw [rW1, ← hx, wkR13, if_neg h10, rW2]
    by_cases e1 : x = 1 ∨ x = 2
    · have hi : isoB x = false := by unfold isoB; apply decide_eq_false; omega
      rw [q3 e1, if_pos (by omega), rAL, if_neg (by omega), hi, if_neg (by decide), ih _ _ hz]
    by_cases e3 : x = 3
    · have hi : isoB x = false := by unfold isoB; apply decide_eq_false; omega
      rw [q4 e3, if_pos (by omega), rAL, if_pos e3, hi, if_neg (by decide), ih _ _ hz, e3]
    by_cases e4 : x = 4
    · have hi : isoB x = false := by unfold isoB; apply decide_eq_false; omega
      rw [if_neg (by omega), hi, if_neg (show ¬(false = true) by decide)]
      by_cases hn : n = 3
      · rw [q5 e4 hn, if_pos ⟨e4, hn⟩, rAL, if_neg (by decide), ih _ _ hz, e4]
      · rw [q6 e4 hn, if_neg (by omega), rAL, if_neg (by omega), ih _ _ hz, e4]
    rw [if_neg (by omega), if_neg (by omega), rAL, if_neg e3]
    by_cases e7 : 20 ≤ x ∧ x ≤ 23
    · have hi : isoB x = true := by unfold isoB; exact decide_eq_true e7
      rw [q7 e7.1 e7.2, if_pos hi, ih _ _ hz]
    · have hi : isoB x = false := by unfold isoB; exact decide_eq_false e7
      rw [q8 (by omega) e7, hi, if_neg (by decide), ih _ _ hz]
theorem ref4 (t : List Int) : ∀ (dn : List Int) (p c : Int), (dn ++ p :: c :: t).length ≤ 140737488351232 → Ev (fun k => selvedgeref16_w4.l0 k (dn ++ p :: c :: t) ((dn.length : Int) + 1)) (dn ++ p :: wkW4 p (c :: t)) := by
  induction t with
  | nil =>
    intro dn p c hl
    rw [mid_len] at hl
    refine E.succ ?_
    simp only [selvedgeref16_w4.l0]
    refine E.neg (by rw [mid_len, E.w64 (by simp at hl; omega) (by simp at hl; omega)]; simp; omega) (E.ret ?_)
    rw [wkW4_cons, if_neg (by simp; omega)]; rfl
  | cons d t ih =>
    intro dn p c hl
    have h1 : (dn ++ p :: c :: d :: t).length = dn.length + (t.length + 3) := by simp
    have hp : rd (dn ++ p :: c :: d :: t) dn.length = p := E.rd_mid dn _ p
    have hc : rd (dn ++ p :: c :: d :: t) ((dn.length : Int) + 1) = c := by rw [snoc_app]; exact E.rd_mid' (by rw [snoc_len])
    have hd : rd (dn ++ p :: c :: d :: t) ((dn.length : Int) + 1 + 1) = d := by rw [snoc_app, snoc_app]; exact E.rd_mid' (by rw [snoc_len, snoc_len])
    have hs : ∀ v : Int, (dn ++ p :: c :: d :: t).set ((dn.length : Int) + 1).toNat v = dn ++ p :: v :: d :: t := by
      intro v
      rw [snoc_app, E.set_mid' (by rw [snoc_len]), ← snoc_app]
    have go : ∀ v, Ev (fun k => selvedgeref16_w4.l0 k (dn ++ p :: v :: d :: t) ((dn.length : Int) + 1 + 1)) (dn ++ p :: v :: wkW4 v (d :: t)) := by
      intro v
      have H := ih (dn ++ [p]) v d (by rw [← snoc_app]; simp; omega)
      rwa [snoc_len, ← snoc_app, ← snoc_app] at H
    refine E.succ ?_
    simp only [selvedgeref16_w4.l0]
    rw [E.w64 (x := (dn.length : Int) + 1 + 1) (by omega) (by omega), E.w64 (x := (dn.length : Int) + 1 - 1) (by omega) (by omega), show (dn.length : Int) + 1 - 1 = dn.length by omega, hp, hc, hd, hs, wkW4_cons, List.headD_cons]
    refine E.pos (by omega) (E.pos (by omega) (E.pos (by omega) (E.pos (by omega) ?_)))
    by_cases e : p = d
    · refine E.pos e ?_
      by_cases e4 : p = 4
      · refine E.pos e4 (E.pos (by omega) (E.pos (by omega) ?_))
        by_cases e5 : c = 5
        · rw [if_pos (by omega)]; exact E.pos e5 (go p)
        refine E.neg e5 ?_
        by_cases e8 : c = 8
        · rw [if_pos (by omega)]; exact E.pos e8 (go p)
        rw [if_neg (by omega)]
        exact E.neg e8 (E.neg (by omega) (go c))
      · refine E.neg e4 ?_
        by_cases e7 : p = 7
        · refine E.pos e7 (E.pos (by omega) (E.pos (by omega) ?_))
          by_cases e8 : c = 8
          · rw [if_pos (by omega)]; exact E.pos e8 (go p)
          rw [if_neg (by omega)]
          exact E.neg e8 (go c)
        · rw [if_neg (by omega)]
          exact E.neg e7 (go c)
    · rw [if_neg (by omega)]
      exact E.neg e (go c)
theorem ref4f (z : List Int) (hl : z.length ≤ 140737488351232) : Ev (fun k => selvedgeref16_w4.f k z) (wkW4 10 z) := by
  unfold selvedgeref16_w4.f
  cases z with
  | nil => refine E.succ ?_; simp only [selvedgeref16_w4.l0]; exact E.neg (by rw [E.w64 (by omega) (by omega)]; simp) (E.ret rfl)
  | cons c z =>
    cases z with
    | nil => refine E.succ ?_; simp only [selvedgeref16_w4.l0]; exact E.neg (by rw [E.w64 (by omega) (by omega)]; simp) (E.ret rfl)
    | cons d z =>
      have h := ref4 z [] c d hl
      rw [wkW4_cons, if_neg (by omega)]
      exact h
def r5 (c : Int) : Int := if c = 5 ∨ c = 6 ∨ c = 8 then 14 else c
theorem ref5c (cur : List Int) : ∀ (dn : List Int), (dn ++ cur).length ≤ 140737488351232 → Ev (fun k => selvedgeref16_w5.l3 k (dn ++ cur) dn.length) (dn ++ cur.map r5) := by
  induction cur with
  | nil =>
    intro dn hl
    refine E.succ ?_
    simp only [selvedgeref16_w5.l3]
    exact E.neg (by rw [List.append_nil]; omega) (E.ret rfl)
  | cons c t ih =>
    intro dn hl
    have h1 := mid_len dn t c
    have hc : rd (dn ++ c :: t) dn.length = c := E.rd_mid dn t c
    have go : ∀ v, Ev (fun k => selvedgeref16_w5.l3 k (dn ++ v :: t) ((dn.length : Int) + 1)) (dn ++ (v :: t.map r5)) := by
      intro v
      have H := ih (dn ++ [v]) (by rw [← snoc_app, mid_len]; omega)
      rwa [snoc_len, ← snoc_app, ← snoc_app] at H
    refine E.succ ?_
    simp only [selvedgeref16_w5.l3]
    refine E.pos (by omega) (E.pos (by omega) ?_)
    rw [hc, E.w64 (by omega) (by omega), E.set_mid' rfl, List.map_cons]
    unfold r5
    by_cases e5 : c = 5
    · rw [if_pos (by omega)]; exact E.pos e5 (go 14)
    refine E.neg e5 ?_
    by_cases e6 : c = 6
    · rw [if_pos (by omega)]; exact E.pos e6 (go 14)
    refine E.neg e6 ?_
    by_cases e8 : c = 8
    · rw [if_pos (by omega)]; exact E.pos e8 (go 14)
    rw [if_neg (by omega)]
    exact E.neg e8 (go c)
theorem last_r (dn : List Int) (m : Nat) (c : Int) : (dn ++ List.replicate (m + 1) c).getLastD 10 = c := by
  rw [List.replicate_succ', ← List.append_assoc]; simp
theorem ref5fill (dn rest : List Int) (q : Int) (m : Nat) (r : List Int) (hl : (dn ++ (List.replicate m q ++ rest)).length ≤ 140737488351232)
    (H : Ev (fun k => selvedgeref16_w5.l0 k (dn ++ (List.replicate m 4 ++ rest)) ((dn.length : Int) + m)) r) :
    ∀ a b : Nat, a + b = m → Ev (fun k => selvedgeref16_w5.l2 k (dn ++ (List.replicate a 4 ++ (List.replicate b q ++ rest))) ((dn.length : Int) + a) ((dn.length : Int) + m)) r := by
  have hl' : dn.length + (m + rest.length) ≤ 140737488351232 := by simpa using hl
  intro a b
  induction b generalizing a with
  | zero =>
    intro h
    refine E.succ ?_
    simp only [selvedgeref16_w5.l2]
    refine E.neg (by omega) ?_
    rw [E.w64 (x := (dn.length : Int) + m - 1) (by omega) (by omega), E.w64 (by omega) (by omega), show (dn.length : Int) + m - 1 + 1 = (dn.length : Int) + m by omega]
    have : a = m := by omega
    subst this
    simpa using H
  | succ b ih =>
    intro h
    have hlen : (dn ++ (List.replicate a 4 ++ (List.replicate (b + 1) q ++ rest))).length = dn.length + (a + (b + 1 + rest.length)) := by simp
    refine E.succ ?_
    simp only [selvedgeref16_w5.l2]
    refine E.pos (by omega) (E.pos (by omega) (E.pos (by omega) ?_))
    rw [E.w64 (by omega) (by omega)]
    have hs : (dn ++ (List.replicate a 4 ++ (List.replicate (b + 1) q ++ rest))).set ((dn.length : Int) + a).toNat 4 = dn ++ (List.replicate (a + 1) 4 ++ (List.replicate b q ++ rest)) := by
      have e1 : dn ++ (List.replicate a 4 ++ (List.replicate (b + 1) q ++ rest)) = (dn ++ List.replicate a 4) ++ q :: (List.replicate b q ++ rest) := by simp [List.replicate_succ]
      rw [e1, E.set_mid' (by simp)]
      simp [List.replicate_succ']
    rw [hs]
    have := ih (a + 1) (by omega)
    rwa [show ((dn.length : Int) + ((a + 1 : Nat) : Int)) = (dn.length : Int) + a + 1 by omega] at this
theorem ref5scan (dn rest : List Int) (m : Nat) (hr : rest.headD 10 ≠ 6) (r : List Int) (hl : (dn ++ (List.replicate m 6 ++ rest)).length ≤ 140737488351232)
    (H : Ev (fun k => selvedgeref16_w5.j2 k (dn ++ (List.replicate m 6 ++ rest)) dn.length ((dn.length : Int) + m)) r) :
    ∀ a b : Nat, a + b = m → Ev (fun k => selvedgeref16_w5.l1 k (dn ++ (List.replicate m 6 ++ rest)) dn.length ((dn.length : Int) + a)) r := by
  have hlen : (dn ++ (List.replicate m 6 ++ rest)).length = dn.length + (m + rest.length) := by simp
  intro a b
  induction b generalizing a with
  | zero =>
    intro h
    have : a = m := by omega
    subst this
    refine E.succ ?_
    simp only [selvedgeref16_w5.l1]
    cases rest with
    | nil => exact E.neg (by simp) H
    | cons c rest =>
      have hc : rd (dn ++ (List.replicate a 6 ++ c :: rest)) ((dn.length : Int) + a) = c := by
        rw [← List.append_assoc]; exact E.rd_mid' (by simp)
      refine E.pos (by rw [hlen]; simp; omega) (E.pos (by omega) (E.neg (by rw [hc]; simpa using hr) H))
  | succ b ih =>
    intro h
    have hc : rd (dn ++ (List.replicate m 6 ++ rest)) ((dn.length : Int) + a) = 6 := by
      have e1 : List.replicate m (6 : Int) = List.replicate a 6 ++ 6 :: List.replicate b 6 := by rw [← h, ← List.replicate_append_replicate, List.replicate_succ]
      rw [e1]
      rw [show dn ++ (List.replicate a 6 ++ 6 :: List.replicate b 6 ++ rest) = (dn ++ List.replicate a 6) ++ 6 :: (List.replicate b 6 ++ rest) by simp]
      exact E.rd_mid' (by simp)
    refine E.succ ?_
    simp only [selvedgeref16_w5.l1]
    refine E.pos (by omega) (E.pos (by omega) (E.pos hc ?_))
    rw [E.w64 (by omega) (by omega)]
    have := ih (a + 1) (by omega)
    rwa [show ((dn.length : Int) + ((a + 1 : Nat) : Int)) = (dn.length : Int) + a + 1 by omega] at this
theorem ref5a (N : Nat) : ∀ (cur dn : List Int), cur.length ≤ N → (dn ++ cur).length ≤ 140737488351232 → Ev (fun k => selvedgeref16_w5.l0 k (dn ++ cur) dn.length) (dn.map r5 ++ wkW5 (dn.getLastD 10) cur) := by
  induction N with
  | zero =>
    intro cur dn hN hl
    have : cur = [] := List.eq_nil_of_length_eq_zero (by omega)
    subst this
    refine E.succ ?_
    simp only [selvedgeref16_w5.l0]
    refine E.neg (by rw [List.append_nil]; omega) ?_
    have := ref5c (dn ++ []) [] (by simpa using hl)
    simpa [wkW5] using this
  | succ N ih =>
    intro cur dn hN hl
    cases cur with
    | nil => exact ih [] dn (by simp) hl
    | cons c t =>
      have h1 := mid_len dn t c
      have hc : rd (dn ++ c :: t) dn.length = c := E.rd_mid dn t c
      rw [List.length_cons] at hN
      refine E.succ ?_
      simp only [selvedgeref16_w5.l0]
      refine E.pos (by omega) (E.pos (by omega) ?_)
      rw [hc]
      by_cases h6 : c = 6
      · refine E.pos h6 ?_
        obtain ⟨m, rest, et, hr⟩ := wkSplit t
        have ec : c :: t = List.replicate (m + 1) 6 ++ rest := by rw [h6, et]; rfl
        have htl : t.length = m + rest.length := by rw [et]; simp
        rw [ec] at hl ⊢
        have hlen : (dn ++ (List.replicate (m + 1) 6 ++ rest)).length = dn.length + (m + 1 + rest.length) := by simp
        have hlen4 : (dn ++ (List.replicate (m + 1) 4 ++ rest)).length = dn.length + (m + 1 + rest.length) := by simp
        have hscan := ref5scan dn rest (m + 1) hr (dn.map r5 ++ wkW5 (dn.getLastD 10) (List.replicate (m + 1) 6 ++ rest)) hl
        have h0 := fun H => hscan H 0 (m + 1) (by omega)
        rw [show (dn.length : Int) + ((0 : Nat) : Int) = dn.length by omega] at h0
        apply h0
        clear h0 hscan
        rw [wkW5_run _ _ hr]
        have jt : ∀ b : Bool, (b = true ↔ (dn.getLastD 10 = 4 ∨ rest.headD 10 = 4)) → Ev (fun k => selvedgeref16_w5.j3 k (dn ++ (List.replicate (m + 1) 6 ++ rest)) dn.length ((dn.length : Int) + ((m + 1 : Nat) : Int)) b) (dn.map r5 ++ if dn.getLastD 10 = 4 ∨ rest.headD 10 = 4 then List.replicate (m + 1) 4 ++ wkW5 4 rest else List.replicate (m + 1) 14 ++ wkW5 14 rest) := by
          intro b hb
          refine E.succ ?_
          simp only [selvedgeref16_w5.j3]
          by_cases h : dn.getLastD 10 = 4 ∨ rest.headD 10 = 4
          · rw [if_pos h]
            refine E.pos (hb.2 h) ?_
            have H := ih rest (dn ++ List.replicate (m + 1) 4) (by omega) (by rw [List.append_assoc, hlen4, ← hlen]; exact hl)
            rw [last_r, List.map_append, List.map_replicate, show r5 4 = 4 from rfl, List.append_assoc, List.append_assoc, List.length_append, List.length_replicate, Int.natCast_add] at H
            have F := ref5fill dn rest 6 (m + 1) _ hl H 0 (m + 1) (by omega)
            rwa [List.replicate_zero, List.nil_append, show (dn.length : Int) + ((0 : Nat) : Int) = dn.length by omega] at F
          · rw [if_neg h]
            refine E.neg (fun e => h (hb.1 e)) ?_
            have H := ih rest (dn ++ List.replicate (m + 1) 6) (by omega) (by rw [List.append_assoc]; exact hl)
            rw [last_r, List.map_append, List.map_replicate, show r5 6 = 14 from rfl, List.append_assoc, List.append_assoc, List.length_append, List.length_replicate, Int.natCast_add, wkW5_ne4 rest (p := 6) (q := 14) (by decide) (by decide)] at H
            rw [E.w64 (x := (dn.length : Int) + ((m + 1 : Nat) : Int) - 1) (by omega) (by omega), E.w64 (by omega) (by omega), show (dn.length : Int) + ((m + 1 : Nat) : Int) - 1 + 1 = (dn.length : Int) + ((m + 1 : Nat) : Int) by omega]
            exact H
        have jr : dn.getLastD 10 ≠ 4 → Ev (fun k => if ((dn.length : Int) + ((m + 1 : Nat) : Int)) < ((dn ++ (List.replicate (m + 1) 6 ++ rest)).length : Int) then (if 0 ≤ ((dn.length : Int) + ((m + 1 : Nat) : Int)) then (selvedgeref16_w5.j3 k (dn ++ (List.replicate (m + 1) 6 ++ rest)) dn.length ((dn.length : Int) + ((m + 1 : Nat) : Int)) ((rd (dn ++ (List.replicate (m + 1) 6 ++ rest)) ((dn.length : Int) + ((m + 1 : Nat) : Int))) == 4)) else none) else (selvedgeref16_w5.j3 k (dn ++ (List.replicate (m + 1) 6 ++ rest)) dn.length ((dn.length : Int) + ((m + 1 : Nat) : Int)) false))
            (dn.map r5 ++ if dn.getLastD 10 = 4 ∨ rest.headD 10 = 4 then List.replicate (m + 1) 4 ++ wkW5 4 rest else List.replicate (m + 1) 14 ++ wkW5 14 rest) := by
          intro hd
          cases rest with
          | nil =>
            refine E.neg (by rw [hlen]; simp) (jt false ?_)
            simp [-List.getLastD_eq_getLast?]; exact hd
          | cons e rest =>
            refine E.pos (by rw [hlen]; simp; omega) (E.pos (by omega) ?_)
            have he : rd (dn ++ (List.replicate (m + 1) 6 ++ e :: rest)) ((dn.length : Int) + ((m + 1 : Nat) : Int)) = e := by rw [← List.append_assoc]; exact E.rd_mid' (by simp)
            rw [he]
            exact jt _ (by rw [beq_iff_eq, List.headD_cons]; exact ⟨.inr, fun h => h.resolve_left hd⟩)
        refine E.succ ?_
        simp only [selvedgeref16_w5.j2]
        by_cases hdn : dn = []
        · subst hdn
          refine E.neg (by simp) ?_
          exact jr (by decide)
        · have hpos : 0 < dn.length := List.length_pos_iff.2 hdn
          rw [E.w64 (x := (dn.length : Int) - 1) (by omega) (by omega)]
          refine E.pos (by omega) (E.pos (by omega) (E.pos (by omega) ?_))
          have hp : rd (dn ++ (List.replicate (m + 1) 6 ++ rest)) ((dn.length : Int) - 1) = dn.getLastD 10 := by
            obtain ⟨d', x, rfl⟩ : ∃ d' x, dn = d' ++ [x] := ⟨dn.dropLast, dn.getLast hdn, (List.dropLast_concat_getLast hdn).symm⟩
            rw [List.append_assoc, List.singleton_append, E.rd_mid' (by simp)]
            simp
          rw [hp]
          by_cases h4 : dn.getLastD 10 = 4
          · exact E.pos h4 (jt true (by simp [-List.getLastD_eq_getLast?, h4]))
          · exact E.neg h4 (jr h4)
      · refine E.neg h6 ?_
        rw [E.w64 (by omega) (by omega)]
        have H := ih t (dn ++ [c]) (by omega) (by rw [← snoc_app]; exact hl)
        rw [snoc_len, ← snoc_app] at H
        refine E.same H ?_
        rw [wkW5_cons, List.map_append, List.append_assoc]
        have e1 : (dn ++ [c]).getLastD 10 = c := by simp
        have e2 : o5 (dn.getLastD 10) c (wkNx t) = r5 c := by
          unfold o5 r5; rw [if_neg h6]
          split
          · rw [if_pos (by omega)]
          · rw [if_neg (by omega)]
        rw [e1, e2]
        have e3 : wkW5 c t = wkW5 (r5 c) t := by
          unfold r5
          split
          · exact wkW5_ne4 t (by omega) (by omega)
          · rfl
        rw [e3]; rfl
end Go.Proofs.Ytnpcfiahmadkjaa.A
