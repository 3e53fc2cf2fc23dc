import Derived.Test.YtdkbkecnhebanaaA
/-! Plain laws of the levels: paragraphs, plain texts, isolates. -/
namespace Go.Proofs.Ytdkbkecnhebanaa.X
open Go.Proofs.YtdkbkecnhebanaaW.PrintWords
set_option linter.unusedVariables false
set_option linter.unusedSimpArgs false
/-! ### paragraphs -/
theorem dir_B (stop : Bool) (b : List Int) : ∀ (t : List Int) (d : Nat), dirS stop (t ++ 11 :: b) d = dirS stop t d := by
  intro t
  induction t with
  | nil => intro d; exact if_pos rfl
  | cons c t ih =>
    intro d
    show dirS stop (c :: (t ++ 11 :: b)) d = _
    unfold dirS
    split
    · rfl
    · split
      · exact ih _
      · split
        · cases d with
          | zero => simp only; split; rfl; exact ih _
          | succ d => exact ih _
        · split
          · rfl
          · split
            · rfl
            · exact ih _
theorem runL_B (n : Int) (b : List Int) : ∀ (a : List Int) (s : Sk) (bf : Int), runL n (a ++ 11 :: b) s bf = runL n a s bf ++ (n, 11) :: runL n b (newA n) n := by
  intro a
  induction a with
  | nil => intro s bf; rfl
  | cons c t ih =>
    intro s bf
    show outL bf _ c :: runL n (t ++ 11 :: b) (takeA _ c (dirI (dirS true (t ++ 11 :: b) 0))) _ = (outL bf _ c :: runL n t (takeA _ c (dirI (dirS true t 0))) _) ++ _
    rw [dir_B, ih]
    rfl
/-! ### plain texts -/
def plC (c : Int) : Prop := (1 ≤ c ∧ c ≤ 14) ∨ c = 23 ∨ c = 19
theorem runL_plain (n : Int) : ∀ (l : List Int), (∀ c ∈ l, plC c) → runL n l (newA n) n = l.map fun c => (n, if c = 19 then 10 else c) := by
  intro l
  induction l with
  | nil => intros; rfl
  | cons c t ih =>
    intro h
    have hc := h c List.mem_cons_self
    have e1 : stA n (newA n) c = newA n := by
      unfold stA
      split
      · rfl
      · split <;> rfl
    have e2 : ∀ d, takeA (newA n) c d = newA n := fun d => by
      unfold plC at hc
      unfold takeA
      rw [if_neg (by omega), if_neg (by omega), if_neg (by omega), if_neg (by omega), if_neg (by omega), if_neg (by omega), if_neg (by omega)]
      split <;> rfl
    have e3 : outL n (topA (newA n)) c = (n, if c = 19 then 10 else c) := by
      unfold plC at hc
      unfold outL remC topA newA
      by_cases q : c = 19
      · rw [if_pos q, decide_eq_true (by omega)]; rfl
      · rw [if_neg q, decide_eq_false (by omega)]
        by_cases q2 : c = 10
        · rw [decide_eq_true q2, q2]; rfl
        · rw [decide_eq_false q2]; rfl
    show outL n (topA (stA n (newA n) c)) c :: runL n t (takeA (stA n (newA n) c) c _) (outL n (topA (stA n (newA n) c)) c).1 = _
    rw [e1, e2, e3, ih (fun c hc => h c (List.mem_cons_of_mem _ hc))]
    rfl
/-! ### isolates -/
/-- How deep one is behind a text, begun at depth d; none: below, or no such text. -/
def plN : List Int → Nat → Option Nat
  | [], d => some d
  | c :: t, d => if c < 1 ∨ 23 < c ∨ c = 11 then none else if 20 ≤ c ∧ c ≤ 22 then plN t (d + 1) else if c = 23 then (match d with
    | 0 => none
    | d' + 1 => plN t d') else plN t d
theorem dir_in (stop : Bool) (r : List Int) : ∀ (X : List Int) (d d' e : Nat), plN X d = some d' → dirS stop (X ++ r) (d + 1 + e) = dirS stop r (d' + 1 + e) := by
  intro X
  induction X with
  | nil => intro d d' e h; injection h with h; subst h; rfl
  | cons c t ih =>
    intro d d' e h
    unfold plN at h
    show dirS stop (c :: (t ++ r)) (d + 1 + e) = _
    by_cases q0 : c < 1 ∨ 23 < c ∨ c = 11
    · rw [if_pos q0] at h; cases h
    · rw [if_neg q0] at h
      have q2 : c ≠ 11 := by omega
      by_cases q1 : 20 ≤ c ∧ c ≤ 22
      · rw [if_pos q1] at h
        have ed : dirS stop (c :: (t ++ r)) (d + 1 + e) = dirS stop (t ++ r) (d + 1 + 1 + e) := by
          show (if _ then _ else _) = _
          rw [if_neg q2, if_pos q1, show d + 1 + e + 1 = d + 1 + 1 + e by omega]
        rw [ed]
        exact ih _ _ _ h
      · rw [if_neg q1] at h
        by_cases q3 : c = 23
        · rw [if_pos q3] at h
          cases d with
          | zero => cases h
          | succ d =>
            have ed : dirS stop (c :: (t ++ r)) (d + 1 + 1 + e) = dirS stop (t ++ r) (d + 1 + e) := by
              rw [show d + 1 + 1 + e = (d + 1 + e) + 1 by omega]
              show (if _ then _ else _) = _
              rw [if_neg q2, if_neg q1, if_pos q3]
            rw [ed]
            exact ih _ _ _ h
        · rw [if_neg q3] at h
          have ed : dirS stop (c :: (t ++ r)) (d + 1 + e) = dirS stop (t ++ r) (d + 1 + e) := by
            show (if _ then _ else _) = _
            rw [if_neg q2, if_neg q1, if_neg q3, if_neg (fun q => by omega), if_neg (fun q => by omega)]
          rw [ed]
          exact ih _ _ _ h
/-- An isolate and what is in it: what is looked for does not see it. -/
theorem dir_isol (stop : Bool) (c : Int) (hc : c = 20 ∨ c = 21) (X r : List Int) (hX : plN X 0 = some 0) (d : Nat) : dirS stop (c :: X ++ 23 :: r) d = dirS stop r d := by
  have e1 : dirS stop (c :: X ++ 23 :: r) d = dirS stop (X ++ 23 :: r) (0 + 1 + d) := by
    show (if _ then _ else _) = _
    rw [if_neg (by omega), if_pos (by omega), show 0 + 1 + d = d + 1 by omega]
    rfl
  rw [e1, dir_in stop (23 :: r) X 0 0 d hX, show 0 + 1 + d = d + 1 by omega]
  rfl
theorem dir_ahead (stop : Bool) (u v : List Int) (h : ∀ d, dirS stop u d = dirS stop v d) : ∀ (t : List Int) (d : Nat), dirS stop (t ++ u) d = dirS stop (t ++ v) d := by
  intro t
  induction t with
  | nil => intro d; exact h d
  | cons c t ih =>
    intro d
    show dirS stop (c :: (t ++ u)) d = dirS stop (c :: (t ++ v)) d
    unfold dirS
    split
    · rfl
    · split
      · exact ih _
      · split
        · cases d with
          | zero => simp only; split; rfl; exact ih _
          | succ d => exact ih _
        · split
          · rfl
          · split
            · rfl
            · exact ih _
/-- What is ahead of texts that look alike from ahead. -/
theorem run_ahead (n : Int) (u : List Int) : ∀ (t : List Int) (a : Sk) (bf m : Int), Wf a m → 0 ≤ m → 0 ≤ n → n ≤ 1 → ∃ (A : List (Int × Int)) (a1 : Sk) (bf1 : Int), A.length = t.length ∧ Wf a1 (m + t.length) ∧ ∀ v, (∀ d, dirS true v d = dirS true u d) → runL n (t ++ v) a bf = A ++ runL n v a1 bf1 := by
  intro t
  induction t with
  | nil => intro a bf m hw h0 h1 h2; exact ⟨[], a, bf, rfl, by simpa using hw, fun v _ => rfl⟩
  | cons c t ih =>
    intro a bf m hw h0 h1 h2
    obtain ⟨A, a1, bf1, k1, k4, k2⟩ := ih (takeA (stA n a c) c (dirI (dirS true (t ++ u) 0))) (outL bf (topA (stA n a c)) c).1 (m + 1) ((hw.st h0 h1 h2 c).take _ _) (by omega) h1 h2
    refine ⟨outL bf (topA (stA n a c)) c :: A, a1, bf1, by simp [k1], by rw [show m + ((c :: t).length : Int) = m + 1 + t.length by simp; omega]; exact k4, fun v hv => ?_⟩
    show _ :: runL n (t ++ v) (takeA (stA n a c) c (dirI (dirS true (t ++ v) 0))) (outL bf (topA (stA n a c)) c).1 = _
    rw [dir_ahead true v u hv t 0, k2 v hv]
    rfl
/-- Within an isolate that has begun: es0, what was there; mid, what came since. -/
structure InI (es0 : List Ent) (lv : Int) (d : Nat) (a : Sk) : Prop where
  ex : ∃ mid, a.es = mid ++ (lv, 0, true) :: es0 ∧ isoN mid + a.iso = d
  i0 : 0 ≤ a.iso
  e0 : 0 ≤ a.emb
  vl : a.val = isoN a.es
theorem isoN_app : ∀ (x y : List Ent), isoN (x ++ y) = isoN x + isoN y := by
  intro x y
  induction x with
  | nil => simp [isoN]
  | cons e t ih => show (if _ then _ else _) + isoN (t ++ y) = (if _ then _ else _) + isoN t + isoN y; rw [ih]; omega
theorem popI_app : ∀ (x : List Ent) (y : List Ent), popI (x ++ y) = if 0 < isoN x then popI x ++ y else popI y := by
  intro x y
  induction x with
  | nil => rfl
  | cons e t ih =>
    show (if _ then _ else _) = _
    by_cases q : e.2.2 = true
    · rw [if_pos q]
      have e1 : isoN (e :: t) = 1 + isoN t := by show (if _ then _ else _) + _ = _; rw [if_pos q]
      have e2 : popI (e :: t) = t := by show (if _ then _ else _) = _; rw [if_pos q]
      have := isoN_nonneg t
      rw [if_pos (by omega), e2]
      rfl
    · rw [if_neg q]
      have e1 : isoN (e :: t) = isoN t := by show (if _ then _ else _) + _ = _; rw [if_neg q]; omega
      have e2 : popI (e :: t) = popI t := by show (if _ then _ else _) = _; rw [if_neg q]
      rw [e1, e2]
      exact ih
theorem isoN_popI : ∀ (x : List Ent), 0 < isoN x → isoN (popI x) = isoN x - 1 := by
  intro x
  induction x with
  | nil => intro h; exact absurd h (by decide)
  | cons e t ih =>
    intro h
    by_cases q : e.2.2 = true
    · have e1 : isoN (e :: t) = 1 + isoN t := by show (if _ then _ else _) + _ = _; rw [if_pos q]
      have e2 : popI (e :: t) = t := by show (if _ then _ else _) = _; rw [if_pos q]
      rw [e1, e2]; omega
    · have e1 : isoN (e :: t) = isoN t := by show (if _ then _ else _) + _ = _; rw [if_neg q]; omega
      have e2 : popI (e :: t) = popI t := by show (if _ then _ else _) = _; rw [if_neg q]
      rw [e1] at h ⊢
      rw [e2]; exact ih h
theorem pushA_cases (a : Sk) (c o : Int) (i : Bool) : (pushA a c o i = (a, false)) ∨ (∃ n, pushA a c o i = ({ a with es := (n, o, i) :: a.es }, true)) := by
  unfold pushA
  cases he : a.es with
  | nil => exact .inl rfl
  | cons e t =>
    simp only
    split
    · exact .inr ⟨_, rfl⟩
    · exact .inl rfl
theorem InI.emb {es0 : List Ent} {lv : Int} {d : Nat} {a : Sk} (h : InI es0 lv d a) (c o : Int) : InI es0 lv d (embA a c o) := by
  obtain ⟨⟨mid, h1, h2⟩, h3, h4, h5⟩ := h
  unfold embA
  rcases pushA_cases a c o false with e | ⟨n, e⟩
  · rw [e]
    simp only
    split
    · exact ⟨⟨mid, h1, h2⟩, h3, by show 0 ≤ a.emb + 1; omega, h5⟩
    · exact ⟨⟨mid, h1, h2⟩, h3, h4, h5⟩
  · rw [e]
    simp only
    rw [if_neg (by simp)]
    refine ⟨⟨(n, o, false) :: mid, by rw [h1]; rfl, ?_⟩, h3, h4, ?_⟩
    · show (if _ then _ else _) + isoN mid + a.iso = _; simp; omega
    · show a.val = (if _ then _ else _) + isoN a.es; simp; omega
theorem InI.iso {es0 : List Ent} {lv : Int} {d : Nat} {a : Sk} (h : InI es0 lv d a) (c : Int) : InI es0 lv (d + 1) (isoA a c) := by
  obtain ⟨⟨mid, h1, h2⟩, h3, h4, h5⟩ := h
  unfold isoA
  rcases pushA_cases a c 0 true with e | ⟨n, e⟩
  · rw [e]
    simp only
    rw [if_neg (by simp)]
    exact ⟨⟨mid, h1, by show isoN mid + (a.iso + 1) = _; omega⟩, by show 0 ≤ a.iso + 1; omega, h4, h5⟩
  · rw [e]
    simp only
    rw [if_pos trivial]
    refine ⟨⟨(n, 0, true) :: mid, by rw [h1]; rfl, ?_⟩, h3, h4, ?_⟩
    · show (if _ then _ else _) + isoN mid + a.iso = _; simp; omega
    · show a.val + 1 = (if _ then _ else _) + isoN a.es; simp; omega
theorem InI.pdf {es0 : List Ent} {lv : Int} {d : Nat} {a : Sk} (h : InI es0 lv d a) : InI es0 lv d (pdfA a) := by
  have h' := h
  obtain ⟨⟨mid, h1, h2⟩, h3, h4, h5⟩ := h
  unfold pdfA
  split
  · exact h'
  · split
    · exact ⟨⟨mid, h1, h2⟩, h3, by show 0 ≤ a.emb - 1; omega, h5⟩
    · split
      · next e f t he =>
        by_cases q : e.2.2 = true
        · rw [if_pos q]; exact h'
        · rw [if_neg q]
          cases mid with
          | nil =>
            rw [he] at h1
            injection h1 with h1 _
            rw [h1] at q
            exact absurd rfl q
          | cons g mid =>
            rw [he] at h1
            injection h1 with g1 g2
            have e1 : isoN (g :: mid) = isoN mid := by show (if _ then _ else _) + _ = _; rw [← g1, if_neg q]; omega
            refine ⟨⟨mid, g2, by rw [← e1]; exact h2⟩, h3, h4, ?_⟩
            show a.val = isoN (f :: t)
            rw [h5, he]
            show (if _ then _ else _) + _ = _
            rw [if_neg q]; omega
      · exact h'
theorem InI.pdi {es0 : List Ent} {lv : Int} {d : Nat} {a : Sk} (h : InI es0 lv (d + 1) a) : InI es0 lv d (pdiA a) := by
  obtain ⟨⟨mid, h1, h2⟩, h3, h4, h5⟩ := h
  unfold pdiA
  by_cases q : 0 < a.iso
  · rw [if_pos q]
    exact ⟨⟨mid, h1, by show isoN mid + (a.iso - 1) = _; omega⟩, by show 0 ≤ a.iso - 1; omega, h4, h5⟩
  · rw [if_neg q]
    have hm : 0 < isoN mid := by omega
    have hv : a.val = isoN mid + (1 + isoN es0) := by
      rw [h5, h1, isoN_app]; rfl
    have := isoN_nonneg es0
    rw [if_neg (by omega)]
    have hp : popI a.es = popI mid ++ (lv, 0, true) :: es0 := by rw [h1, popI_app, if_pos hm]
    refine ⟨⟨popI mid, hp, ?_⟩, h3, Int.le_refl 0, ?_⟩
    · show isoN (popI mid) + a.iso = _; rw [isoN_popI _ hm]; omega
    · show a.val - 1 = isoN (popI a.es)
      rw [hp, isoN_app, isoN_popI _ hm, hv]
      show _ = isoN mid - 1 + (1 + isoN es0)
      omega
/-- The isolate's own PDI. -/
theorem InI.fin {es0 : List Ent} {lv : Int} {a : Sk} (h : InI es0 lv 0 a) : pdiA a = ⟨es0, 0, 0, isoN es0⟩ := by
  obtain ⟨⟨mid, h1, h2⟩, h3, h4, h5⟩ := h
  have hm := isoN_nonneg mid
  have hi : a.iso = 0 := by omega
  have hm0 : isoN mid = 0 := by omega
  have hv : a.val = isoN mid + (1 + isoN es0) := by rw [h5, h1, isoN_app]; rfl
  have h0 := isoN_nonneg es0
  unfold pdiA
  rw [if_neg (by omega), if_neg (by omega)]
  have hp : popI a.es = es0 := by rw [h1, popI_app, if_neg (by omega)]; rfl
  rw [hp, hi, show a.val - 1 = isoN es0 by omega]
/-- A content, and the isolate's PDI behind it: what follows does not see the content. -/
theorem run_in (n : Int) (r : List Int) (es0 : List Ent) (lv : Int) : ∀ (X : List Int) (d : Nat) (a : Sk) (bf : Int), plN X d = some 0 → InI es0 lv d a →
    ∃ Y : List (Int × Int), Y.length = X.length ∧ runL n (X ++ 23 :: r) a bf = Y ++ outL 0 (topA ⟨es0, 0, 0, isoN es0⟩) 23 :: runL n r ⟨es0, 0, 0, isoN es0⟩ (outL 0 (topA ⟨es0, 0, 0, isoN es0⟩) 23).1 := by
  intro X
  induction X with
  | nil =>
    intro d a bf h hI
    injection h with h
    subst h
    refine ⟨[], rfl, ?_⟩
    show outL bf (topA (stA n a 23)) 23 :: runL n r (takeA (stA n a 23) 23 _) _ = _
    have e : stA n a 23 = ⟨es0, 0, 0, isoN es0⟩ := hI.fin
    rw [e]
    rfl
  | cons c t ih =>
    intro d a bf h hI
    unfold plN at h
    by_cases q0 : c < 1 ∨ 23 < c ∨ c = 11
    · rw [if_pos q0] at h; cases h
    · rw [if_neg q0] at h
      have go : ∀ (d' : Nat) (x : Int), plN t d' = some 0 → InI es0 lv d' (takeA (stA n a c) c (dirI (dirS true (t ++ 23 :: r) 0))) → ∃ Y : List (Int × Int), Y.length = (c :: t).length ∧ runL n (c :: t ++ 23 :: r) a bf = Y ++ outL 0 (topA ⟨es0, 0, 0, isoN es0⟩) 23 :: runL n r ⟨es0, 0, 0, isoN es0⟩ (outL 0 (topA ⟨es0, 0, 0, isoN es0⟩) 23).1 := by
        intro d' x hp hi
        obtain ⟨Y, k1, k2⟩ := ih d' _ (outL bf (topA (stA n a c)) c).1 hp hi
        refine ⟨outL bf (topA (stA n a c)) c :: Y, by simp [k1], ?_⟩
        show outL bf (topA (stA n a c)) c :: runL n (t ++ 23 :: r) (takeA (stA n a c) c (dirI (dirS true (t ++ 23 :: r) 0))) (outL bf (topA (stA n a c)) c).1 = _
        rw [k2]
        rfl
      by_cases q3 : c = 23
      · subst q3
        rw [if_neg (by omega), if_pos rfl] at h
        cases d with
        | zero => cases h
        | succ d => exact go d 0 h hI.pdi
      · have e1 : stA n a c = a := by unfold stA; rw [if_neg q3, if_neg (by omega)]
        rw [e1] at go
        by_cases q1 : 20 ≤ c ∧ c ≤ 22
        · rw [if_pos q1] at h
          refine go (d + 1) 0 h ?_
          unfold takeA
          rw [if_neg (by omega), if_neg (by omega), if_neg (by omega), if_neg (by omega)]
          split
          · exact hI.iso _
          · split
            · exact hI.iso _
            · rw [if_pos (by omega)]
              exact hI.iso _
        · rw [if_neg q1, if_neg q3] at h
          refine go d 0 h ?_
          unfold takeA
          split
          · exact hI.emb _ _
          · split
            · exact hI.emb _ _
            · split
              · exact hI.emb _ _
              · split
                · exact hI.emb _ _
                · rw [if_neg (by omega), if_neg (by omega), if_neg (by omega)]
                  split
                  · exact hI.pdf
                  · exact hI
/-- The initiator itself: it is pushed, or overflows. -/
theorem run_start (n : Int) (a1 : Sk) (m : Int) (hw : Wf a1 m) (c : Int) (hc : c = 20 ∨ c = 21) :
    (∃ lv, (topA a1).1 < lv ∧ ∀ d, takeA (stA n a1 c) c d = ⟨(lv, 0, true) :: a1.es, 0, 0, a1.val + 1⟩ ∧ a1.iso = 0 ∧ a1.emb = 0) ∨ (∀ d, takeA (stA n a1 c) c d = { a1 with iso := a1.iso + 1 }) := by
  obtain ⟨e, t, he, h1, h2, h3, h4⟩ := hw.ch.top
  have i0 := hw.i0
  have e0 := hw.e0
  have et : topA a1 = e := by unfold topA; rw [he]; rfl
  have key : ∀ side, (∃ lv, e.1 < lv ∧ isoA a1 side = ⟨(lv, 0, true) :: a1.es, 0, 0, a1.val + 1⟩ ∧ a1.iso = 0 ∧ a1.emb = 0) ∨ isoA a1 side = { a1 with iso := a1.iso + 1 } := by
    intro side
    by_cases q : nxtLev e.1 side ≤ 125 ∧ a1.iso + a1.emb ≤ 0
    · have hp : pushA a1 side 0 true = ({ a1 with es := (nxtLev e.1 side, 0, true) :: a1.es }, true) := by unfold pushA; rw [he]; simp only; exact if_pos q
      refine .inl ⟨nxtLev e.1 side, nxtLev_lo _ _, ?_, by omega, by omega⟩
      unfold isoA
      rw [hp]
      simp only
      rw [if_pos trivial, show a1.iso = 0 by omega, show a1.emb = 0 by omega]
    · have hp : pushA a1 side 0 true = (a1, false) := by unfold pushA; rw [he]; simp only; exact if_neg q
      refine .inr ?_
      unfold isoA
      rw [hp]
      rfl
  have hst : stA n a1 c = a1 := by unfold stA; rw [if_neg (by omega), if_neg (by omega)]
  rw [et]
  rcases hc with rfl | rfl
  · rcases key 1 with ⟨lv, k1, k2, k3, k4⟩ | k
    · exact .inl ⟨lv, k1, fun d => ⟨by rw [hst]; exact k2, k3, k4⟩⟩
    · exact .inr fun d => by rw [hst]; exact k
  · rcases key 2 with ⟨lv, k1, k2, k3, k4⟩ | k
    · exact .inl ⟨lv, k1, fun d => ⟨by rw [hst]; exact k2, k3, k4⟩⟩
    · exact .inr fun d => by rw [hst]; exact k
/-- ExplicitIsolates, plainly: of all contents the same is ahead, and behind; or the initiator has overflown. -/
theorem isol_main (n : Int) (h0 : 0 ≤ n) (h1 : n ≤ 1) (ahead behind : List Int) (c : Int) (hc : c = 20 ∨ c = 21) :
    (∃ (A Z : List (Int × Int)) (oc : Int × Int), A.length = ahead.length ∧ Z.length = behind.length + 1 ∧ ∀ X, plN X 0 = some 0 → ∃ Y : List (Int × Int), Y.length = X.length ∧ runL n (ahead ++ (c :: X ++ 23 :: behind)) (newA n) n = A ++ oc :: (Y ++ Z)) ∨
    (∃ (A R : List (Int × Int)) (oc o2 : Int × Int), A.length = ahead.length ∧ o2.1 = oc.1 ∧ runL n (ahead ++ (c :: [14] ++ 23 :: behind)) (newA n) n = A ++ oc :: o2 :: R) := by
  obtain ⟨A, a1, bf1, k1, k2, k3⟩ := run_ahead n behind ahead (newA n) n 0 (Wf.new h0 h1) (Int.le_refl 0) h0 h1
  rcases run_start n a1 _ k2 c hc with ⟨lv, h2, h3⟩ | h3
  · refine .inl ⟨A, outL 0 (topA ⟨a1.es, 0, 0, isoN a1.es⟩) 23 :: runL n behind ⟨a1.es, 0, 0, isoN a1.es⟩ (outL 0 (topA ⟨a1.es, 0, 0, isoN a1.es⟩) 23).1, outL bf1 (topA (stA n a1 c)) c, k1, by simp [runL_len], fun X hX => ?_⟩
    obtain ⟨h4, h5, h6⟩ := h3 (dirI (dirS true (X ++ 23 :: behind) 0))
    have hI : InI a1.es lv 0 (takeA (stA n a1 c) c (dirI (dirS true (X ++ 23 :: behind) 0))) := by
      rw [h4]
      refine ⟨⟨[], rfl, rfl⟩, Int.le_refl 0, Int.le_refl 0, ?_⟩
      show a1.val + 1 = (if true = true then 1 else 0) + isoN a1.es
      rw [k2.vl]
      simp
      omega
    obtain ⟨Y, m1, m2⟩ := run_in n behind a1.es lv X 0 _ (outL bf1 (topA (stA n a1 c)) c).1 hX hI
    refine ⟨Y, m1, ?_⟩
    rw [k3 _ (fun d => dir_isol true c hc X behind hX d)]
    show A ++ outL bf1 (topA (stA n a1 c)) c :: runL n (X ++ 23 :: behind) (takeA (stA n a1 c) c (dirI (dirS true (X ++ 23 :: behind) 0))) (outL bf1 (topA (stA n a1 c)) c).1 = _
    rw [m2]
  · have e14 : plN [14] 0 = some 0 := by decide
    refine .inr ⟨A, runL n (23 :: behind) (takeA (stA n (takeA (stA n a1 c) c (dirI (dirS true (14 :: 23 :: behind) 0))) 14) 14 (dirI (dirS true (23 :: behind) 0))) (outL (outL bf1 (topA (stA n a1 c)) c).1 (topA (stA n (takeA (stA n a1 c) c (dirI (dirS true (14 :: 23 :: behind) 0))) 14)) 14).1, outL bf1 (topA (stA n a1 c)) c, outL (outL bf1 (topA (stA n a1 c)) c).1 (topA (stA n (takeA (stA n a1 c) c (dirI (dirS true (14 :: 23 :: behind) 0))) 14)) 14, k1, ?_, ?_⟩
    · rw [h3]
      have e1 : stA n ({ a1 with iso := a1.iso + 1 } : Sk) 14 = { a1 with iso := a1.iso + 1 } := rfl
      have e2 : stA n a1 c = a1 := by unfold stA; rw [if_neg (by omega), if_neg (by omega)]
      rw [e1, e2]
      have r1 : remC 14 = false := by decide
      have r2 : remC c = false := by rcases hc with rfl | rfl <;> decide
      unfold outL
      rw [r1, r2]
      rfl
    · rw [k3 _ (fun d => dir_isol true c hc [14] behind e14 d)]
      rfl
end Go.Proofs.Ytdkbkecnhebanaa.X
