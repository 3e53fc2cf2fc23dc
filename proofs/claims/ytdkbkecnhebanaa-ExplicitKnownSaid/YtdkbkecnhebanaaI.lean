import Derived.Test.YtdkbkecnhebanaaA
/-! Plain bounds of the levels. -/
namespace Go.Proofs.Ytdkbkecnhebanaa.X
open Go.Proofs.YtdkbkecnhebanaaW.PrintWords
set_option linter.unusedVariables false
set_option linter.unusedSimpArgs false
def GeN (n : Int) (es : List Ent) : Prop := ∀ e ∈ es, n ≤ e.1
def bOk (n : Int) : Int → List Int → List (Int × Int) → Prop
  | _, [], [] => True
  | bf, c :: t, o :: R => (n ≤ o.1 ∧ o.1 ≤ 125 ∧ (c = 11 → o.1 = n) ∧ (remC c = true → o = (bf, 10)) ∧ (remC c = false → o.2 = c ∨ o.2 = 1 ∨ o.2 = 2)) ∧ bOk n o.1 t R
  | _, _, _ => False
theorem GeN.popI {n : Int} : ∀ {es : List Ent}, GeN n es → GeN n (popI es) := by
  intro es
  induction es with
  | nil => intro h; exact h
  | cons e t ih =>
    intro h
    have ht : GeN n t := fun x hx => h x (List.mem_cons_of_mem _ hx)
    show GeN n (if e.2.2 = true then t else X.popI t)
    split
    · exact ht
    · exact ih ht
theorem GeN.push {n : Int} {a : Sk} (h : GeN n a.es) (c o : Int) (i : Bool) : GeN n (pushA a c o i).1.es := by
  unfold pushA
  cases he : a.es with
  | nil => simp only; rw [he] at h; rw [he]; exact h
  | cons e t =>
    simp only
    split
    · intro x hx
      rw [he] at h
      rcases List.mem_cons.1 hx with rfl | hx
      · have := h e List.mem_cons_self
        have := nxtLev_lo e.1 c
        show n ≤ nxtLev e.1 c
        omega
      · exact h x hx
    · exact h
theorem GeN.pdi {n : Int} {a : Sk} (h : GeN n a.es) : GeN n (pdiA a).es := by
  unfold pdiA
  split
  · exact h
  · split
    · exact h
    · exact GeN.popI h
theorem GeN.pdf {n : Int} {a : Sk} (h : GeN n a.es) : GeN n (pdfA a).es := by
  unfold pdfA
  split
  · exact h
  · split
    · exact h
    · split
      · next e f t he =>
        split
        · exact h
        · rw [he] at h
          exact fun x hx => h x (List.mem_cons_of_mem _ hx)
      · exact h
theorem GeN.emb {n : Int} {a : Sk} (h : GeN n a.es) (c o : Int) : GeN n (embA a c o).es := by
  unfold embA
  split
  · exact h.push c o false
  · exact h.push c o false
theorem GeN.iso {n : Int} {a : Sk} (h : GeN n a.es) (c : Int) : GeN n (isoA a c).es := by
  unfold isoA
  split
  · exact h.push c 0 true
  · exact h.push c 0 true
theorem GeN.take {n : Int} {a : Sk} (h : GeN n a.es) (c d : Int) : GeN n (takeA a c d).es := by
  unfold takeA
  split
  · exact h.emb _ _
  · split
    · exact h.emb _ _
    · split
      · exact h.emb _ _
      · split
        · exact h.emb _ _
        · split
          · exact h.iso _
          · split
            · exact h.iso _
            · split
              · exact h.iso _
              · split
                · exact h.pdf
                · exact h
theorem GeN.st {n : Int} {a : Sk} (h : GeN n a.es) (c : Int) : GeN n (stA n a c).es := by
  unfold stA
  split
  · exact h.pdi
  · split
    · intro x hx
      have := List.mem_singleton.1 hx
      subst this
      exact Int.le_refl n
    · exact h
theorem runL_out (n : Int) (h0 : 0 ≤ n) (h1 : n ≤ 1) : ∀ (l : List Int) (a : Sk) (bf m : Int), Wf a m → 0 ≤ m → GeN n a.es → n ≤ bf → bf ≤ 125 → bOk n bf l (runL n l a bf) := by
  intro l
  induction l with
  | nil => intros; trivial
  | cons c t ih =>
    intro a bf m hw hm hg hb0 hb1
    have hw1 := hw.st hm h0 h1 c
    obtain ⟨e, u, he, k1, k2, k3, k4⟩ := hw1.ch.top
    have et : topA (stA n a c) = e := by unfold topA; rw [he]; rfl
    have hge := hg.st (n := n) c e (by rw [he]; exact List.mem_cons_self)
    have key : n ≤ (outL bf (topA (stA n a c)) c).1 ∧ (outL bf (topA (stA n a c)) c).1 ≤ 125 ∧ (c = 11 → (outL bf (topA (stA n a c)) c).1 = n) ∧ (remC c = true → outL bf (topA (stA n a c)) c = (bf, 10)) ∧ (remC c = false → (outL bf (topA (stA n a c)) c).2 = c ∨ (outL bf (topA (stA n a c)) c).2 = 1 ∨ (outL bf (topA (stA n a c)) c).2 = 2) := by
      unfold outL
      cases hr : remC c with
      | true =>
        rw [if_pos rfl]
        refine ⟨hb0, hb1, fun h => ?_, fun _ => rfl, (fun h => by cases h)⟩
        subst h
        exact absurd hr (by decide)
      | false =>
        rw [if_neg (by decide), et]
        refine ⟨hge, k2, fun h => ?_, (fun h => by cases h), fun _ => ?_⟩
        · subst h
          have : e = (n, 0, false) := by rw [← et]; rfl
          rw [this]
        · show (if e.2.1 ≠ 0 then e.2.1 else c) = c ∨ (if e.2.1 ≠ 0 then e.2.1 else c) = 1 ∨ (if e.2.1 ≠ 0 then e.2.1 else c) = 2
          by_cases q : e.2.1 = 0
          · rw [if_neg (fun h => h q)]; exact .inl rfl
          · rw [if_pos q]; omega
    exact ⟨key, ih _ _ (m + 1) (hw1.take _ _) (by omega) ((hg.st c).take _ _) key.1 key.2.1⟩
end Go.Proofs.Ytdkbkecnhebanaa.X
