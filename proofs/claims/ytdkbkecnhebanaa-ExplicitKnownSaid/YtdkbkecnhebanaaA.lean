import Derived.Test.YtdkbkecnhebanaaT9
/-! The levels that controls ask for, plainly: on classes and a stack. -/
namespace Go.Proofs.Ytdkbkecnhebanaa.X
set_option linter.unusedVariables false
set_option linter.unusedSimpArgs false
/-- The direction of the first strong class: is it R? d: in how many isolates; stop: a PDI of no isolate here ends it. -/
def dirS (stop : Bool) : List Int → Nat → Bool
  | [], _ => false
  | c :: t, d =>
    if c = 11 then false
    else if 20 ≤ c ∧ c ≤ 22 then dirS stop t (d + 1)
    else if c = 23 then (match d with
      | 0 => if stop = true then false else dirS stop t 0
      | d' + 1 => dirS stop t d')
    else if d = 0 ∧ c = 1 then false
    else if d = 0 ∧ (c = 2 ∨ c = 3) then true
    else dirS stop t d
def remC (c : Int) : Bool := decide (15 ≤ c ∧ c ≤ 19) || decide (c = 10)
def newA (base : Int) : Sk := ⟨[(base, 0, false)], 0, 0, 0⟩
/-- What a class does to the stack ahead of its own level. -/
def stA (base : Int) (a : Sk) (c : Int) : Sk := if c = 23 then pdiA a else if c = 11 then newA base else a
def topA (a : Sk) : Ent := a.es.headD (0, 0, false)
/-- A place's level and class. -/
def outL (bf : Int) (e : Ent) (c : Int) : Int × Int := if remC c = true then (bf, 10) else (e.1, if e.2.1 ≠ 0 then e.2.1 else c)
def dirI (b : Bool) : Int := if b = true then 2 else 1
def runL (base : Int) : List Int → Sk → Int → List (Int × Int)
  | [], _, _ => []
  | c :: t, a, bf => outL bf (topA (stA base a c)) c :: runL base t (takeA (stA base a c) c (dirI (dirS true t 0))) (outL bf (topA (stA base a c)) c).1
def okC (c : Int) : Bool := decide (1 ≤ c ∧ c ≤ 23)
def lvBase (l : List Int) (base : Int) : Int := if base = 2 then (if dirS false l 0 = true then 1 else 0) else base
/-- Levels, classes, the paragraph's level, the error's number. -/
def lvRes (l : List Int) (base : Int) : List Int × List Int × Int × Int :=
  if 65536 < l.length then ([], [], 0, 3)
  else if l.all okC = false then ([], [], 0, 2)
  else if 2 < base then ([], [], 0, 2)
  else ((runL (lvBase l base) l (newA (lvBase l base)) (lvBase l base)).map (·.1), (runL (lvBase l base) l (newA (lvBase l base)) (lvBase l base)).map (·.2), lvBase l base, 0)
/-! ### the stack stays one -/
theorem popI_chain : ∀ {es : List Ent} (h : Chain es) (hp : 0 < isoN es), Chain (popI es) ∧ isoN (popI es) = isoN es - 1 := by
  intro es
  induction es with
  | nil => intro h; exact h.elim
  | cons e t ih =>
    intro h hp
    cases t with
    | nil =>
      have := h.2.2.2
      unfold isoN at hp
      rw [if_neg (by rw [this]; decide)] at hp
      exact absurd hp (by decide)
    | cons f t =>
      by_cases q : e.2.2 = true
      · have e1 : popI (e :: f :: t) = f :: t := by show (if _ then _ else _) = _; rw [if_pos q]
        have e2 : isoN (e :: f :: t) = 1 + isoN (f :: t) := by show (if _ then _ else _) + _ = _; rw [if_pos q]
        rw [e1, e2]
        exact ⟨h.2.2.2, by omega⟩
      · have e1 : popI (e :: f :: t) = popI (f :: t) := by show (if _ then _ else _) = _; rw [if_neg q]
        have e2 : isoN (e :: f :: t) = 0 + isoN (f :: t) := by show (if _ then _ else _) + _ = _; rw [if_neg q]
        rw [e2] at hp
        rw [e1, e2]
        have := ih h.2.2.2 (by omega)
        exact ⟨this.1, by omega⟩
theorem Wf.mono {a : Sk} {m m' : Int} (h : Wf a m) (hm : m ≤ m') : Wf a m' := ⟨h.ch, h.i0, by have := h.i1; omega, h.e0, by have := h.e1; omega, h.vl⟩
theorem Wf.pdi {a : Sk} {m : Int} (h : Wf a m) : Wf (pdiA a) m := by
  have i0 := h.i0
  have i1 := h.i1
  have e0 := h.e0
  have e1 := h.e1
  have vl := h.vl
  unfold pdiA
  by_cases q : 0 < a.iso
  · rw [if_pos q]
    exact ⟨h.ch, by show 0 ≤ a.iso - 1; omega, by show a.iso - 1 ≤ m; omega, e0, e1, vl⟩
  · rw [if_neg q]
    by_cases q2 : a.val = 0
    · rw [if_pos q2]; exact h
    · rw [if_neg q2]
      have := isoN_nonneg a.es
      have hp := popI_chain h.ch (by omega)
      exact ⟨hp.1, i0, i1, Int.le_refl 0, by show (0 : Int) ≤ m; omega, by show a.val - 1 = isoN (popI a.es); rw [hp.2]; omega⟩
theorem Wf.pdf {a : Sk} {m : Int} (h : Wf a m) : Wf (pdfA a) m := by
  have i0 := h.i0
  have i1 := h.i1
  have e0 := h.e0
  have e1 := h.e1
  have vl := h.vl
  unfold pdfA
  by_cases q : 0 < a.iso
  · rw [if_pos q]; exact h
  · rw [if_neg q]
    by_cases q2 : 0 < a.emb
    · rw [if_pos q2]
      exact ⟨h.ch, i0, i1, by show 0 ≤ a.emb - 1; omega, by show a.emb - 1 ≤ m; omega, vl⟩
    · rw [if_neg q2]
      have hc := h.ch
      split
      · next e f t he =>
        by_cases q3 : e.2.2 = true
        · rw [if_pos q3]; exact h
        · rw [if_neg q3]
          rw [he] at hc vl
          refine ⟨hc.2.2.2, i0, i1, e0, e1, ?_⟩
          show a.val = isoN (f :: t)
          rw [vl]
          show (if _ then _ else _) + _ = _
          rw [if_neg q3]
          omega
      · exact h
theorem Wf.push {a : Sk} {m : Int} (h : Wf a m) (c o : Int) (i : Bool) (ho : o = 0 ∨ o = 1 ∨ o = 2) :
    Chain (pushA a c o i).1.es ∧ isoN (pushA a c o i).1.es = isoN a.es + (if (pushA a c o i).2 = true ∧ i = true then 1 else 0) := by
  have hc := h.ch
  cases he : a.es with
  | nil => rw [he] at hc; exact hc.elim
  | cons e t =>
    rw [he] at hc
    by_cases q : nxtLev e.1 c ≤ 125 ∧ a.iso + a.emb ≤ 0
    · have hp : pushA a c o i = ({ a with es := (nxtLev e.1 c, o, i) :: e :: t }, true) := by unfold pushA; rw [he]; exact if_pos q
      simp only [hp]
      refine ⟨⟨nxtLev_lo e.1 c, q.1, ho, hc⟩, ?_⟩
      show (if i = true then 1 else 0) + isoN (e :: t) = _
      cases i <;> simp <;> omega
    · have hp : pushA a c o i = (a, false) := by unfold pushA; rw [he]; exact if_neg q
      simp only [hp]
      refine ⟨by rw [he]; exact hc, ?_⟩
      rw [he]
      simp
theorem Wf.emb {a : Sk} {m : Int} (h : Wf a m) (c o : Int) (ho : o = 0 ∨ o = 1 ∨ o = 2) : Wf (embA a c o) (m + 1) := by
  have i0 := h.i0
  have i1 := h.i1
  have e0 := h.e0
  have e1 := h.e1
  have vl := h.vl
  have hp := h.push c o false ho
  have hs := pushA_same a c o false
  unfold embA
  generalize pushA a c o false = p at *
  obtain ⟨a1, b⟩ := p
  simp only [] at hp hs ⊢
  have hz : isoN a1.es = isoN a.es := by rw [hp.2]; simp
  split
  · exact ⟨hp.1, by show 0 ≤ a1.iso; omega, by show a1.iso ≤ m + 1; omega, by show 0 ≤ a1.emb + 1; omega, by show a1.emb + 1 ≤ m + 1; omega, by show a1.val = isoN a1.es; omega⟩
  · exact ⟨hp.1, by omega, by omega, by omega, by omega, by omega⟩
theorem Wf.iso {a : Sk} {m : Int} (h : Wf a m) (c : Int) : Wf (isoA a c) (m + 1) := by
  have i0 := h.i0
  have i1 := h.i1
  have e0 := h.e0
  have e1 := h.e1
  have vl := h.vl
  have hp := h.push c 0 true (.inl rfl)
  have hs := pushA_same a c 0 true
  unfold isoA
  generalize pushA a c 0 true = p at *
  obtain ⟨a1, b⟩ := p
  simp only [] at hp hs ⊢
  cases b with
  | true =>
    rw [if_pos rfl]
    have hz : isoN a1.es = isoN a.es + 1 := by rw [hp.2]; simp
    exact ⟨hp.1, by show 0 ≤ a1.iso; omega, by show a1.iso ≤ m + 1; omega, by show 0 ≤ a1.emb; omega, by show a1.emb ≤ m + 1; omega, by show a1.val + 1 = isoN a1.es; omega⟩
  | false =>
    rw [if_neg (by decide)]
    have hz : isoN a1.es = isoN a.es := by rw [hp.2]; simp
    exact ⟨hp.1, by show 0 ≤ a1.iso + 1; omega, by show a1.iso + 1 ≤ m + 1; omega, by show 0 ≤ a1.emb; omega, by show a1.emb ≤ m + 1; omega, by show a1.val = isoN a1.es; omega⟩
theorem Wf.take {a : Sk} {m : Int} (h : Wf a m) (c d : Int) : Wf (takeA a c d) (m + 1) := by
  unfold takeA
  split
  · exact h.emb _ _ (.inr (.inr rfl))
  · split
    · exact h.emb _ _ (.inl rfl)
    · split
      · exact h.emb _ _ (.inl rfl)
      · split
        · exact h.emb _ _ (.inr (.inl rfl))
        · split
          · exact h.iso _
          · split
            · exact h.iso _
            · split
              · exact h.iso _
              · split
                · exact h.pdf.mono (by omega)
                · exact h.mono (by omega)
theorem Wf.new {base : Int} (h0 : 0 ≤ base) (h1 : base ≤ 1) : Wf (newA base) 0 := ⟨⟨h0, h1, rfl, rfl⟩, Int.le_refl 0, Int.le_refl 0, Int.le_refl 0, Int.le_refl 0, rfl⟩
theorem Wf.st {a : Sk} {m base : Int} (h : Wf a m) (hm : 0 ≤ m) (h0 : 0 ≤ base) (h1 : base ≤ 1) (c : Int) : Wf (stA base a c) m := by
  unfold stA
  split
  · exact h.pdi
  · split
    · exact (Wf.new h0 h1).mono hm
    · exact h
theorem runL_len (base : Int) : ∀ (l : List Int) (a : Sk) (bf : Int), (runL base l a bf).length = l.length := by
  intro l
  induction l with
  | nil => intros; rfl
  | cons c t ih => intro a bf; show _ + 1 = _ + 1; rw [ih]
end Go.Proofs.Ytdkbkecnhebanaa.X
