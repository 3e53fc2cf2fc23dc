import Derived.Test.YtofiflhjlohakaaB
import Derived.Test.YtofiflhjlohakaaU3
import Derived.Deep.OwnRows
import Derived.RegionTactic
import Derived.ChangeAlike
import Derived.IntWalk
import Derived.Laws.BitsLemmas
namespace Go.Proofs.Ytofiflhjlohakaa.X
open Go.RowKit Go.Proofs.YtofiflhjlohakaaW.PrintWords Go.Proofs.YtofiflhjlohakaaW.PrintLast Go.Proofs.YtofiflhjlohakaaW.PrintMore
attribute [local go_sem] max2_int min2_int max_two min_two max_three min_three max_four min_four
set_option linter.unusedVariables false
set_option linter.unusedSimpArgs false
/-! Levels, plainly (carried over from chapter 14 by carry14.py). -/
theorem grown_set (W : World) (p : Addr) (v : Value) : W.grownBy (W.setCell p v) (some p.block) :=
  ⟨rfl, rfl, rfl, by simp [World.setCell], fun i _ hne => Below.heap_setCell W p v i (fun e => hne (by rw [e]))⟩
abbrev Ent := Int × Int × Bool
structure Sk where
  es : List Ent
  iso : Int
  emb : Int
  val : Int
def RepE (C : Array Value) : List Ent → Prop
  | [] => True
  | e :: t => C[t.length * 3]? = some (.int .u8 e.1) ∧ C[t.length * 3 + 1]? = some (.int .u8 e.2.1) ∧ C[t.length * 3 + 2]? = some (.bool e.2.2) ∧ RepE C t
theorem RepE.set {C : Array Value} : ∀ {t : List Ent} (h : RepE C t) (i : Nat) (v : Value) (hi : t.length * 3 ≤ i), RepE (C.setIfInBounds i v) t := by
  intro t
  induction t with
  | nil => intro _ _ _ _; trivial
  | cons e t ih =>
    intro h i v hi
    simp only [List.length_cons] at hi
    obtain ⟨h1, h2, h3, h4⟩ := h
    refine ⟨?_, ?_, ?_, ih h4 i v (by omega)⟩ <;> rw [Array.getElem?_setIfInBounds_ne (by omega)] <;> assumption
def RetB (b : Bool) (e : Ending) (P : Prop) : Prop := e = .returned (.bool b) ∧ P
theorem grown_at {W w1 w2 : World} {r : Option Nat} (h : W.grownBy w1 r) (h1 : w2.heap = w1.heap) (h2 : w2.os = w1.os) (h3 : w2.tape = w1.tape) (h4 : w2.output = w1.output) : W.grownBy w2 r :=
  ⟨h2.trans h.1, h3.trans h.2, h4.trans h.3, by rw [h1]; exact h.4, fun i hi hne => by rw [h1]; exact h.5 i hi hne⟩
def RetV (v : Value) (e : Ending) (P : Prop) : Prop := e = .returned v ∧ P
/-- The level that comes next: odd for R (2), even for L. -/
def nxtLev (l c : Int) : Int := if c = 2 then (if l % 2 = 0 then l + 1 else l + 2) else (if l % 2 = 0 then l + 2 else l + 1)
def pushA (a : Sk) (c o : Int) (i : Bool) : Sk × Bool :=
  match a.es with
  | [] => (a, false)
  | e :: t => if nxtLev e.1 c ≤ 125 ∧ a.iso + a.emb ≤ 0 then ({ a with es := (nxtLev e.1 c, o, i) :: e :: t }, true) else (a, false)
/-- Levels rise; the lowest entry is no isolate. -/
def Chain : List Ent → Prop
  | [] => False
  | [e] => 0 ≤ e.1 ∧ e.1 ≤ 1 ∧ e.2.1 = 0 ∧ e.2.2 = false
  | e :: f :: t => f.1 < e.1 ∧ e.1 ≤ 125 ∧ (e.2.1 = 0 ∨ e.2.1 = 1 ∨ e.2.1 = 2) ∧ Chain (f :: t)
def isoN : List Ent → Int
  | [] => 0
  | e :: t => (if e.2.2 = true then 1 else 0) + isoN t
structure Wf (a : Sk) (m : Int) : Prop where
  ch : Chain a.es
  i0 : 0 ≤ a.iso
  i1 : a.iso ≤ m
  e0 : 0 ≤ a.emb
  e1 : a.emb ≤ m
  vl : a.val = isoN a.es
theorem Chain.top : ∀ {es : List Ent} (h : Chain es), ∃ e t, es = e :: t ∧ (t.length : Int) ≤ e.1 ∧ e.1 ≤ 125 ∧ 0 ≤ e.1 ∧ (e.2.1 = 0 ∨ e.2.1 = 1 ∨ e.2.1 = 2) := by
  intro es
  induction es with
  | nil => intro h; exact h.elim
  | cons e t ih =>
    intro h
    cases t with
    | nil => exact ⟨e, [], rfl, by simpa using h.1, by have := h.2.1; omega, h.1, .inl h.2.2.1⟩
    | cons f t =>
      obtain ⟨f', t', he, h1, h2, h3, h4⟩ := ih h.2.2.2
      injection he with he1 he2
      subst he1 he2
      have := h.1
      exact ⟨e, f :: t, rfl, by simp only [List.length_cons]; omega, h.2.1, by omega, h.2.2.1⟩
theorem isoN_nonneg : ∀ es : List Ent, 0 ≤ isoN es := by
  intro es
  induction es with
  | nil => exact Int.le_refl 0
  | cons e t ih => unfold isoN; split <;> omega
theorem isoN_le : ∀ es : List Ent, isoN es ≤ es.length := by
  intro es
  induction es with
  | nil => exact Int.le_refl 0
  | cons e t ih => unfold isoN; simp only [List.length_cons]; split <;> omega
theorem nxtLev_lo (l c : Int) : l < nxtLev l c := by unfold nxtLev; split <;> split <;> omega
def Ret0 (e : Ending) (P : Prop) : Prop := e = .returned (.tuple #[]) ∧ P
def pdfA (a : Sk) : Sk := if 0 < a.iso then a else if 0 < a.emb then { a with emb := a.emb - 1 } else match a.es with
  | e :: f :: t => if e.2.2 = true then a else { a with es := f :: t }
  | _ => a
def popI : List Ent → List Ent
  | [] => []
  | e :: t => if e.2.2 = true then t else popI t
def pdiA (a : Sk) : Sk := if 0 < a.iso then { a with iso := a.iso - 1 } else if a.val = 0 then a else { a with emb := 0, val := a.val - 1, es := popI a.es }
def embA (a : Sk) (side ov : Int) : Sk := if (pushA a side ov false).2 = false ∧ (pushA a side ov false).1.iso = 0 then { (pushA a side ov false).1 with emb := (pushA a side ov false).1.emb + 1 } else (pushA a side ov false).1
def isoA (a : Sk) (side : Int) : Sk := if (pushA a side 0 true).2 = true then { (pushA a side 0 true).1 with val := (pushA a side 0 true).1.val + 1 } else { (pushA a side 0 true).1 with iso := (pushA a side 0 true).1.iso + 1 }
/-- What a class of a text does to the stack; d: what an FSI is of. -/
def takeA (a : Sk) (c d : Int) : Sk :=
  if c = 18 then embA a 2 2 else if c = 16 then embA a 2 0 else if c = 15 then embA a 1 0 else if c = 17 then embA a 1 1
  else if c = 20 then isoA a 1 else if c = 21 then isoA a 2 else if c = 22 then isoA a d else if c = 19 then pdfA a else a
theorem pushA_same (a : Sk) (c o : Int) (i : Bool) : (pushA a c o i).1.iso = a.iso ∧ (pushA a c o i).1.emb = a.emb ∧ (pushA a c o i).1.val = a.val := by
  unfold pushA
  split
  · exact ⟨rfl, rfl, rfl⟩
  · split <;> exact ⟨rfl, rfl, rfl⟩
/-- The direction of the first strong class: is it R? d: in how many isolates; stop: a PDI of no isolate here ends it. -/
def dirS (stop : Bool) : List Int → Nat → Bool
  | [], _ => false
  | c :: t, d =>
    if c = 11 then false
    else if 20 ≤ c ∧ c ≤ 22 then dirS stop t (d + 1)
    else if c = 23 then (match d with
      | 0 => if stop = true then false else dirS stop t 0
      | d' + 1 => dirS stop t d')
    else if d = 0 ∧ c = 1 then false
    else if d = 0 ∧ (c = 2 ∨ c = 3) then true
    else dirS stop t d
def newA (base : Int) : Sk := ⟨[(base, 0, false)], 0, 0, 0⟩
/-- What a class does to the stack ahead of its own level. -/
def stA (base : Int) (a : Sk) (c : Int) : Sk := if c = 23 then pdiA a else if c = 11 then newA base else a
def topA (a : Sk) : Ent := a.es.headD (0, 0, false)
/-- A place's level and class. -/
def outL (bf : Int) (e : Ent) (c : Int) : Int × Int := if remC c = true then (bf, 10) else (e.1, if e.2.1 ≠ 0 then e.2.1 else c)
def dirI (b : Bool) : Int := if b = true then 2 else 1
def runL (base : Int) : List Int → Sk → Int → List (Int × Int)
  | [], _, _ => []
  | c :: t, a, bf => outL bf (topA (stA base a c)) c :: runL base t (takeA (stA base a c) c (dirI (dirS true t 0))) (outL bf (topA (stA base a c)) c).1
def okC (c : Int) : Bool := decide (1 ≤ c ∧ c ≤ 23)
def lvBase (l : List Int) (base : Int) : Int := if base = 2 then (if dirS false l 0 = true then 1 else 0) else base
/-- Levels, classes, the paragraph's level, the error's number. -/
def lvRes (l : List Int) (base : Int) : List Int × List Int × Int × Int :=
  if 65536 < l.length then ([], [], 0, 3)
  else if l.all okC = false then ([], [], 0, 2)
  else if 2 < base then ([], [], 0, 2)
  else ((runL (lvBase l base) l (newA (lvBase l base)) (lvBase l base)).map (·.1), (runL (lvBase l base) l (newA (lvBase l base)) (lvBase l base)).map (·.2), lvBase l base, 0)
theorem popI_chain : ∀ {es : List Ent} (h : Chain es) (hp : 0 < isoN es), Chain (popI es) ∧ isoN (popI es) = isoN es - 1 := by
  intro es
  induction es with
  | nil => intro h; exact h.elim
  | cons e t ih =>
    intro h hp
    cases t with
    | nil =>
      have := h.2.2.2
      unfold isoN at hp
      rw [if_neg (by rw [this]; decide)] at hp
      exact absurd hp (by decide)
    | cons f t =>
      by_cases q : e.2.2 = true
      · have e1 : popI (e :: f :: t) = f :: t := by show (if _ then _ else _) = _; rw [if_pos q]
        have e2 : isoN (e :: f :: t) = 1 + isoN (f :: t) := by show (if _ then _ else _) + _ = _; rw [if_pos q]
        rw [e1, e2]
        exact ⟨h.2.2.2, by omega⟩
      · have e1 : popI (e :: f :: t) = popI (f :: t) := by show (if _ then _ else _) = _; rw [if_neg q]
        have e2 : isoN (e :: f :: t) = 0 + isoN (f :: t) := by show (if _ then _ else _) + _ = _; rw [if_neg q]
        rw [e2] at hp
        rw [e1, e2]
        have := ih h.2.2.2 (by omega)
        exact ⟨this.1, by omega⟩
theorem Wf.mono {a : Sk} {m m' : Int} (h : Wf a m) (hm : m ≤ m') : Wf a m' := ⟨h.ch, h.i0, by have := h.i1; omega, h.e0, by have := h.e1; omega, h.vl⟩
theorem Wf.pdi {a : Sk} {m : Int} (h : Wf a m) : Wf (pdiA a) m := by
  have i0 := h.i0
  have i1 := h.i1
  have e0 := h.e0
  have e1 := h.e1
  have vl := h.vl
  unfold pdiA
  by_cases q : 0 < a.iso
  · rw [if_pos q]
    exact ⟨h.ch, by show 0 ≤ a.iso - 1; omega, by show a.iso - 1 ≤ m; omega, e0, e1, vl⟩
  · rw [if_neg q]
    by_cases q2 : a.val = 0
    · rw [if_pos q2]; exact h
    · rw [if_neg q2]
      have := isoN_nonneg a.es
      have hp := popI_chain h.ch (by omega)
      exact ⟨hp.1, i0, i1, Int.le_refl 0, by show (0 : Int) ≤ m; omega, by show a.val - 1 = isoN (popI a.es); rw [hp.2]; omega⟩
theorem Wf.pdf {a : Sk} {m : Int} (h : Wf a m) : Wf (pdfA a) m := by
  have i0 := h.i0
  have i1 := h.i1
  have e0 := h.e0
  have e1 := h.e1
  have vl := h.vl
  unfold pdfA
  by_cases q : 0 < a.iso
  · rw [if_pos q]; exact h
  · rw [if_neg q]
    by_cases q2 : 0 < a.emb
    · rw [if_pos q2]
      exact ⟨h.ch, i0, i1, by show 0 ≤ a.emb - 1; omega, by show a.emb - 1 ≤ m; omega, vl⟩
    · rw [if_neg q2]
      have hc := h.ch
      split
      · next e f t he =>
        by_cases q3 : e.2.2 = true
        · rw [if_pos q3]; exact h
        · rw [if_neg q3]
          rw [he] at hc vl
          refine ⟨hc.2.2.2, i0, i1, e0, e1, ?_⟩
          show a.val = isoN (f :: t)
          rw [vl]
          show (if _ then _ else _) + _ = _
          rw [if_neg q3]
          omega
      · exact h
theorem Wf.push {a : Sk} {m : Int} (h : Wf a m) (c o : Int) (i : Bool) (ho : o = 0 ∨ o = 1 ∨ o = 2) :
    Chain (pushA a c o i).1.es ∧ isoN (pushA a c o i).1.es = isoN a.es + (if (pushA a c o i).2 = true ∧ i = true then 1 else 0) := by
  have hc := h.ch
  cases he : a.es with
  | nil => rw [he] at hc; exact hc.elim
  | cons e t =>
    rw [he] at hc
    by_cases q : nxtLev e.1 c ≤ 125 ∧ a.iso + a.emb ≤ 0
    · have hp : pushA a c o i = ({ a with es := (nxtLev e.1 c, o, i) :: e :: t }, true) := by unfold pushA; rw [he]; exact if_pos q
      simp only [hp]
      refine ⟨⟨nxtLev_lo e.1 c, q.1, ho, hc⟩, ?_⟩
      show (if i = true then 1 else 0) + isoN (e :: t) = _
      cases i <;> simp <;> omega
    · have hp : pushA a c o i = (a, false) := by unfold pushA; rw [he]; exact if_neg q
      simp only [hp]
      refine ⟨by rw [he]; exact hc, ?_⟩
      rw [he]
      simp
theorem Wf.emb {a : Sk} {m : Int} (h : Wf a m) (c o : Int) (ho : o = 0 ∨ o = 1 ∨ o = 2) : Wf (embA a c o) (m + 1) := by
  have i0 := h.i0
  have i1 := h.i1
  have e0 := h.e0
  have e1 := h.e1
  have vl := h.vl
  have hp := h.push c o false ho
  have hs := pushA_same a c o false
  unfold embA
  generalize pushA a c o false = p at *
  obtain ⟨a1, b⟩ := p
  simp only [] at hp hs ⊢
  have hz : isoN a1.es = isoN a.es := by rw [hp.2]; simp
  split
  · exact ⟨hp.1, by show 0 ≤ a1.iso; omega, by show a1.iso ≤ m + 1; omega, by show 0 ≤ a1.emb + 1; omega, by show a1.emb + 1 ≤ m + 1; omega, by show a1.val = isoN a1.es; omega⟩
  · exact ⟨hp.1, by omega, by omega, by omega, by omega, by omega⟩
theorem Wf.iso {a : Sk} {m : Int} (h : Wf a m) (c : Int) : Wf (isoA a c) (m + 1) := by
  have i0 := h.i0
  have i1 := h.i1
  have e0 := h.e0
  have e1 := h.e1
  have vl := h.vl
  have hp := h.push c 0 true (.inl rfl)
  have hs := pushA_same a c 0 true
  unfold isoA
  generalize pushA a c 0 true = p at *
  obtain ⟨a1, b⟩ := p
  simp only [] at hp hs ⊢
  cases b with
  | true =>
    rw [if_pos rfl]
    have hz : isoN a1.es = isoN a.es + 1 := by rw [hp.2]; simp
    exact ⟨hp.1, by show 0 ≤ a1.iso; omega, by show a1.iso ≤ m + 1; omega, by show 0 ≤ a1.emb; omega, by show a1.emb ≤ m + 1; omega, by show a1.val + 1 = isoN a1.es; omega⟩
  | false =>
    rw [if_neg (by decide)]
    have hz : isoN a1.es = isoN a.es := by rw [hp.2]; simp
    exact ⟨hp.1, by show 0 ≤ a1.iso + 1; omega, by show a1.iso + 1 ≤ m + 1; omega, by show 0 ≤ a1.emb; omega, by show a1.emb ≤ m + 1; omega, by show a1.val = isoN a1.es; omega⟩
theorem Wf.take {a : Sk} {m : Int} (h : Wf a m) (c d : Int) : Wf (takeA a c d) (m + 1) := by
  unfold takeA
  split
  · exact h.emb _ _ (.inr (.inr rfl))
  · split
    · exact h.emb _ _ (.inl rfl)
    · split
      · exact h.emb _ _ (.inl rfl)
      · split
        · exact h.emb _ _ (.inr (.inl rfl))
        · split
          · exact h.iso _
          · split
            · exact h.iso _
            · split
              · exact h.iso _
              · split
                · exact h.pdf.mono (by omega)
                · exact h.mono (by omega)
theorem Wf.new {base : Int} (h0 : 0 ≤ base) (h1 : base ≤ 1) : Wf (newA base) 0 := ⟨⟨h0, h1, rfl, rfl⟩, Int.le_refl 0, Int.le_refl 0, Int.le_refl 0, Int.le_refl 0, rfl⟩
theorem Wf.st {a : Sk} {m base : Int} (h : Wf a m) (hm : 0 ≤ m) (h0 : 0 ≤ base) (h1 : base ≤ 1) (c : Int) : Wf (stA base a c) m := by
  unfold stA
  split
  · exact h.pdi
  · split
    · exact (Wf.new h0 h1).mono hm
    · exact h
theorem runL_len (base : Int) : ∀ (l : List Int) (a : Sk) (bf : Int), (runL base l a bf).length = l.length := by
  intro l
  induction l with
  | nil => intros; rfl
  | cons c t ih => intro a bf; show _ + 1 = _ + 1; rw [ih]
/-- Where the PDI stands that ends an isolate in which one is; d: in how many more. -/
def pdiAt : List Int → Nat → Option Nat
  | [], _ => none
  | c :: t, d =>
    if c = 11 then none
    else if 20 ≤ c ∧ c ≤ 22 then (pdiAt t (d + 1)).map (· + 1)
    else if c = 23 then (match d with
      | 0 => some 0
      | d' + 1 => (pdiAt t d').map (· + 1))
    else (pdiAt t d).map (· + 1)
/-- What matches is told for places (a row of rows' own): the initiator at p, in front of t, at depth d. -/
def mtv (q : Int) (o : Option Nat) (z : Int) : Int := match o with
  | some n => q + n
  | none => z
theorem mtF_len : ∀ (t : List Int) (i : Int) (op out : List Int), (mtF t i op out).length = out.length := by
  intro t
  induction t with
  | nil => intros; rfl
  | cons c t ih =>
    intro i op out
    unfold mtF
    split
    · rw [ih]; simp
    · split
      · rw [ih]; simp
      · split
        · rw [ih]; simp
        · rw [ih]; simp
/-- A row of open places, the last one first. -/
def OpI (i : Int) (op : List Int) : Prop := op.Pairwise (· < ·) ∧ ∀ x ∈ op, 0 ≤ x ∧ x < i
theorem OpI.snoc {i : Int} {op : List Int} (h : OpI i op) (hi : 0 ≤ i) : OpI (i + 1) (op ++ [i]) := by
  refine ⟨List.pairwise_append.2 ⟨h.1, List.pairwise_singleton _ _, fun a ha b hb => ?_⟩, fun x hx => ?_⟩
  · have := h.2 a ha; have := List.mem_singleton.1 hb; omega
  · rcases List.mem_append.1 hx with hx | hx
    · have := h.2 x hx; omega
    · have := List.mem_singleton.1 hx; omega
theorem OpI.next {i : Int} {op : List Int} (h : OpI i op) : OpI (i + 1) op := ⟨h.1, fun x hx => by have := h.2 x hx; omega⟩
theorem rd_set_ne' {l : List Int} {i j v : Int} (hj : 0 ≤ j) (hi : 0 ≤ i) (hne : j ≠ i) : rd (l.set i.toNat v) j = rd l j := by
  obtain ⟨n, rfl⟩ := Int.eq_ofNat_of_zero_le hi
  obtain ⟨m, rfl⟩ := Int.eq_ofNat_of_zero_le hj
  simp only [rd, Int.toNat_natCast, List.getD_eq_getElem?_getD, List.getElem?_set]
  rw [if_neg (by omega)]
theorem rd_set_eq {l : List Int} {i v : Int} (hi : 0 ≤ i) (h : i < l.length) : rd (l.set i.toNat v) i = v := by
  rw [E.rd_set hi h hi, if_pos rfl]
/-- What becomes of a place ahead (open at depth j, or not open), and of one behind. -/
theorem mtF_spec : ∀ (t : List Int) (i : Int) (op out : List Int), 0 ≤ i → OpI i op → (out.length : Int) = i + t.length →
    (∀ p, 0 ≤ p → p < i → p ∉ op → rd (mtF t i op out) p = rd out p) ∧
    (∀ (a b : List Int) (p : Int), op = a ++ p :: b → rd (mtF t i op out) p = mtv i (pdiAt t b.length) (rd out p)) ∧
    (∀ (n : Nat), (h : n < t.length) → 20 ≤ t[n] ∧ t[n] ≤ 22 → rd (mtF t i op out) (i + n) = mtv (i + n + 1) (pdiAt (t.drop (n + 1)) 0) (-1)) := by
  intro t
  induction t with
  | nil =>
    intro i op out h0 hop ho
    refine ⟨fun _ _ _ _ => rfl, fun _ _ _ _ => rfl, fun n h => absurd h (by simp)⟩
  | cons c t ih =>
    intro i op out h0 hop ho
    simp only [List.length_cons] at ho
    have hip : i < out.length := by omega
    by_cases q1 : 20 ≤ c ∧ c ≤ 22
    · have e2 : mtF (c :: t) i op out = mtF t (i + 1) (op ++ [i]) (out.set i.toNat (-1)) := if_pos q1
      have hne : c ≠ 11 := by omega
      have ep : ∀ d, pdiAt (c :: t) d = (pdiAt t (d + 1)).map (· + 1) := fun d => by show (if _ then _ else _) = _; rw [if_neg hne, if_pos q1]
      obtain ⟨i1, i2, i3⟩ := ih (i + 1) (op ++ [i]) (out.set i.toNat (-1)) (by omega) (hop.snoc h0) (by simp; omega)
      rw [e2]
      refine ⟨fun p hp0 hp hn => ?_, fun a b p he => ?_, fun n hn hc => ?_⟩
      · rw [i1 p hp0 (by omega) (by simp; exact ⟨hn, by omega⟩), rd_set_ne' hp0 h0 (by omega)]
      · have hp := hop.2 p (by rw [he]; simp)
        rw [i2 a (b ++ [i]) p (by rw [he]; simp), rd_set_ne' hp.1 h0 (by omega), ep, List.length_append]
        show mtv (i + 1) (pdiAt t (b.length + 1)) _ = _
        cases pdiAt t (b.length + 1) with
        | none => rfl
        | some n => show i + 1 + (n : Int) = i + ((n + 1 : Nat) : Int); omega
      · cases n with
        | zero =>
          have := i2 op [] i rfl
          simp only [Int.natCast_zero, Int.add_zero, Nat.zero_add, List.drop_succ_cons, List.drop_zero]
          rw [this, rd_set_eq h0 hip]
          rfl
        | succ n =>
          have := i3 n (by simpa using hn) (by simpa using hc)
          rw [show i + ((n + 1 : Nat) : Int) = i + 1 + (n : Int) by omega, this]
          simp only [List.drop_succ_cons]
    · by_cases q2 : c = 11
      · have e2 : mtF (c :: t) i op out = mtF t (i + 1) [] (out.set i.toNat (-1)) := (if_neg q1).trans (if_pos q2)
        have ep : ∀ d, pdiAt (c :: t) d = none := fun d => by show (if _ then _ else _) = _; rw [if_pos q2]
        obtain ⟨i1, i2, i3⟩ := ih (i + 1) [] (out.set i.toNat (-1)) (by omega) ⟨List.Pairwise.nil, fun x hx => by simp at hx⟩ (by simp; omega)
        rw [e2]
        refine ⟨fun p hp0 hp hn => ?_, fun a b p he => ?_, fun n hn hc => ?_⟩
        · rw [i1 p hp0 (by omega) (by simp), rd_set_ne' hp0 h0 (by omega)]
        · have hp := hop.2 p (by rw [he]; simp)
          rw [i1 p hp.1 (by omega) (by simp), rd_set_ne' hp.1 h0 (by omega), ep]
          rfl
        · cases n with
          | zero => exact absurd hc q1
          | succ n =>
            have := i3 n (by simpa using hn) (by simpa using hc)
            rw [show i + ((n + 1 : Nat) : Int) = i + 1 + (n : Int) by omega, this]
            simp only [List.drop_succ_cons]
      · by_cases q3 : c = 23 ∧ 0 < op.length
        · have e2 : mtF (c :: t) i op out = mtF t (i + 1) (op.take ((op.length : Int) - 1).toNat) (((out.set i.toNat (-1)).set i.toNat (rd op ((op.length : Int) - 1))).set (rd op ((op.length : Int) - 1)).toNat i) :=
            (if_neg q1).trans ((if_neg q2).trans (if_pos q3))
          have ep0 : pdiAt (c :: t) 0 = some 0 := by show (if _ then _ else _) = _; rw [if_neg q2, if_neg q1, if_pos q3.1]
          have ep1 : ∀ d, pdiAt (c :: t) (d + 1) = (pdiAt t d).map (· + 1) := fun d => by show (if _ then _ else _) = _; rw [if_neg q2, if_neg q1, if_pos q3.1]
          obtain ⟨u, k, hu⟩ : ∃ u k, op = u ++ [k] := by
            rcases List.eq_nil_or_concat op with h | ⟨u, k, h⟩
            · rw [h] at q3; exact absurd q3.2 (by simp)
            · exact ⟨u, k, by simpa using h⟩
          have el : rd op ((op.length : Int) - 1) = k := by
            rw [hu]; simp only [List.length_append, List.length_singleton]
            rw [show ((u.length + 1 : Nat) : Int) - 1 = (u.length : Int) by omega]
            exact E.rd_mid u [] k
          have et : op.take ((op.length : Int) - 1).toNat = u := by
            rw [hu]; simp only [List.length_append, List.length_singleton]
            rw [show (((u.length + 1 : Nat) : Int) - 1).toNat = u.length by omega]
            simp
          have hk := hop.2 k (by rw [hu]; simp)
          have hu1 : OpI (i + 1) u := by
            have := hop.next
            rw [hu] at this
            exact ⟨(List.pairwise_append.1 this.1).1, fun x hx => this.2 x (by simp [hx])⟩
          have hku : k ∉ u := fun hk' => by
            have := hop.1
            rw [hu] at this
            have := (List.pairwise_append.1 this).2.2 k hk' k (by simp)
            omega
          rw [el, et] at e2
          obtain ⟨i1, i2, i3⟩ := ih (i + 1) u (((out.set i.toNat (-1)).set i.toNat k).set k.toNat i) (by omega) hu1 (by simp; omega)
          rw [e2]
          refine ⟨fun p hp0 hp hn => ?_, fun a b p he => ?_, fun n hn hc => ?_⟩
          · have hpk : p ≠ k := fun e => hn (by rw [hu, e]; simp)
            rw [i1 p hp0 (by omega) (fun h => hn (by rw [hu]; simp [h])), rd_set_ne' hp0 hk.1 hpk, rd_set_ne' hp0 h0 (by omega), rd_set_ne' hp0 h0 (by omega)]
          · have hp := hop.2 p (by rw [he]; simp)
            rcases List.eq_nil_or_concat b with hb | ⟨b', x, hb⟩
            · subst hb
              have hpk : p = k := by
                rw [hu] at he
                have := List.append_inj' he (by simp)
                simpa using this.2.symm
              subst hpk
              rw [i1 p hp.1 (by omega) hku, rd_set_eq hp.1 (by simp; omega)]
              show i = mtv i (pdiAt (c :: t) 0) _
              rw [ep0]
              show i = i + ((0 : Nat) : Int)
              omega
            · have hb2 : b = b' ++ [x] := by simpa using hb
              subst hb2
              have hux : u = a ++ p :: b' := by
                rw [hu] at he
                have := List.append_inj' (he.trans (by simp : a ++ p :: (b' ++ [x]) = (a ++ p :: b') ++ [x])) (by simp)
                exact this.1
              have hpk : p ≠ k := fun e => hku (by rw [hux, ← e]; simp)
              rw [i2 a b' p hux, rd_set_ne' hp.1 hk.1 hpk, rd_set_ne' hp.1 h0 (by omega), rd_set_ne' hp.1 h0 (by omega), List.length_append]
              show _ = mtv i (pdiAt (c :: t) (b'.length + 1)) _
              rw [ep1]
              cases pdiAt t b'.length with
              | none => rfl
              | some n => show i + 1 + (n : Int) = i + ((n + 1 : Nat) : Int); omega
          · cases n with
            | zero => exact absurd hc q1
            | succ n =>
              have := i3 n (by simpa using hn) (by simpa using hc)
              rw [show i + ((n + 1 : Nat) : Int) = i + 1 + (n : Int) by omega, this]
              simp only [List.drop_succ_cons]
        · have e2 : mtF (c :: t) i op out = mtF t (i + 1) op (out.set i.toNat (-1)) := (if_neg q1).trans ((if_neg q2).trans (if_neg q3))
          have ep : ∀ d, (c = 23 → False) → pdiAt (c :: t) d = (pdiAt t d).map (· + 1) := fun d h => by show (if _ then _ else _) = _; rw [if_neg q2, if_neg q1, if_neg h]
          obtain ⟨i1, i2, i3⟩ := ih (i + 1) op (out.set i.toNat (-1)) (by omega) hop.next (by simp; omega)
          rw [e2]
          refine ⟨fun p hp0 hp hn => ?_, fun a b p he => ?_, fun n hn hc => ?_⟩
          · rw [i1 p hp0 (by omega) hn, rd_set_ne' hp0 h0 (by omega)]
          · have hp := hop.2 p (by rw [he]; simp)
            have h23 : c = 23 → False := fun h => q3 ⟨h, by rw [he]; simp; omega⟩
            rw [i2 a b p he, rd_set_ne' hp.1 h0 (by omega), ep _ h23]
            cases pdiAt t b.length with
            | none => rfl
            | some n => show i + 1 + (n : Int) = i + ((n + 1 : Nat) : Int); omega
          · cases n with
            | zero => exact absurd hc q1
            | succ n =>
              have := i3 n (by simpa using hn) (by simpa using hc)
              rw [show i + ((n + 1 : Nat) : Int) = i + 1 + (n : Int) by omega, this]
              simp only [List.drop_succ_cons]
theorem mtOf_len (l : List Int) : (mtOf l).length = l.length := by unfold mtOf; rw [mtF_len]; simp
theorem mtOf_at (l : List Int) (i : Int) (h0 : 0 ≤ i) (h : i < l.length) (hc : 20 ≤ rd l i ∧ rd l i ≤ 22) : rd (mtOf l) i = mtv (i + 1) (pdiAt (l.drop (i + 1).toNat) 0) (-1) := by
  obtain ⟨n, rfl⟩ := Int.eq_ofNat_of_zero_le h0
  have hn : n < l.length := by omega
  have := (mtF_spec l 0 [] (List.replicate l.length 0) (by omega) ⟨List.Pairwise.nil, fun x hx => by simp at hx⟩ (by simp)).2.2 n hn (by rw [E.rd_get hn] at hc; exact hc)
  rw [show ((n : Int) + 1).toNat = n + 1 by omega]
  rw [Int.zero_add] at this
  exact this
theorem pdi_skip : ∀ (t : List Int) (d off e : Nat), pdiAt t d = some off → off < t.length ∧ pdiAt t (d + 1 + e) = (pdiAt (t.drop (off + 1)) e).map (· + (off + 1)) := by
  intro t
  induction t with
  | nil => intro d off e h; cases h
  | cons c t ih =>
    intro d off e h
    by_cases q2 : c = 11
    · have : pdiAt (c :: t) d = none := if_pos q2
      rw [this] at h; cases h
    · by_cases q1 : 20 ≤ c ∧ c ≤ 22
      · have ep : ∀ d, pdiAt (c :: t) d = (pdiAt t (d + 1)).map (· + 1) := fun d => by show (if _ then _ else _) = _; rw [if_neg q2, if_pos q1]
        rw [ep] at h
        obtain ⟨o', ho', rfl⟩ := Option.map_eq_some_iff.1 h
        have := ih (d + 1) o' e ho'
        rw [ep, show d + 1 + e + 1 = d + 1 + 1 + e by omega, this.2, Option.map_map]
        exact ⟨by simp; omega, rfl⟩
      · by_cases q3 : c = 23
        · have ep1 : ∀ d, pdiAt (c :: t) (d + 1) = (pdiAt t d).map (· + 1) := fun d => by show (if _ then _ else _) = _; rw [if_neg q2, if_neg q1, if_pos q3]
          have ep0 : pdiAt (c :: t) 0 = some 0 := by show (if _ then _ else _) = _; rw [if_neg q2, if_neg q1, if_pos q3]
          cases d with
          | zero =>
            rw [ep0] at h
            injection h with h
            subst h
            rw [show 0 + 1 + e = e + 1 by omega, ep1]
            exact ⟨by simp, rfl⟩
          | succ d =>
            rw [ep1] at h
            obtain ⟨o', ho', rfl⟩ := Option.map_eq_some_iff.1 h
            have := ih d o' e ho'
            rw [show d + 1 + 1 + e = (d + 1 + e) + 1 by omega, ep1, this.2, Option.map_map]
            exact ⟨by simp; omega, rfl⟩
        · have ep : ∀ d, pdiAt (c :: t) d = (pdiAt t d).map (· + 1) := fun d => by show (if _ then _ else _) = _; rw [if_neg q2, if_neg q1, if_neg q3]
          rw [ep] at h
          obtain ⟨o', ho', rfl⟩ := Option.map_eq_some_iff.1 h
          have := ih d o' e ho'
          rw [ep, this.2, Option.map_map]
          exact ⟨by simp; omega, rfl⟩
theorem dir_skip (stop : Bool) : ∀ (t : List Int) (d e : Nat), dirS stop t (d + 1 + e) = match pdiAt t d with
    | some off => dirS stop (t.drop (off + 1)) e
    | none => false := by
  intro t
  induction t with
  | nil => intro d e; rfl
  | cons c t ih =>
    intro d e
    by_cases q2 : c = 11
    · have e1 : pdiAt (c :: t) d = none := if_pos q2
      rw [e1]
      exact if_pos q2
    · by_cases q1 : 20 ≤ c ∧ c ≤ 22
      · have ep : pdiAt (c :: t) d = (pdiAt t (d + 1)).map (· + 1) := by show (if _ then _ else _) = _; rw [if_neg q2, if_pos q1]
        have ed : dirS stop (c :: t) (d + 1 + e) = dirS stop t (d + 1 + 1 + e) := by
          show (if _ then _ else _) = _
          rw [if_neg q2, if_pos q1, show d + 1 + e + 1 = d + 1 + 1 + e by omega]
        rw [ep, ed, ih]
        cases pdiAt t (d + 1) <;> rfl
      · by_cases q3 : c = 23
        · have ed1 : ∀ d', dirS stop (c :: t) (d' + 1) = dirS stop t d' := fun d' => by show (if _ then _ else _) = _; rw [if_neg q2, if_neg q1, if_pos q3]
          cases d with
          | zero =>
            have ep0 : pdiAt (c :: t) 0 = some 0 := by show (if _ then _ else _) = _; rw [if_neg q2, if_neg q1, if_pos q3]
            rw [ep0, show 0 + 1 + e = e + 1 by omega, ed1]
            rfl
          | succ d =>
            have ep1 : pdiAt (c :: t) (d + 1) = (pdiAt t d).map (· + 1) := by show (if _ then _ else _) = _; rw [if_neg q2, if_neg q1, if_pos q3]
            rw [ep1, show d + 1 + 1 + e = (d + 1 + e) + 1 by omega, ed1, ih]
            cases pdiAt t d <;> rfl
        · have ep : pdiAt (c :: t) d = (pdiAt t d).map (· + 1) := by show (if _ then _ else _) = _; rw [if_neg q2, if_neg q1, if_neg q3]
          have ed : dirS stop (c :: t) (d + 1 + e) = dirS stop t (d + 1 + e) := by
            show (if _ then _ else _) = _
            rw [if_neg q2, if_neg q1, if_neg q3, if_neg (fun q => by omega), if_neg (fun q => by omega)]
          rw [ep, ed, ih]
          cases pdiAt t d <;> rfl
/-- Where a look for a strong class ends. -/
def EndAt (stop : Bool) (l : List Int) (i te : Int) : Prop := te = if stop = true then mtv i (pdiAt (l.drop i.toNat) 0) l.length else (l.length : Int)
theorem pdiAt_lt : ∀ (t : List Int) (d off : Nat), pdiAt t d = some off → off < t.length := fun t d off h => (pdi_skip t d off 0 h).1
theorem EndAt.le {stop : Bool} {l : List Int} {i te : Int} (h : EndAt stop l i te) (h0 : 0 ≤ i) (hi : i ≤ l.length) : i ≤ te ∧ te ≤ l.length := by
  unfold EndAt at h
  cases stop with
  | false => rw [if_neg (by decide)] at h; omega
  | true =>
    rw [if_pos rfl] at h
    cases hp : pdiAt (l.drop i.toNat) 0 with
    | none => rw [hp] at h; simp only [mtv] at h; omega
    | some n =>
      rw [hp] at h
      have := pdiAt_lt _ _ _ hp
      rw [List.length_drop] at this
      simp only [mtv] at h
      omega
def StrOk (v : Int) (b : Bool) : Prop := decide (v = 2 ∨ v = 3) = b
theorem strong_ev (stop : Bool) (l : List Int) (hl : l.length ≤ 1000000) (te : Int) : ∀ (d : Nat) (i : Int), 0 ≤ i → i ≤ l.length → l.length - i.toNat ≤ d → EndAt stop l i te →
    ∃ v, StrOk v (dirS stop (l.drop i.toNat) 0) ∧ Ev (fun k => selvedgeref14_strong.l0 k l (mtOf l) te i) v := by
  intro d
  induction d with
  | zero =>
    intro i h0 hi hd he
    have hle := he.le h0 hi
    refine ⟨14, ?_, E.succ (E.neg (by omega) (E.succ ?_))⟩
    · rw [List.drop_of_length_le (by omega)]; rfl
    · exact E.ret rfl
  | succ d ih =>
    intro i h0 hi hd he
    have hle := he.le h0 hi
    have out : ¬ i < te → Ev (fun k => selvedgeref14_strong.l0 k l (mtOf l) te i) 14 := fun h => by
      refine E.succ (E.neg h (E.succ ?_))
      exact E.ret rfl
    cases hs : l.drop i.toNat with
    | nil =>
      have : l.length ≤ i.toNat := List.drop_eq_nil_iff.1 hs
      exact ⟨14, rfl, out (by omega)⟩
    | cons c t =>
      obtain ⟨hc, hlt, ht⟩ := rd_head h0 hs
      have hml := mtOf_len l
      have hw : wrap64 (i + 1) = i + 1 := E.w64 (by omega) (by omega)
      have hnx : ∀ {x : Int}, 0 ≤ x → x ≤ l.length → i < x → EndAt stop l x te → ∃ v, StrOk v (dirS stop (l.drop x.toNat) 0) ∧ Ev (fun k => selvedgeref14_strong.l0 k l (mtOf l) te x) v := fun hx0 hx1 hx2 hx3 => ih _ hx0 hx1 (by omega) hx3
      by_cases q1 : 20 ≤ c ∧ c ≤ 22
      · have hne : c ≠ 11 := by omega
        have hin : selvedgeref14_Initiator.f c = some true := by rw [initiator14, decide_eq_true q1]
        have ep : pdiAt (c :: t) 0 = (pdiAt t 1).map (· + 1) := by show (if _ then _ else _) = _; rw [if_neg hne, if_pos q1]
        have ed : dirS stop (c :: t) 0 = dirS stop t (0 + 1 + 0) := by show (if _ then _ else _) = _; rw [if_neg hne, if_pos q1]
        rw [ed, dir_skip]
        have hm := mtOf_at l i h0 hlt (by rw [hc]; exact q1)
        rw [ht] at hm
        have hto : i < te := by
          unfold EndAt at he
          rw [hs, ep] at he
          cases stop with
          | false => rw [if_neg (by decide)] at he; omega
          | true =>
            rw [if_pos rfl] at he
            cases hp : pdiAt t 1 with
            | none => rw [hp] at he; simp only [Option.map_none, mtv] at he; omega
            | some n => rw [hp] at he; simp only [Option.map_some, mtv] at he; omega
        have go : ∀ v, Ev (fun k => selvedgeref14_strong.j3 k l (mtOf l) te i (decide (rd (mtOf l) i < 0))) v → Ev (fun k => selvedgeref14_strong.l0 k l (mtOf l) te i) v := fun v hv => by
          refine E.succ (E.pos hto (E.pos h0 (E.pos hlt ?_)))
          have e1 : (rd l i != 11) = true := by rw [hc]; simpa using hne
          rw [e1]
          refine E.succ ?_
          refine E.pos h0 (E.pos hlt (E.neg (by rw [hc]; omega) (E.neg (by rw [hc]; omega) ?_)))
          have e2 : (rd l i == 3) = false := by rw [hc]; simp; omega
          rw [e2]
          refine E.succ ?_
          exact E.pos h0 (E.pos hlt (E.bno (by rw [hc]; exact hin) (E.pos rfl (E.pos (by omega) hv))))
        cases hp : pdiAt t 0 with
        | none =>
          rw [hp] at hm
          have hm : rd (mtOf l) i = -1 := hm
          refine ⟨14, rfl, go _ (E.succ (E.pos (by rw [hm]; rfl) (E.ret rfl)))⟩
        | some off =>
          rw [hp] at hm
          have hm : rd (mtOf l) i = i + 1 + (off : Int) := hm
          have hof := pdi_skip t 0 off 0 hp
          have htl : t.length = l.length - (i + 1).toNat := by rw [← ht, List.length_drop]
          have hw2 : wrap64 (i + 1 + (off : Int) + 1) = i + 1 + (off : Int) + 1 := E.w64 (by omega) (by omega)
          have hdr : l.drop (i + 1 + (off : Int) + 1).toNat = t.drop (off + 1) := by
            rw [← ht, List.drop_drop]; congr 1; omega
          obtain ⟨v, hv1, hv2⟩ := hnx (x := i + 1 + (off : Int) + 1) (by omega) (by omega) (by omega) (by
            unfold EndAt at he ⊢
            rw [hs, ep, show (1 : Nat) = 0 + 1 + 0 from rfl, hof.2] at he
            rw [hdr]
            cases stop with
            | false => exact he
            | true =>
              rw [if_pos rfl] at he ⊢
              rw [he]
              cases pdiAt (t.drop (off + 1)) 0 with
              | none => rfl
              | some n => simp only [Option.map_some, mtv]; omega)
          rw [hdr] at hv1
          refine ⟨v, hv1, go _ (E.succ (E.neg (by rw [hm]; simp only [decide_eq_true_eq]; omega) (E.pos h0 (E.pos hlt (E.bno (by rw [hc]; exact hin) (E.pos rfl (E.pos (by omega) ?_)))))))⟩
          rw [hm, hw2]
          exact hv2
      · have hin : selvedgeref14_Initiator.f c = some false := by rw [initiator14, decide_eq_false q1]
        have step : c ≠ 11 → (c = 23 → stop = false) → EndAt stop l (i + 1) te ∧ i < te := fun q2 q3 => by
          unfold EndAt at he ⊢
          rw [hs] at he
          rw [ht]
          cases stop with
          | false => rw [if_neg (by decide)] at he ⊢; exact ⟨he, by omega⟩
          | true =>
            rw [if_pos rfl] at he ⊢
            have ep : pdiAt (c :: t) 0 = (pdiAt t 0).map (· + 1) := by show (if _ then _ else _) = _; rw [if_neg q2, if_neg q1, if_neg (fun h => by cases q3 h)]
            rw [ep] at he
            cases hp : pdiAt t 0 with
            | none => rw [hp] at he; simp only [Option.map_none, mtv] at he ⊢; exact ⟨he, by omega⟩
            | some n => rw [hp] at he; simp only [Option.map_some, mtv] at he ⊢; exact ⟨by omega, by omega⟩
        by_cases q2 : c = 11
        · have ed : dirS stop (c :: t) 0 = false := if_pos q2
          rw [ed]
          refine ⟨14, rfl, ?_⟩
          by_cases hto : i < te
          · refine E.succ (E.pos hto (E.pos h0 (E.pos hlt ?_)))
            have e1 : (rd l i != 11) = false := by rw [hc, q2]; rfl
            rw [e1]
            refine E.succ ?_
            exact E.ret rfl
          · exact out hto
        · by_cases q3 : c = 23 ∧ stop = true
          · have ed : dirS stop (c :: t) 0 = false := by show (if _ then _ else _) = _; rw [if_neg q2, if_neg q1, if_pos q3.1]; exact if_pos q3.2
            have hto : ¬ i < te := by
              unfold EndAt at he
              have ep0 : pdiAt (c :: t) 0 = some 0 := by show (if _ then _ else _) = _; rw [if_neg q2, if_neg q1, if_pos q3.1]
              rw [hs, ep0, if_pos q3.2] at he
              simp only [mtv] at he
              omega
            rw [ed]
            exact ⟨14, rfl, out hto⟩
          · obtain ⟨he2, hto⟩ := step q2 (fun h => by cases stop with
              | false => rfl
              | true => exact absurd ⟨h, rfl⟩ q3)
            have go : ∀ v, Ev (fun k => selvedgeref14_strong.j2 k l (mtOf l) te i (decide (c = 1 ∨ c = 2 ∨ c = 3))) v → Ev (fun k => selvedgeref14_strong.l0 k l (mtOf l) te i) v := fun v hv => by
              refine E.succ (E.pos hto (E.pos h0 (E.pos hlt ?_)))
              have e1 : (rd l i != 11) = true := by rw [hc]; simpa using q2
              rw [e1]
              refine E.succ ?_
              refine E.pos h0 (E.pos hlt ?_)
              by_cases p1 : c = 1
              · rw [decide_eq_true (.inl p1)] at hv; exact E.pos (by rw [hc]; exact p1) hv
              · refine E.neg (by rw [hc]; exact p1) ?_
                by_cases p2 : c = 2
                · rw [decide_eq_true (.inr (.inl p2))] at hv; exact E.pos (by rw [hc]; exact p2) hv
                · refine E.neg (by rw [hc]; exact p2) ?_
                  by_cases p3 : c = 3
                  · rw [decide_eq_true (.inr (.inr p3))] at hv
                    have e2 : (rd l i == 3) = true := by rw [hc, p3]; rfl
                    rw [e2]; exact hv
                  · rw [decide_eq_false (by omega)] at hv
                    have e2 : (rd l i == 3) = false := by rw [hc]; simpa using p3
                    rw [e2]; exact hv
            by_cases q4 : c = 1 ∨ c = 2 ∨ c = 3
            · refine ⟨c, ?_, go c ?_⟩
              · unfold StrOk
                by_cases q5 : c = 1
                · have ed : dirS stop (c :: t) 0 = false := by show (if _ then _ else _) = _; rw [if_neg q2, if_neg q1, if_neg (by omega), if_pos ⟨rfl, q5⟩]
                  rw [ed]; exact decide_eq_false (by omega)
                · have ed : dirS stop (c :: t) 0 = true := by show (if _ then _ else _) = _; rw [if_neg q2, if_neg q1, if_neg (by omega), if_neg (fun q => q5 q.2), if_pos ⟨rfl, by omega⟩]
                  rw [ed]; exact decide_eq_true (by omega)
              · rw [decide_eq_true q4]
                refine E.succ ?_
                exact E.pos h0 (E.pos hlt (E.ret hc))
            · have ed : dirS stop (c :: t) 0 = dirS stop t 0 := by
                show (if _ then _ else _) = _
                rw [if_neg q2, if_neg q1]
                by_cases q6 : c = 23
                · rw [if_pos q6]; exact if_neg (fun h => q3 ⟨q6, h⟩)
                · rw [if_neg q6, if_neg (by omega), if_neg (by omega)]
              rw [ed]
              obtain ⟨v, hv1, hv2⟩ := hnx (x := i + 1) (by omega) (by omega) (by omega) he2
              rw [ht] at hv1
              refine ⟨v, hv1, go v ?_⟩
              rw [decide_eq_false q4]
              refine E.succ ?_
              refine E.pos h0 (E.pos hlt (E.bno (by rw [hc]; exact hin) (E.neg (by decide) (E.succ ?_))))
              refine E.pos h0 (E.pos hlt (E.bno (by rw [hc]; exact hin) (E.neg (by decide) ?_)))
              rw [hw]
              exact hv2
theorem right_f (v : Int) (b : Bool) (h : StrOk v b) : selvedgeref14_right.f v = some b := by
  unfold StrOk at h
  unfold selvedgeref14_right.f
  rw [← h]
  by_cases q : v = 2
  · rw [if_pos q, decide_eq_true (.inl q)]
  · rw [if_neg q]
    congr 1
    by_cases q2 : v = 3
    · rw [decide_eq_true (.inr q2)]; simpa using q2
    · rw [decide_eq_false (by omega)]; simpa using q2
theorem rbase_f (l : List Int) (hl : l.length ≤ 1000000) : Ev (fun k => selvedgeref14_Base.f k l) (if dirS false l 0 = true then 1 else 0) := by
  obtain ⟨v, h1, h2⟩ := strong_ev false l hl (l.length : Int) l.length 0 (by omega) (by omega) (by simp) rfl
  refine E.bnd (ref14_Match_ev l hl) (E.bnd h2 (E.bno (right_f v _ h1) ?_))
  show Ev (fun n => if dirS false l 0 = true then some (1 : Int) else some 0) _
  cases dirS false l 0 with
  | true => exact E.ret rfl
  | false => exact E.ret rfl
theorem behind_f (l : List Int) (hl : l.length ≤ 1000000) (i : Int) (h0 : 0 ≤ i) (hi : i < l.length) (hc : 20 ≤ rd l i ∧ rd l i ≤ 22) : ∃ k, selvedgeref14_behind.f k l (mtOf l) i = some (if dirS true (l.drop (i + 1).toNat) 0 = true then 2 else 1) := by
  apply E.out
  have hm := mtOf_at l i h0 hi hc
  have hml := mtOf_len l
  have hw : wrap64 (i + 1) = i + 1 := E.w64 (by omega) (by omega)
  have fin : ∀ te, EndAt true l (i + 1) te → Ev (fun k => selvedgeref14_behind.j0 k l (mtOf l) i te) (if dirS true (l.drop (i + 1).toNat) 0 = true then 2 else 1) := fun te he => by
    obtain ⟨v, h1, h2⟩ := strong_ev true l hl te l.length (i + 1) (by omega) (by omega) (by omega) he
    have h2' : Ev (fun k => selvedgeref14_strong.f k l (mtOf l) (wrap64 (i + 1)) te) v := by rw [hw]; exact h2
    refine E.succ ?_
    refine E.bnd h2' (E.bno (right_f v _ h1) ?_)
    show Ev (fun n => if dirS true (l.drop (i + 1).toNat) 0 = true then some (2 : Int) else some 1) _
    cases dirS true (l.drop (i + 1).toNat) 0 with
    | true => exact E.ret rfl
    | false => exact E.ret rfl
  refine E.pos h0 (E.pos (by omega) ?_)
  cases hp : pdiAt (l.drop (i + 1).toNat) 0 with
  | none =>
    rw [hp] at hm
    have hm : rd (mtOf l) i = -1 := hm
    exact E.neg (by omega) (fin _ (by unfold EndAt; rw [if_pos rfl, hp]; rfl))
  | some n =>
    rw [hp] at hm
    have hm : rd (mtOf l) i = i + 1 + (n : Int) := hm
    refine E.pos (by omega) ?_
    rw [hm]
    exact fin _ (by unfold EndAt; rw [if_pos rfl, hp]; rfl)
theorem dirI_or (b : Bool) : dirI b = 1 ∨ dirI b = 2 := by cases b <;> simp [dirI]
def LvPost (w : World) (r : List Int × List Int × Int × Int) (e : Ending) (w' : World) : Prop :=
  ∃ v0_ v1_ : Value, e = .returned (.tuple #[v0_, v1_, .int .u8 r.2.2.1, .int .i64 r.2.2.2]) ∧ Kd.R (Kd.int .u8) 5 w' w.heap.size (fun k_ => some k_ ≠ (v1_ : Value).ownBlock) v0_ r.1 ∧ Kd.R (Kd.int .u8) 34 w' w.heap.size (fun k_ => some k_ ≠ (v0_ : Value).ownBlock) v1_ r.2.1 ∧ Below w.heap.size w w'
theorem all_take {l : List Int} {i : Int} (h0 : 0 ≤ i) (hi : i < l.length) (h : l.all okC = true) : 1 ≤ rd l i ∧ rd l i ≤ 23 := by
  have := List.all_eq_true.1 h (rd l i) (E.rd_mem h0 hi)
  unfold okC at this
  exact of_decide_eq_true this
theorem results_tmp4_ {fn : Func} {t u v x : Tmp} (h : fn.results = #[.tmp t, .tmp u, .tmp v, .tmp x]) (tmps : Array Value) (P : Program) (w : World) :
    (results fn tmps).run P w = .ok (.tuple #[tmps.getD t undef, tmps.getD u undef, tmps.getD v undef, tmps.getD x undef]) w := by simp [results, h]
def RwB (w : World) (g e : Nat) (xs : List Int) : Prop := w.heap[g]? = some (.cells (nums .u8 xs).toArray e (0, 0))
theorem made_nums (n : Nat) : madeCells #[Value.int .u8 0] n = (nums .u8 (List.replicate n 0)).toArray := by
  unfold madeCells nums
  rw [List.map_replicate]
  apply Array.ext
  · simp
  · intro i h1 h2
    simp [Nat.mod_one]
theorem RwB.cell {w : World} {g e : Nat} {xs : List Int} (h : RwB w g e xs) (i : Int) (h0 : 0 ≤ i) (hi : i < xs.length) : w.cell? ⟨g, i.toNat, none⟩ = some (.int .u8 (rd xs i)) := by
  obtain ⟨n, rfl⟩ := Int.eq_ofNat_of_zero_le h0
  have hn : n < xs.length := by omega
  rw [blk_cell h, E.rd_get hn]
  simp [nums, hn]
theorem RwB.set {w : World} {g e : Nat} {xs : List Int} (h : RwB w g e xs) (i : Int) (v : Int) : RwB (w.setCell ⟨g, i.toNat, none⟩ (.int .u8 v)) g e (xs.set i.toNat v) := by
  have := blk_set h i.toNat (.int .u8 v)
  unfold RwB
  rw [this]
  congr 2
  simp [nums, List.map_set]
theorem RwB.far {w : World} {g e : Nat} {xs : List Int} (h : RwB w g e xs) {p : Addr} (hp : g ≠ p.block) (u : Value) : RwB (w.setCell p u) g e xs := blk_far h hp u
theorem RwB.grown {w w1 : World} {g e : Nat} {xs : List Int} {r : Option Nat} (h : RwB w g e xs) (hg : w.grownBy w1 r) (hne : some g ≠ r) : RwB w1 g e xs := blk_grown h hg hne
theorem RwB.toR {w : World} {g e base : Nat} {xs : List Int} {ok : Nat → Prop} (h : RwB w g e xs) (hb : base ≤ g) (hx : xs.length ≤ 1000000) (hok : ok g) : Kd.R (Kd.int .u8) e w base ok (.slice (some ⟨g, 0, none⟩) xs.length xs.length) xs := by
  refine Kd.R_of_own ⟨by simp [encs], .inr ⟨g, xs.length, _, rfl, hb, h, Nat.le_refl _, by unfold maxLen; omega, by simp [nums], ?_⟩⟩ (fun k hk => ?_)
  · simp [nums, encs, List.take_of_length_le]
  · have : g = k := by simpa [Value.ownBlock] using hk
    exact this ▸ hok
theorem info5' : (Try.prog.info? 5).map (fun i => (i.zero, i.size, i.bytes)) = some (some (.int .u8 0), 1, 1) := by kernel_rfl
theorem made_two (w : World) (n e e' : Nat) : RwB ((w.alloc (.cells (madeCells #[Value.int .u8 0] n) e)).alloc (.cells (madeCells #[Value.int .u8 0] n) e')).drew w.heap.size e (List.replicate n 0) ∧
    RwB ((w.alloc (.cells (madeCells #[Value.int .u8 0] n) e)).alloc (.cells (madeCells #[Value.int .u8 0] n) e')).drew (w.heap.size + 1) e' (List.replicate n 0) ∧
    Below w.heap.size w ((w.alloc (.cells (madeCells #[Value.int .u8 0] n) e)).alloc (.cells (madeCells #[Value.int .u8 0] n) e')).drew := by
  unfold RwB
  rw [← made_nums]
  exact ⟨heap_alloc2_old w _ _, heap_alloc2_new w _ _, below_drew1 (below_alloc (below_alloc (Below.refl _ _) _) _)⟩
theorem RwB.below {w w1 : World} {g e : Nat} {xs : List Int} (h : RwB w g e xs) (hb : Below w.heap.size w w1) : RwB w1 g e xs := (hb.block g (blk_lt h)).trans h
theorem lv_row {f : Int × Int → Int} {ys : List (Int × Int)} {n : Nat} {i v : Int} (h0 : 0 ≤ i) (hi : i < n) (hy : ys.length = i.toNat) : (ys.map f ++ List.replicate (n - i.toNat) 0).set i.toNat v = ys.map f ++ v :: List.replicate (n - (i + 1).toNat) 0 := by
  rw [show n - i.toNat = (n - (i + 1).toNat) + 1 by omega, List.replicate_succ, List.set_append_right _ _ (by simp; omega)]
  simp [hy]
theorem lv_row3 {f : Int × Int → Int} {ys : List (Int × Int)} {n : Nat} {i : Int} {o : Int × Int} : (ys ++ [o]).map f ++ List.replicate (n - (i + 1).toNat) 0 = ys.map f ++ f o :: List.replicate (n - (i + 1).toNat) 0 := by simp
theorem lv_next {l : List Int} {base i bf : Int} {a : Sk} {ys R : List (Int × Int)} (h0 : 0 ≤ i) (hi : i < l.length) (h : ys ++ runL base (l.drop i.toNat) a bf = R) :
    (ys ++ [outL bf (topA (stA base a (rd l i))) (rd l i)]) ++ runL base (l.drop (i + 1).toNat) (takeA (stA base a (rd l i)) (rd l i) (dirI (dirS true (l.drop (i + 1).toNat) 0))) (outL bf (topA (stA base a (rd l i))) (rd l i)).1 = R := by
  rw [E.rd_drop h0 hi] at h
  rw [← h, List.append_assoc]
  rfl
theorem lv_none (w : World) (n : Int) (w' : World) (h : Below w.heap.size w w') : LvPost w ([], [], 0, n) (.returned (.tuple #[.slice none 0 0, .slice none 0 0, .int .u8 0, .int .i64 n])) w' :=
  ⟨_, _, rfl, Kd.R_nil _ _ _ _ _, Kd.R_nil _ _ _ _ _, h⟩
end Go.Proofs.Ytofiflhjlohakaa.X
