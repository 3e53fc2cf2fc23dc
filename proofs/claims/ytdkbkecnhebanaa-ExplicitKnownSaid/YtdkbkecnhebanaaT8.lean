import Derived.Test.YtdkbkecnhebanaaT4
/-! explicit.state's push, pdf, pdi, on the stack. -/
namespace Go.Proofs.Ytdkbkecnhebanaa.X
open Go.RowKit Go.Proofs.YtdkbkecnhebanaaW.PrintWords Go.Proofs.YtdkbkecnhebanaaW.PrintLast Go.Proofs.YtdkbkecnhebanaaW.PrintMore
attribute [local go_sem] max2_int min2_int max_two min_two max_three min_three max_four min_four
set_option linter.unusedVariables false
set_option linter.unusedSimpArgs false
/-- The level that comes next: odd for R (2), even for L. -/
def nxtLev (l c : Int) : Int := if c = 2 then (if l % 2 = 0 then l + 1 else l + 2) else (if l % 2 = 0 then l + 2 else l + 1)
def pushA (a : Sk) (c o : Int) (i : Bool) : Sk × Bool :=
  match a.es with
  | [] => (a, false)
  | e :: t => if nxtLev e.1 c ≤ 125 ∧ a.iso + a.emb ≤ 0 then ({ a with es := (nxtLev e.1 c, o, i) :: e :: t }, true) else (a, false)
/-- Levels rise; the lowest entry is no isolate. -/
def Chain : List Ent → Prop
  | [] => False
  | [e] => 0 ≤ e.1 ∧ e.1 ≤ 1 ∧ e.2.1 = 0 ∧ e.2.2 = false
  | e :: f :: t => f.1 < e.1 ∧ e.1 ≤ 125 ∧ (e.2.1 = 0 ∨ e.2.1 = 1 ∨ e.2.1 = 2) ∧ Chain (f :: t)
def isoN : List Ent → Int
  | [] => 0
  | e :: t => (if e.2.2 = true then 1 else 0) + isoN t
structure Wf (a : Sk) (m : Int) : Prop where
  ch : Chain a.es
  i0 : 0 ≤ a.iso
  i1 : a.iso ≤ m
  e0 : 0 ≤ a.emb
  e1 : a.emb ≤ m
  vl : a.val = isoN a.es
theorem Chain.top : ∀ {es : List Ent} (h : Chain es), ∃ e t, es = e :: t ∧ (t.length : Int) ≤ e.1 ∧ e.1 ≤ 125 ∧ 0 ≤ e.1 ∧ (e.2.1 = 0 ∨ e.2.1 = 1 ∨ e.2.1 = 2) := by
  intro es
  induction es with
  | nil => intro h; exact h.elim
  | cons e t ih =>
    intro h
    cases t with
    | nil => exact ⟨e, [], rfl, by simpa using h.1, by have := h.2.1; omega, h.1, .inl h.2.2.1⟩
    | cons f t =>
      obtain ⟨f', t', he, h1, h2, h3, h4⟩ := ih h.2.2.2
      injection he with he1 he2
      subst he1 he2
      have := h.1
      exact ⟨e, f :: t, rfl, by simp only [List.length_cons]; omega, h.2.1, by omega, h.2.2.1⟩
theorem isoN_nonneg : ∀ es : List Ent, 0 ≤ isoN es := by
  intro es
  induction es with
  | nil => exact Int.le_refl 0
  | cons e t ih => unfold isoN; split <;> omega
theorem isoN_le : ∀ es : List Ent, isoN es ≤ es.length := by
  intro es
  induction es with
  | nil => exact Int.le_refl 0
  | cons e t ih => unfold isoN; simp only [List.length_cons]; split <;> omega
theorem nxtLev_lo (l c : Int) : l < nxtLev l c := by unfold nxtLev; split <;> split <;> omega
theorem push_c (g : Nat) (a : Sk) (m : Int) (hm : m ≤ 1000000) (ha : Wf a m) (c o : Int) (hc : c = 1 ∨ c = 2) (iso : Bool) (W : World) (h : Holds W g a) :
    Calls Try.prog 37 #[.pointer (some ⟨g, 0, none⟩), .int .u8 c, .int .u8 o, .bool iso] W fun e w' => RetB (pushA a c o iso).2 e (Holds w' g (pushA a c o iso).1 ∧ W.grownBy w' (some g)) := by
  obtain ⟨C, hb, hC⟩ := h
  obtain ⟨e, t, he, h1, h2, h3, h3b⟩ := ha.ch.top
  have hC' := hC
  obtain ⟨c0, c1, c2, c3, c4, c5, c6⟩ := hC'
  have hlen : a.es.length = t.length + 1 := by rw [he]; rfl
  have y1 : C[381]? = some (.int .i64 (t.length : Int)) := by rw [c2, hlen]; congr 2; omega
  have y4 : C[t.length * 3]? = some (.int .u8 e.1) := by rw [he] at c6; exact c6.1
  have w1 : IntKind.u8.wrap (e.1 + 1) = e.1 + 1 := by rw [IntKind.wrap_u8]; omega
  have w2 : IntKind.u8.wrap (e.1 + 1 + 1) = e.1 + 1 + 1 := by rw [IntKind.wrap_u8]; omega
  have hi0 := ha.i0
  have hi1 := ha.i1
  have he0 := ha.e0
  have he1 := ha.e1
  have key : ∀ n2 : Int, nxtLev e.1 c = n2 → 
      (n2 ≤ 125 → a.iso + a.emb ≤ 0 → Calls Try.prog 37 #[.pointer (some ⟨g, 0, none⟩), .int .u8 c, .int .u8 o, .bool iso] W fun e_ w' => RetB true e_ (w'.heap[g]? = some (.cells ((((C.setIfInBounds 381 (.int .i64 ((t.length : Int) + 1))).setIfInBounds ((t.length + 1) * 3) (.int .u8 n2)).setIfInBounds ((t.length + 1) * 3 + 1) (.int .u8 o)).setIfInBounds ((t.length + 1) * 3 + 2) (.bool iso)) 47 (0, 0)) ∧ W.grownBy w' (some g))) →
      (125 < n2 → Calls Try.prog 37 #[.pointer (some ⟨g, 0, none⟩), .int .u8 c, .int .u8 o, .bool iso] W fun e_ w' => RetB false e_ (w'.heap[g]? = some (.cells C 47 (0, 0)) ∧ W.grownBy w' (some g))) →
      (n2 ≤ 125 → 0 < a.iso + a.emb → Calls Try.prog 37 #[.pointer (some ⟨g, 0, none⟩), .int .u8 c, .int .u8 o, .bool iso] W fun e_ w' => RetB false e_ (w'.heap[g]? = some (.cells C 47 (0, 0)) ∧ W.grownBy w' (some g))) →
      Calls Try.prog 37 #[.pointer (some ⟨g, 0, none⟩), .int .u8 c, .int .u8 o, .bool iso] W fun e_ w' => RetB (pushA a c o iso).2 e_ (Holds w' g (pushA a c o iso).1 ∧ W.grownBy w' (some g)) := by
    intro n2 hn hy hd ho
    by_cases q1 : n2 ≤ 125
    · by_cases q2 : a.iso + a.emb ≤ 0
      · have hp : pushA a c o iso = ({ a with es := (n2, o, iso) :: a.es }, true) := by
          unfold pushA; rw [he]; simp only [hn]; rw [if_pos ⟨q1, q2⟩]
        rw [hp]
        refine (hy q1 q2).mono ?_
        rintro e_ w' ⟨r1, r2, r3⟩
        refine ⟨r1, ⟨_, r2, ?_⟩, r3⟩
        have := hC.push (by omega) (n2, o, iso)
        rw [hlen, show ((t.length + 1 : Nat) : Int) = (t.length : Int) + 1 by omega] at this
        exact this
      · have hp : pushA a c o iso = (a, false) := by
          unfold pushA; rw [he]; simp only [hn]; rw [if_neg (fun q => q2 q.2)]
        rw [hp]
        exact (ho q1 (by omega)).mono fun e_ w' hh => ⟨hh.1, ⟨C, hh.2.1, hC⟩, hh.2.2⟩
    · have hp : pushA a c o iso = (a, false) := by
        unfold pushA; rw [he]; simp only [hn]; rw [if_neg (fun q => q1 q.1)]
      rw [hp]
      exact (hd (by omega)).mono fun e_ w' hh => ⟨hh.1, ⟨C, hh.2.1, hC⟩, hh.2.2⟩
  have z0 : a.iso + a.emb ≤ 0 → C[382]? = some (.int .i64 0) ∧ C[383]? = some (.int .i64 0) := fun q => by
    refine ⟨c3.trans ?_, c4.trans ?_⟩ <;> congr 2 <;> omega
  by_cases par : e.1 % 2 = 0
  · have b1 : Go.bits .and .u8 (e.1 + 1) 1 = 1 := and1 _ _ (by omega) (by omega) (by omega)
    rcases hc with rfl | rfl
    · exact key (e.1 + 1 + 1) (by unfold nxtLev; rw [if_neg (by decide), if_pos par]; omega)
        (fun q q2 => push_yes11 g t.length W C e.1 o (e.1 + 1) iso (by omega) c0 hb y1 (z0 q2).1 (z0 q2).2 y4 w1 b1 w2 q)
        (fun q => push_deep11 g t.length W C e.1 o (e.1 + 1) a.iso a.emb iso (by omega) c0 hb y1 c3 c4 y4 w1 b1 w2 q)
        (fun q q2 => push_over11 g t.length W C e.1 o (e.1 + 1) a.iso a.emb iso (by omega) c0 hb y1 c3 c4 y4 w1 b1 w2 q hi0 (by omega) he0 (by omega) q2)
    · exact key (e.1 + 1) (by unfold nxtLev; rw [if_pos rfl, if_pos par])
        (fun q q2 => push_yes21 g t.length W C e.1 o (e.1 + 1) iso (by omega) c0 hb y1 (z0 q2).1 (z0 q2).2 y4 w1 b1 w2 q)
        (fun q => push_deep21 g t.length W C e.1 o (e.1 + 1) a.iso a.emb iso (by omega) c0 hb y1 c3 c4 y4 w1 b1 w2 q)
        (fun q q2 => push_over21 g t.length W C e.1 o (e.1 + 1) a.iso a.emb iso (by omega) c0 hb y1 c3 c4 y4 w1 b1 w2 q hi0 (by omega) he0 (by omega) q2)
  · have b1 : Go.bits .and .u8 (e.1 + 1) 1 = 0 := and1 _ _ (by omega) (by omega) (by omega)
    rcases hc with rfl | rfl
    · exact key (e.1 + 1) (by unfold nxtLev; rw [if_neg (by decide), if_neg par])
        (fun q q2 => push_yes10 g t.length W C e.1 o (e.1 + 1) iso (by omega) c0 hb y1 (z0 q2).1 (z0 q2).2 y4 w1 b1 w2 q)
        (fun q => push_deep10 g t.length W C e.1 o (e.1 + 1) a.iso a.emb iso (by omega) c0 hb y1 c3 c4 y4 w1 b1 w2 q)
        (fun q q2 => push_over10 g t.length W C e.1 o (e.1 + 1) a.iso a.emb iso (by omega) c0 hb y1 c3 c4 y4 w1 b1 w2 q hi0 (by omega) he0 (by omega) q2)
    · exact key (e.1 + 1 + 1) (by unfold nxtLev; rw [if_pos rfl, if_neg par]; omega)
        (fun q q2 => push_yes20 g t.length W C e.1 o (e.1 + 1) iso (by omega) c0 hb y1 (z0 q2).1 (z0 q2).2 y4 w1 b1 w2 q)
        (fun q => push_deep20 g t.length W C e.1 o (e.1 + 1) a.iso a.emb iso (by omega) c0 hb y1 c3 c4 y4 w1 b1 w2 q)
        (fun q q2 => push_over20 g t.length W C e.1 o (e.1 + 1) a.iso a.emb iso (by omega) c0 hb y1 c3 c4 y4 w1 b1 w2 q hi0 (by omega) he0 (by omega) q2)
end Go.Proofs.Ytdkbkecnhebanaa.X

/-! explicit.state's pdf, pdi, on the stack. -/
namespace Go.Proofs.Ytdkbkecnhebanaa.X
open Go.RowKit Go.Proofs.YtdkbkecnhebanaaW.PrintWords Go.Proofs.YtdkbkecnhebanaaW.PrintLast Go.Proofs.YtdkbkecnhebanaaW.PrintMore
attribute [local go_sem] max2_int min2_int max_two min_two max_three min_three max_four min_four
set_option linter.unusedVariables false
set_option linter.unusedSimpArgs false
def Ret0 (e : Ending) (P : Prop) : Prop := e = .returned (.tuple #[]) ∧ P
def pdfA (a : Sk) : Sk := if 0 < a.iso then a else if 0 < a.emb then { a with emb := a.emb - 1 } else match a.es with
  | e :: f :: t => if e.2.2 = true then a else { a with es := f :: t }
  | _ => a
def popI : List Ent → List Ent
  | [] => []
  | e :: t => if e.2.2 = true then t else popI t
def pdiA (a : Sk) : Sk := if 0 < a.iso then { a with iso := a.iso - 1 } else if a.val = 0 then a else { a with emb := 0, val := a.val - 1, es := popI a.es }
set_option maxHeartbeats 1000000 in
set_option maxRecDepth 100000 in
theorem pdf_c2 (g : Nat) (a : Sk) (m : Int) (hm : m ≤ 1000000) (ha : Wf a m) (W : World) (h : Holds W g a) :
    Calls Try.prog 39 #[.pointer (some ⟨g, 0, none⟩)] W fun e w' => Ret0 e (Holds w' g (pdfA a) ∧ W.grownBy w' (some g)) := by
  obtain ⟨C, hb, hC⟩ := h
  obtain ⟨e, t, he, h1, h2, h3, h3b⟩ := ha.ch.top
  have hC' := hC
  obtain ⟨c0, c1, c2, c3, c4, c5, c6⟩ := hC'
  have hlen : a.es.length = t.length + 1 := by rw [he]; rfl
  have y1 : C[381]? = some (.int .i64 (t.length : Int)) := by rw [c2, hlen]; congr 2; omega
  have y4 : C[t.length * 3 + 2]? = some (.bool e.2.2) := by rw [he] at c6; exact c6.2.2.1
  have he1 := ha.e1
  have x1 := (blk_cell hb 381).trans y1
  have x2 := (blk_cell hb 382).trans c3
  have x3 := (blk_cell hb 383).trans c4
  have x4 := (blk_cell hb (t.length * 3 + 2)).trans y4
  have f1 := blk_frozen hb 381
  have f3 := blk_frozen hb 383
  by_cases q1 : 0 < a.iso
  · have d1 : decide (0 < a.iso) = true := decide_eq_true q1
    have e1 : pdfA a = a := if_pos q1
    rw [e1]
    have HB := Aside0.mk (And.intro hb hC)
    clear hb hC e1 q1 c0 c1 c2 c3 c4 c5 c6 y1 y4
    generalize a.iso = ai at *
    go_enter Try.func39, Try.ntmps39
    go_wp2
    go_end0
    exact ⟨rfl, ⟨C, HB.out⟩, World.grownBy.refl _ _⟩
  have d1 : decide (0 < a.iso) = false := decide_eq_false q1
  by_cases q2 : 0 < a.emb
  · have d2 : decide (0 < a.emb) = true := decide_eq_true q2
    have e1 : pdfA a = { a with emb := a.emb - 1 } := (if_neg q1).trans (if_pos q2)
    rw [e1]
    have HC := Aside0.mk (hC.emb (a.emb - 1))
    have HB := Aside0.mk hb
    have hw : -9223372036854775808 ≤ a.emb - 1 := by omega
    have hw1 : a.emb - 1 ≤ 9223372036854775807 := by omega
    clear hb hC e1 q1 q2 c0 c1 c2 c3 c4 c5 c6 y1 y4
    generalize hq : a.emb = ae at x3 HC d2 hw hw1 ⊢
    clear hq he1
    generalize a.iso = ai at x2 d1 HC ⊢
    go_enter Try.func39, Try.ntmps39
    go_wp2
    go_end0
    exact ⟨rfl, ⟨_, blk_set HB.out _ _, HC.out⟩, grown_set _ _ _⟩
  have d2 : decide (0 < a.emb) = false := decide_eq_false q2
  have d4 : decide ((0 : Int) ≤ (t.length : Int)) = true := decide_eq_true (by omega)
  have d5 : decide ((t.length : Int) < 127) = true := decide_eq_true (by omega)
  have HB := Aside0.mk hb
  cases t with
  | nil =>
    have e1 : pdfA a = a := by unfold pdfA; rw [if_neg q1, if_neg q2, he]
    rw [e1]
    have HC := Aside0.mk hC
    clear hb hC e1 q1 q2 c0 c1 c2 c3 c4 c5 c6 y1 y4 he hlen
    simp only [List.length_nil] at x1 x4
    have x1 : W.cell? ⟨g, 381, none⟩ = some (.int .i64 0) := x1
    generalize a.iso = ai at x2 d1
    generalize a.emb = ae at x3 d2 he1
    go_enter Try.func39, Try.ntmps39
    go_wp2
    repeat (go_quiet (fail); try go_wp2)
    go_end0
    exact ⟨rfl, ⟨C, HB.out, HC.out⟩, grown_at (World.grownBy.refl W _) rfl rfl rfl rfl⟩
  | cons f t =>
    have d3 : decide ((0 : Int) < ((f :: t).length : Int)) = true := decide_eq_true (by simp only [List.length_cons]; omega)
    have d5b : (f :: t).length < 127 := by omega
    have d5c : ((f :: t).length : Int) < 127 := by omega
    have d3b : decide (0 < (f :: t).length) = true := decide_eq_true (by simp only [List.length_cons]; omega)
    have hw : -9223372036854775808 ≤ ((f :: t).length : Int) - 1 := by simp only [List.length_cons]; omega
    have HC : Aside0 (RepC C { es := a.es, iso := a.iso, emb := a.emb, val := a.val } ∧ RepC (C.setIfInBounds 381 (.int .i64 (((f :: t).length : Int) - 1))) { a with es := f :: t }) := ⟨hC, hC.pop he⟩
    have e1 : pdfA a = if e.2.2 = true then ({ es := a.es, iso := a.iso, emb := a.emb, val := a.val } : Sk) else { a with es := f :: t } := by unfold pdfA; rw [if_neg q1, if_neg q2, he]
    rw [e1]
    clear hb hC e1 q1 q2 c0 c1 c2 c3 c4 c5 c6 y1 y4 he hlen h1
    generalize (f :: t).length = n at x1 x4 d3 d3b d4 d5 d5b d5c hw HC
    generalize a.iso = ai at x2 d1 HC ⊢
    generalize a.emb = ae at x3 d2 he1 HC ⊢
    generalize e.2.2 = q at x4 ⊢
    cases q with
    | true =>
      rw [if_pos rfl]
      go_enter Try.func39, Try.ntmps39
      go_wp2
      repeat (go_quiet (fail); try go_wp2)
      go_end0
      exact ⟨rfl, ⟨C, HB.out, HC.out.1⟩, grown_at (World.grownBy.refl W _) rfl rfl rfl rfl⟩
    | false =>
      rw [if_neg (by decide)]
      go_enter Try.func39, Try.ntmps39
      go_wp2
      repeat (go_quiet (fail); try go_wp2)
      go_end0
      exact ⟨rfl, ⟨_, blk_set (w := W) HB.out _ _, HC.out.2⟩, grown_at (grown_set W ⟨g, 381, none⟩ (.int .i64 ((n : Int) - 1))) rfl rfl rfl rfl⟩
end Go.Proofs.Ytdkbkecnhebanaa.X

/-! explicit.state's pdi, on the stack. -/
namespace Go.Proofs.Ytdkbkecnhebanaa.X
open Go.RowKit Go.Proofs.YtdkbkecnhebanaaW.PrintWords Go.Proofs.YtdkbkecnhebanaaW.PrintLast Go.Proofs.YtdkbkecnhebanaaW.PrintMore
attribute [local go_sem] max2_int min2_int max_two min_two max_three min_three max_four min_four
set_option linter.unusedVariables false
set_option linter.unusedSimpArgs false
def PdiR (g : Nat) (a : Sk) (W wr : World) : Prop := ∃ es : List Ent, Holds wr g { a with es := es } ∧ popI es = popI a.es ∧ 0 < isoN es ∧ W.grownBy wr (some g)
set_option maxHeartbeats 1000000 in
set_option maxRecDepth 100000 in
theorem pdi_c (g : Nat) (a : Sk) (m : Int) (hm : m ≤ 1000000) (ha : Wf a m) (W : World) (h : Holds W g a) :
    Calls Try.prog 27 #[.pointer (some ⟨g, 0, none⟩)] W fun e w' => Ret0 e (Holds w' g (pdiA a) ∧ W.grownBy w' (some g)) := by
  obtain ⟨C, hb, hC⟩ := h
  obtain ⟨e, t, he, h1, h2, h3, h3b⟩ := ha.ch.top
  have hC' := hC
  obtain ⟨c0, c1, c2, c3, c4, c5, c6⟩ := hC'
  have hi1 := ha.i1
  have x2 := (blk_cell hb 382).trans c3
  have x3 := (blk_cell hb 383).trans c4
  have x4 := (blk_cell hb 384).trans c5
  have f2 := blk_frozen hb 382
  have f3 := blk_frozen hb 383
  have f4 := blk_frozen hb 384
  by_cases q1 : 0 < a.iso
  · have d1 : decide (0 < a.iso) = true := decide_eq_true q1
    have e1 : pdiA a = { a with iso := a.iso - 1 } := if_pos q1
    rw [e1]
    have HC := Aside0.mk (hC.iso (a.iso - 1))
    have HB := Aside0.mk hb
    have hw : -9223372036854775808 ≤ a.iso - 1 := by omega
    have hw1 : a.iso - 1 ≤ 9223372036854775807 := by omega
    clear hb hC e1 q1 c0 c1 c2 c3 c4 c5 c6
    generalize hq : a.iso = ai at x2 d1 HC hw hw1 ⊢
    clear hq hi1
    go_enter Try.func27, Try.ntmps27
    go_wp2
    first | go_end0 | refine bodyPost_ret (results_none rfl _ _ _) rfl ?_
    exact ⟨rfl, ⟨_, blk_set HB.out _ _, HC.out⟩, grown_set _ _ _⟩
  have d1 : decide (0 < a.iso) = false := decide_eq_false q1
  by_cases q2 : a.val = 0
  · have d2 : (a.val == 0) = true := by rw [q2]; rfl
    have e1 : pdiA a = a := (if_neg q1).trans (if_pos q2)
    rw [e1]
    have HB := Aside0.mk (And.intro hb hC)
    clear hb hC e1 q1 q2 c0 c1 c2 c3 c4 c5 c6
    generalize a.iso = ai at x2 d1
    generalize a.val = av at x4 d2
    go_enter Try.func27, Try.ntmps27
    go_wp2
    first | go_end0 | refine bodyPost_ret (results_none rfl _ _ _) rfl ?_
    exact ⟨rfl, ⟨C, HB.out⟩, World.grownBy.refl _ _⟩
  have d2 : (a.val == 0) = false := by simpa using q2
  have e1 : pdiA a = { a with emb := 0, val := a.val - 1, es := popI a.es } := (if_neg q1).trans (if_neg q2)
  rw [e1]
  have hv := ha.vl
  have hv0 := isoN_nonneg a.es
  have hv1 := isoN_le a.es
  have hw : -9223372036854775808 ≤ a.val - 1 := by omega
  have hw1 : a.val - 1 ≤ 9223372036854775807 := by omega
  have HR : Aside0 (PdiR g { a with emb := 0, val := a.val - 1 } W ((W.setCell ⟨g, 383, none⟩ (.int .i64 0)).setCell ⟨g, 384, none⟩ (.int .i64 (a.val - 1)))) :=
    ⟨a.es, ⟨_, blk_set (blk_set hb _ _) _ _, (hC.emb 0).val (a.val - 1)⟩, rfl, by show 0 < isoN a.es; omega, grown_more (grown_set _ _ _) _ _⟩
  have z4 : (W.setCell ⟨g, 383, none⟩ (.int .i64 0)).cell? ⟨g, 384, none⟩ = some (.int .i64 a.val) := (World.cell?_setCell_other _ _ _ _ (by intro q; injection q; omega)).trans x4
  clear hb hC e1 q1 q2 c0 c1 c2 c3 c4 c5 c6 hv hv0 hv1
  generalize a.iso = ai at x2 d1 HR ⊢
  go_enter Try.func27, Try.ntmps27
  go_wp2
  clear x2 x3 x4 z4 f2 f3 f4 d1 d2 hw hw1
  go_loopw [39] (fun v39 wr => Aside0 (PdiR g { es := a.es, iso := ai, emb := 0, val := a.val - 1 } W wr)) (fun _ wr => (intOf ((wr.cell? ⟨g, 381, none⟩).getD undef)).toNat)
  case atStart => exact HR
  case round =>
    obtain ⟨es, ⟨C1, hb1, hC1⟩, hpop, hpos, hg⟩ := hrel.out
    cases es with
    | nil => exact absurd hpos (by decide)
    | cons f u =>
      have hC1' := hC1
      obtain ⟨c0, c1, c2, c3, c4, c5, c6⟩ := hC1'
      simp only [List.length_cons] at c1 c2
      have y1 : C1[381]? = some (.int .i64 (u.length : Int)) := by rw [c2]; congr 2; omega
      have x1 := (blk_cell hb1 381).trans y1
      have x4 := (blk_cell hb1 (u.length * 3 + 2)).trans c6.2.2.1
      have f1 := blk_frozen hb1 381
      have d5b : u.length < 127 := by omega
      have d5c : (u.length : Int) < 127 := by omega
      have d5 : decide ((u.length : Int) < 127) = true := decide_eq_true (by omega)
      have hw : -9223372036854775808 ≤ (u.length : Int) - 1 := by omega
      have HL := Aside0.mk (blk_cell (blk_set hb1 381 (.int .i64 ((u.length : Int) - 1))) 381)
      have HC := Aside0.mk (hC1.pop (e := f) rfl)
      have HB := Aside0.mk (And.intro hb1 (And.intro hpop (And.intro hpos (And.intro hg c0))))
      clear hb1 hpop hpos hg hC1 c0 c1 c2 c3 c4 c5 c6 y1 hrel
      generalize hq : f.2.2 = q at x4
      cases q with
      | true =>
        have HQ := Aside0.mk hq
        clear hq
        go_wp2
        repeat (go_quiet (fail); try go_wp2)
        go_end0
        have hpe : popI a.es = u := by rw [← HB.out.2.1]; unfold popI; rw [if_pos HQ.out]
        exact ⟨rfl, ⟨_, blk_set (w := wr) HB.out.1 _ _, by rw [hpe]; exact HC.out⟩, grown_at (grown_more HB.out.2.2.2.1 381 (.int .i64 ((u.length : Int) - 1))) rfl rfl rfl rfl⟩
      | false =>
        have HQ := Aside0.mk hq
        clear hq
        go_wp2
        repeat (go_quiet (fail); try go_wp2)
        go_roundw
        case rel =>
          refine ⟨u, ⟨_, blk_set (w := wr) HB.out.1 _ _, HC.out⟩, ?_, ?_, grown_at (grown_more HB.out.2.2.2.1 381 (.int .i64 ((u.length : Int) - 1))) rfl rfl rfl rfl⟩
          · rw [← HB.out.2.1]; show popI u = popI (f :: u); conv => rhs; unfold popI
            rw [if_neg (by rw [HQ.out]; decide)]
          · have := HB.out.2.2.1
            unfold isoN at this
            rw [if_neg (by rw [HQ.out]; decide)] at this
            omega
        case measure =>
          have hpos := HB.out.2.2.1
          unfold isoN at hpos
          rw [if_neg (by rw [HQ.out]; decide)] at hpos
          have := isoN_le u
          have e1 : ((wr.setCell ⟨g, 381, none⟩ (.int .i64 ((u.length : Int) - 1))).cell? ⟨g, 381, none⟩) = some (.int .i64 ((u.length : Int) - 1)) := HL.out.trans (Array.getElem?_setIfInBounds_self_of_lt (by rw [HB.out.2.2.2.2]; omega))
          rw [x1]
          show (intOf (((wr.setCell ⟨g, 381, none⟩ (.int .i64 ((u.length : Int) - 1))).cell? ⟨g, 381, none⟩).getD undef)).toNat < _
          rw [e1]
          simp [intOf]
          omega
end Go.Proofs.Ytdkbkecnhebanaa.X
