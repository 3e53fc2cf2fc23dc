import Derived.Test.YtdkbkecnhebanaaU1
import Derived.Laws.BitsLemmas
import Derived.Deep.RegionLaw
import Derived.Deep.RegionHeld3
/-! explicit.state in its block. -/
namespace Go.Proofs.Ytdkbkecnhebanaa.X
open Go.RowKit Go.Proofs.YtdkbkecnhebanaaW.PrintWords Go.Proofs.YtdkbkecnhebanaaW.PrintLast Go.Proofs.YtdkbkecnhebanaaW.PrintMore
set_option linter.unusedVariables false
set_option linter.unusedSimpArgs false
/-- An entry's three cells. -/
def ent (e : Int × Int × Bool) : List Value := [.int .u8 e.1, .int .u8 e.2.1, .bool e.2.2]
/-- explicit.state: its entries (127), top, isolates, embeddings, valid. -/
structure St where
  l : List (Int × Int × Bool)
  top : Int
  iso : Int
  emb : Int
  val : Int
/-- Its cells. -/
def St.cells (s : St) : Array Value := ((s.l.map ent).flatten ++ [Value.int .i64 s.top, Value.int .i64 s.iso, Value.int .i64 s.emb, Value.int .i64 s.val]).toArray
def st0 : St := ⟨List.replicate 127 (0, 0, false), 0, 0, 0, 0⟩
theorem zero47 : ((Try.prog.info? 47).bind fun i => i.zero) = some (.agg st0.cells) := by kernel_rfl
theorem zv47 (W : World) : (zeroValue 47).run Try.prog W = .ok (.agg st0.cells) W := by
  have h := zero47
  obtain ⟨i, hi, hz⟩ := Option.bind_eq_some_iff.mp h
  have hi2 : Try.prog.info? 47 = some Try.t47 := by kernel_rfl
  rw [hi2] at hi
  injection hi with hi
  subst hi
  simp [zeroValue, hz]
theorem st0_size : st0.cells.size = 385 := by kernel_rfl
end Go.Proofs.Ytdkbkecnhebanaa.X

/-! The cells of explicit.state: what is read, what is set. -/
namespace Go.Proofs.Ytdkbkecnhebanaa.X
open Go.RowKit Go.Proofs.YtdkbkecnhebanaaW.PrintWords Go.Proofs.YtdkbkecnhebanaaW.PrintLast Go.Proofs.YtdkbkecnhebanaaW.PrintMore
set_option linter.unusedVariables false
set_option linter.unusedSimpArgs false
def flat (l : List (Int × Int × Bool)) : List Value := (l.map ent).flatten
theorem flat_cons (e : Int × Int × Bool) (l : List (Int × Int × Bool)) : flat (e :: l) = ent e ++ flat l := rfl
theorem flat_len : ∀ l, (flat l).length = 3 * l.length := by
  intro l
  induction l with
  | nil => rfl
  | cons e l ih => rw [flat_cons, List.length_append, ih, List.length_cons]; simp [ent]; omega
theorem flat_at : ∀ (l : List (Int × Int × Bool)) (i : Nat) (h : i < l.length), (flat l)[3 * i]? = some (.int .u8 l[i].1) ∧ (flat l)[3 * i + 1]? = some (.int .u8 l[i].2.1) ∧ (flat l)[3 * i + 2]? = some (.bool l[i].2.2) := by
  intro l
  induction l with
  | nil => intro i h; cases h
  | cons e l ih =>
    intro i h
    rw [flat_cons]
    cases i with
    | zero => exact ⟨rfl, rfl, rfl⟩
    | succ i =>
      have := ih i (by simpa using h)
      have e3 : (ent e).length = 3 := rfl
      refine ⟨?_, ?_, ?_⟩
      · rw [List.getElem?_append_right (by omega), e3, show 3 * (i + 1) - 3 = 3 * i by omega]; exact this.1
      · rw [List.getElem?_append_right (by omega), e3, show 3 * (i + 1) + 1 - 3 = 3 * i + 1 by omega]; exact this.2.1
      · rw [List.getElem?_append_right (by omega), e3, show 3 * (i + 1) + 2 - 3 = 3 * i + 2 by omega]; exact this.2.2
theorem St.at_ent (s : St) (hl : s.l.length = 127) (i : Nat) (h : i < 127) : s.cells[3 * i]? = some (.int .u8 (s.l[i]'(by omega)).1) ∧ s.cells[3 * i + 1]? = some (.int .u8 (s.l[i]'(by omega)).2.1) ∧ s.cells[3 * i + 2]? = some (.bool (s.l[i]'(by omega)).2.2) := by
  have := flat_at s.l i (by omega)
  have hf := flat_len s.l
  unfold St.cells
  change (flat s.l ++ _).toArray[_]? = _ ∧ (flat s.l ++ _).toArray[_]? = _ ∧ (flat s.l ++ _).toArray[_]? = _
  rw [List.getElem?_toArray, List.getElem?_toArray, List.getElem?_toArray, List.getElem?_append_left (by omega), List.getElem?_append_left (by omega), List.getElem?_append_left (by omega)]
  exact this
theorem St.at_nums (s : St) (hl : s.l.length = 127) : s.cells[381]? = some (.int .i64 s.top) ∧ s.cells[382]? = some (.int .i64 s.iso) ∧ s.cells[383]? = some (.int .i64 s.emb) ∧ s.cells[384]? = some (.int .i64 s.val) := by
  have hf : (flat s.l).length = 381 := by rw [flat_len, hl]
  unfold St.cells
  change (flat s.l ++ _).toArray[_]? = _ ∧ (flat s.l ++ _).toArray[_]? = _ ∧ (flat s.l ++ _).toArray[_]? = _ ∧ (flat s.l ++ _).toArray[_]? = _
  rw [List.getElem?_toArray, List.getElem?_toArray, List.getElem?_toArray, List.getElem?_toArray, List.getElem?_append_right (by omega), List.getElem?_append_right (by omega), List.getElem?_append_right (by omega), List.getElem?_append_right (by omega), hf]
  exact ⟨rfl, rfl, rfl, rfl⟩
theorem St.set_nums (s : St) (hl : s.l.length = 127) (x : Int) : s.cells.setIfInBounds 381 (.int .i64 x) = ({ s with top := x } : St).cells ∧ s.cells.setIfInBounds 382 (.int .i64 x) = ({ s with iso := x } : St).cells ∧ s.cells.setIfInBounds 383 (.int .i64 x) = ({ s with emb := x } : St).cells ∧ s.cells.setIfInBounds 384 (.int .i64 x) = ({ s with val := x } : St).cells := by
  have hf : (flat s.l).length = 381 := by rw [flat_len, hl]
  unfold St.cells
  change (flat s.l ++ _).toArray.setIfInBounds _ _ = (flat s.l ++ _).toArray ∧ (flat s.l ++ _).toArray.setIfInBounds _ _ = (flat s.l ++ _).toArray ∧ (flat s.l ++ _).toArray.setIfInBounds _ _ = (flat s.l ++ _).toArray ∧ (flat s.l ++ _).toArray.setIfInBounds _ _ = (flat s.l ++ _).toArray
  rw [List.setIfInBounds_toArray, List.setIfInBounds_toArray, List.setIfInBounds_toArray, List.setIfInBounds_toArray, List.set_append_right _ _ (by omega), List.set_append_right _ _ (by omega), List.set_append_right _ _ (by omega), List.set_append_right _ _ (by omega), hf]
  exact ⟨rfl, rfl, rfl, rfl⟩
end Go.Proofs.Ytdkbkecnhebanaa.X

/-! explicit.state's methods. -/
namespace Go.Proofs.Ytdkbkecnhebanaa.X
open Go.RowKit Go.Proofs.YtdkbkecnhebanaaW.PrintWords Go.Proofs.YtdkbkecnhebanaaW.PrintLast Go.Proofs.YtdkbkecnhebanaaW.PrintMore
attribute [local go_sem] max2_int min2_int max_two min_two max_three min_three max_four min_four
set_option linter.unusedVariables false
set_option linter.unusedSimpArgs false
theorem grown_set (W : World) (p : Addr) (v : Value) : W.grownBy (W.setCell p v) (some p.block) :=
  ⟨rfl, rfl, rfl, by simp [World.setCell], fun i _ hne => Below.heap_setCell W p v i (fun e => hne (by rw [e]))⟩
theorem grown_drewN {W w' : World} {n : Nat} {r : Option Nat} (h : (W.drewN n).grownBy w' r) : W.grownBy w' r := ⟨h.1, h.2, h.3, h.4, h.5⟩
def pdfS (s : St) : St := if 0 < s.iso then s else if 0 < s.emb then { s with emb := s.emb - 1 } else if 0 < s.top ∧ (s.l.getD s.top.toNat (0, 0, false)).2.2 = false then { s with top := s.top - 1 } else s
def StP (W : World) (g : Nat) (s : St) (e : Ending) (w' : World) : Prop := e = .returned (.tuple #[]) ∧ w'.heap[g]? = some (.cells s.cells 47 (0, 0)) ∧ W.grownBy w' (some g)
set_option maxHeartbeats 1000000 in
set_option maxRecDepth 100000 in
theorem pdf_c (g : Nat) (s : St) (hl : s.l.length = 127) (W : World) (he : s.emb ≤ 9223372036854775807) (ht : s.top ≤ 126) (hb : W.heap[g]? = some (.cells s.cells 47 (0, 0))) :
    Calls Try.prog 39 #[.pointer (some ⟨g, 0, none⟩)] W (StP W g (pdfS s)) := by
  have HN := s.at_nums hl
  have hS := s.set_nums hl
  have x1 := (blk_cell hb 381).trans HN.1
  have x2 := (blk_cell hb 382).trans HN.2.1
  have x3 := (blk_cell hb 383).trans HN.2.2.1
  have f1 := blk_frozen hb 381
  have f3 := blk_frozen hb 383
  by_cases c1 : 0 < s.iso
  · have d1 : decide (0 < s.iso) = true := decide_eq_true c1
    have e1 : pdfS s = s := if_pos c1
    rw [e1]
    have HB := Aside0.mk hb
    clear hb HN hS e1 c1
    generalize s.iso = a at *
    go_enter Try.func39, Try.ntmps39
    go_wp2
    go_end0
    exact ⟨rfl, HB.out, World.grownBy.refl _ _⟩
  have d1 : decide (0 < s.iso) = false := decide_eq_false c1
  by_cases c2 : 0 < s.emb
  · have d2 : decide (0 < s.emb) = true := decide_eq_true c2
    have e1 : pdfS s = { s with emb := s.emb - 1 } := (if_neg c1).trans (if_pos c2)
    rw [e1]
    have HB := Aside0.mk hb
    have HS := Aside0.mk ((hS (s.emb - 1)).2.2.1)
    have hw : -9223372036854775808 ≤ s.emb - 1 := by omega
    clear hb HN hS e1 c1 c2
    generalize hemb : s.emb = a at *
    generalize s.iso = b at *
    go_enter Try.func39, Try.ntmps39
    go_wp2
    go_end0
    refine ⟨rfl, ?_, grown_set _ _ _⟩
    rw [← HS.out]
    exact blk_set HB.out _ _
  have d2 : decide (0 < s.emb) = false := decide_eq_false c2
  by_cases c3 : 0 < s.top
  · have d3 : decide (0 < s.top) = true := decide_eq_true c3
    have hi : s.top.toNat < 127 := by omega
    have HE := s.at_ent hl s.top.toNat hi
    have x4 : W.cell? ⟨g, s.top.toNat * 3 + 2, none⟩ = some (.bool (s.l[s.top.toNat]'(by omega)).2.2) := (blk_cell hb _).trans (by rw [Nat.mul_comm]; exact HE.2.2)
    have d4 : decide (0 ≤ s.top) = true := decide_eq_true (by omega)
    have d5 : decide (s.top < 127) = true := decide_eq_true (by omega)
    have hg : s.l.getD s.top.toNat (0, 0, false) = s.l[s.top.toNat]'(by omega) := by simp [List.getD, hl, hi]
    have HB := Aside0.mk hb
    have HS := Aside0.mk ((hS (s.top - 1)).1)
    have hw : -9223372036854775808 ≤ s.top - 1 := by omega
    have hw1 : s.top - 1 ≤ 9223372036854775807 := by omega
    have hp : pdfS s = if (s.l[s.top.toNat]'(by omega)).2.2 = false then { s with top := s.top - 1 } else s := by
      unfold pdfS
      rw [if_neg c1, if_neg c2, hg]
      simp [c3]
    rw [hp]
    generalize (s.l[s.top.toNat]'(by omega)).2.2 = q at x4 ⊢
    clear hp hg HE HN hS hb c1 c2
    cases q with
    | true =>
      go_enter Try.func39, Try.ntmps39
      go_wp2
      repeat (go_quiet (fail); try go_wp2)
      go_end0
      exact ⟨rfl, HB.out, grown_drewN (World.grownBy.refl _ _)⟩
    | false =>
      go_enter Try.func39, Try.ntmps39
      go_wp2
      repeat (go_quiet (fail); try go_wp2)
      go_end0
      refine ⟨rfl, ?_, grown_drewN (grown_set _ _ _)⟩
      rw [← HS.out]
      exact blk_set (w := W.drewN nq) HB.out _ _
  have d3 : decide (0 < s.top) = false := decide_eq_false c3
  have hp : pdfS s = s := by
    unfold pdfS
    rw [if_neg c1, if_neg c2, if_neg (fun q => c3 q.1)]
  rw [hp]
  have HB := Aside0.mk hb
  clear hp HN hS hb c1 c2 c3
  go_enter Try.func39, Try.ntmps39
  go_wp2
  repeat (go_quiet (fail); try go_wp2)
  go_end0
  exact ⟨rfl, HB.out, grown_drewN (World.grownBy.refl _ _)⟩
end Go.Proofs.Ytdkbkecnhebanaa.X

/-! explicit.state as a stack; its push. -/
namespace Go.Proofs.Ytdkbkecnhebanaa.X
open Go.RowKit Go.Proofs.YtdkbkecnhebanaaW.PrintWords Go.Proofs.YtdkbkecnhebanaaW.PrintLast Go.Proofs.YtdkbkecnhebanaaW.PrintMore
attribute [local go_sem] max2_int min2_int max_two min_two max_three min_three max_four min_four
set_option linter.unusedVariables false
set_option linter.unusedSimpArgs false
abbrev Ent := Int × Int × Bool
structure Sk where
  es : List Ent
  iso : Int
  emb : Int
  val : Int
def RepE (C : Array Value) : List Ent → Prop
  | [] => True
  | e :: t => C[t.length * 3]? = some (.int .u8 e.1) ∧ C[t.length * 3 + 1]? = some (.int .u8 e.2.1) ∧ C[t.length * 3 + 2]? = some (.bool e.2.2) ∧ RepE C t
def RepC (C : Array Value) (a : Sk) : Prop :=
  C.size = 385 ∧ a.es.length ≤ 127 ∧ C[381]? = some (.int .i64 ((a.es.length : Int) - 1)) ∧ C[382]? = some (.int .i64 a.iso) ∧ C[383]? = some (.int .i64 a.emb) ∧ C[384]? = some (.int .i64 a.val) ∧ RepE C a.es
theorem RepE.set {C : Array Value} : ∀ {t : List Ent} (h : RepE C t) (i : Nat) (v : Value) (hi : t.length * 3 ≤ i), RepE (C.setIfInBounds i v) t := by
  intro t
  induction t with
  | nil => intro _ _ _ _; trivial
  | cons e t ih =>
    intro h i v hi
    simp only [List.length_cons] at hi
    obtain ⟨h1, h2, h3, h4⟩ := h
    refine ⟨?_, ?_, ?_, ih h4 i v (by omega)⟩ <;> rw [Array.getElem?_setIfInBounds_ne (by omega)] <;> assumption
def Holds (w : World) (g : Nat) (a : Sk) : Prop := ∃ C, w.heap[g]? = some (.cells C 47 (0, 0)) ∧ RepC C a
theorem RepC.iso {C : Array Value} {a : Sk} (h : RepC C a) (x : Int) : RepC (C.setIfInBounds 382 (.int .i64 x)) { a with iso := x } := by
  obtain ⟨h0, h1, h2, h3, h4, h5, h6⟩ := h
  have hl := h1
  refine ⟨by simpa using h0, h1, ?_, ?_, ?_, ?_, h6.set _ _ (by show a.es.length * 3 ≤ 382; omega)⟩
  · rw [Array.getElem?_setIfInBounds_ne (by omega)]; exact h2
  · rw [Array.getElem?_setIfInBounds_self_of_lt (by omega)]
  · rw [Array.getElem?_setIfInBounds_ne (by omega)]; exact h4
  · rw [Array.getElem?_setIfInBounds_ne (by omega)]; exact h5
theorem RepC.emb {C : Array Value} {a : Sk} (h : RepC C a) (x : Int) : RepC (C.setIfInBounds 383 (.int .i64 x)) { a with emb := x } := by
  obtain ⟨h0, h1, h2, h3, h4, h5, h6⟩ := h
  have hl := h1
  refine ⟨by simpa using h0, h1, ?_, ?_, ?_, ?_, h6.set _ _ (by show a.es.length * 3 ≤ 383; omega)⟩
  · rw [Array.getElem?_setIfInBounds_ne (by omega)]; exact h2
  · rw [Array.getElem?_setIfInBounds_ne (by omega)]; exact h3
  · rw [Array.getElem?_setIfInBounds_self_of_lt (by omega)]
  · rw [Array.getElem?_setIfInBounds_ne (by omega)]; exact h5
theorem RepC.val {C : Array Value} {a : Sk} (h : RepC C a) (x : Int) : RepC (C.setIfInBounds 384 (.int .i64 x)) { a with val := x } := by
  obtain ⟨h0, h1, h2, h3, h4, h5, h6⟩ := h
  have hl := h1
  refine ⟨by simpa using h0, h1, ?_, ?_, ?_, ?_, h6.set _ _ (by show a.es.length * 3 ≤ 384; omega)⟩
  · rw [Array.getElem?_setIfInBounds_ne (by omega)]; exact h2
  · rw [Array.getElem?_setIfInBounds_ne (by omega)]; exact h3
  · rw [Array.getElem?_setIfInBounds_ne (by omega)]; exact h4
  · rw [Array.getElem?_setIfInBounds_self_of_lt (by omega)]
theorem RepC.pop {C : Array Value} {a : Sk} {e : Ent} {t : List Ent} (h : RepC C a) (he : a.es = e :: t) : RepC (C.setIfInBounds 381 (.int .i64 ((t.length : Int) - 1))) { a with es := t } := by
  obtain ⟨h0, h1, h2, h3, h4, h5, h6⟩ := h
  rw [he] at h6 h1
  simp only [List.length_cons] at h1
  have hl : t.length ≤ 126 := by omega
  refine ⟨by simpa using h0, by show t.length ≤ 127; omega, ?_, ?_, ?_, ?_, h6.2.2.2.set _ _ (by omega)⟩
  · rw [Array.getElem?_setIfInBounds_self_of_lt (by omega)]
  · rw [Array.getElem?_setIfInBounds_ne (by omega)]; exact h3
  · rw [Array.getElem?_setIfInBounds_ne (by omega)]; exact h4
  · rw [Array.getElem?_setIfInBounds_ne (by omega)]; exact h5
theorem RepC.push {C : Array Value} {a : Sk} (h : RepC C a) (hl : a.es.length ≤ 126) (e : Ent) :
    RepC ((((C.setIfInBounds 381 (.int .i64 a.es.length)).setIfInBounds (a.es.length * 3) (.int .u8 e.1)).setIfInBounds (a.es.length * 3 + 1) (.int .u8 e.2.1)).setIfInBounds (a.es.length * 3 + 2) (.bool e.2.2)) { a with es := e :: a.es } := by
  obtain ⟨h0, h1, h2, h3, h4, h5, h6⟩ := h
  refine ⟨by simpa using h0, by simp only [List.length_cons]; omega, ?_, ?_, ?_, ?_, ?_, ?_, ?_, (((h6.set _ _ (by omega)).set _ _ (by omega)).set _ _ (by omega)).set _ _ (by omega)⟩
  · rw [Array.getElem?_setIfInBounds_ne (by omega), Array.getElem?_setIfInBounds_ne (by omega), Array.getElem?_setIfInBounds_ne (by omega), Array.getElem?_setIfInBounds_self_of_lt (by omega)]
    simp only [List.length_cons]
    congr 2
    omega
  · rw [Array.getElem?_setIfInBounds_ne (by omega), Array.getElem?_setIfInBounds_ne (by omega), Array.getElem?_setIfInBounds_ne (by omega), Array.getElem?_setIfInBounds_ne (by omega)]; exact h3
  · rw [Array.getElem?_setIfInBounds_ne (by omega), Array.getElem?_setIfInBounds_ne (by omega), Array.getElem?_setIfInBounds_ne (by omega), Array.getElem?_setIfInBounds_ne (by omega)]; exact h4
  · rw [Array.getElem?_setIfInBounds_ne (by omega), Array.getElem?_setIfInBounds_ne (by omega), Array.getElem?_setIfInBounds_ne (by omega), Array.getElem?_setIfInBounds_ne (by omega)]; exact h5
  · rw [Array.getElem?_setIfInBounds_ne (by omega), Array.getElem?_setIfInBounds_ne (by omega), Array.getElem?_setIfInBounds_self_of_lt (by simp; omega)]
  · rw [Array.getElem?_setIfInBounds_ne (by omega), Array.getElem?_setIfInBounds_self_of_lt (by simp; omega)]
  · rw [Array.getElem?_setIfInBounds_self_of_lt (by simp; omega)]
theorem and1 (n b : Int) (h0 : 0 ≤ n) (h1 : n ≤ 255) (hb : n % 2 = b) : Go.bits .and .u8 n 1 = b := by
  have h : ∀ k : Fin 256, Go.bits .and .u8 (k.val : Int) 1 = (k.val : Int) % 2 := by decide +kernel
  have := h ⟨n.toNat, by omega⟩
  simp only [Int.toNat_of_nonneg h0] at this
  rw [this, hb]
end Go.Proofs.Ytdkbkecnhebanaa.X
