import Derived.Test.YtofiflhjlohakaaA
import Derived.Maps.OwnSet
import Derived.Maps.Views
/-! A map from places to blocks (map[int]*Seq), as a plain function. -/
namespace Go.Proofs.Ytofiflhjlohakaa.X
open Go.RowKit Go.Proofs.YtofiflhjlohakaaW.PrintWords Go.Proofs.YtofiflhjlohakaaW.PrintLast Go.Proofs.YtofiflhjlohakaaW.PrintMore
open Go.Maps (Keyed int_keyed keyOf_int_mk)
set_option linter.unusedVariables false
set_option linter.unusedSimpArgs false
/-- How a pointer to a block's start reads here: as the block's number. -/
def ptrR (v : Value) : Option (DataW Unit × List MemPlace) := match v with
  | .pointer none => some (.lit (.bool false), [])
  | .pointer (some ⟨g, 0, none⟩) => some (.lit (.int .i64 g), [])
  | _ => none
def ptrD (o : Option Nat) : DataW Unit := match o with
  | none => .lit (.bool false)
  | some g => .lit (.int .i64 g)
def ptrV (o : Option Nat) : Value := match o with
  | none => .pointer none
  | some g => .pointer (some ⟨g, 0, none⟩)
theorem ptrR_V (o : Option Nat) : ptrR (ptrV o) = some (ptrD o, []) := by cases o <;> rfl
theorem ptrR_inv {v : Value} {o : Option Nat} {ps : List MemPlace} (h : ptrR v = some (ptrD o, ps)) : v = ptrV o := by
  unfold ptrR at h
  split at h
  · cases o with
    | none => rfl
    | some g => simp [ptrD] at h
  · next g =>
    cases o with
    | none => simp [ptrD] at h
    | some g' =>
      simp [ptrD] at h
      obtain ⟨h, _⟩ := h
      have : g = g' := by omega
      subst this
      rfl
  · cases h
theorem key3 : Keyed Try.prog 3 := int_keyed Try.underlying3
/-- Block b is a map of at most n entries that leads k to f k. -/
def mapIs (w : World) (b n : Nat) (f : Int → Option Nat) : Prop := ∃ D : DataW Unit, w.ownsMap Try.prog 3 ptrR b n D ∧ ∀ k : Int, (Lit.int .i64 k).wf = true → D.atKey (.int .i64 k) (ptrD none) = ptrD (f k)
theorem mapIs.mono {w : World} {b n n' : Nat} {f : Int → Option Nat} (h : mapIs w b n f) (hn : n ≤ n') : mapIs w b n' f := by
  obtain ⟨D, h1, h2⟩ := h
  exact ⟨D, h1.mono hn, h2⟩
theorem mapIs.lt {w : World} {b n : Nat} {f : Int → Option Nat} (h : mapIs w b n f) : b < w.heap.size := by
  obtain ⟨D, h1, _⟩ := h
  exact h1.lt
theorem mapIs.kept {w w' : World} {b n : Nat} {f : Int → Option Nat} {row : Option Nat} (h : mapIs w b n f) (hg : w.grownBy w' row) (hne : some b ≠ row) : mapIs w' b n f := by
  obtain ⟨D, h1, h2⟩ := h
  exact ⟨D, h1.kept hg hne, h2⟩
theorem mapIs.of_block {w w' : World} {b n : Nat} {f : Int → Option Nat} (h : mapIs w b n f) (hb : w'.heap[b]? = w.heap[b]?) : mapIs w' b n f := by
  obtain ⟨D, ⟨es, clock, h1, h3⟩, h2⟩ := h
  exact ⟨D, ⟨es, clock, hb.trans h1, h3⟩, h2⟩
theorem mapIs_made (w : World) : mapIs (w.alloc (.map #[] 0)) w.heap.size 0 (fun _ => none) := ⟨.map [], World.ownsMap_made _ _ _ _, fun k _ => rfl⟩
theorem zero60 (w : World) : (zeroValue 60).run Try.prog w = .ok (.pointer none) w := by kernel_rfl
theorem wp_look {w : World} {ops : Array Oper} {rest : List Oper} {o : Oper} {a : Act} {Q : Exit → Act → World → Prop}
    (hg : o.guard = none) (m x : Operand) (hop : o.op = Op.lookup 58 m x false) (b n : Nat) (f : Int → Option Nat)
    (hm : a.eval m = .map (some b)) (hown : mapIs w b n f) (k : Int) (hx : a.eval x = .int .i64 k) (hw : (Lit.int .i64 k).wf = true) (v' : Value) (hv' : ptrV (f k) = v')
    (hK : wpList Try.prog ops Q rest (a.put o.dst v') w) :
    wpList Try.prog ops Q (o :: rest) a w := by
  refine wpList_plain hg fun K' hK' => ?_
  obtain ⟨D, hD, hf⟩ := hown
  obtain ⟨v, ps, hrun, hv⟩ := hD.lookup key3 Try.underlying58 (zero60 w) (ptrR_V none) (keyOf_int_mk Try.underlying3 hw)
  rw [hf k hw] at hv
  obtain rfl := ptrR_inv hv
  rw [hv'] at hrun
  unfold Oper.wp
  simp [execOp, hop, hm, hx, hrun, Result.andThen]
  exact hK' _ _ hK
theorem lit_ne {k k' : Int} (h : k' ≠ k) : (Lit.int .i64 k') ≠ (Lit.int .i64 k) := fun e => h (by injection e)
theorem litKey (k : Int) : WideAt.IsKeyLit (Lit.int .i64 k) := by trivial
theorem wp_del {w : World} {ops : Array Oper} {rest : List Oper} {o : Oper} {a : Act} {Q : Exit → Act → World → Prop}
    (hg : o.guard = none) (m x : Operand) (hop : o.op = Op.call { callee := Callee.builtin Builtin.delete, args := #[m, x], argTypes := #[58, 3] }) (b n : Nat) (f : Int → Option Nat)
    (hm : a.eval m = .map (some b)) (hown : mapIs w b n f) (k : Int) (hx : a.eval x = .int .i64 k) (hw : (Lit.int .i64 k).wf = true)
    (hK : ∀ w', mapIs w' b n (upW f k none) → w.mapTurned w' b → wpList Try.prog ops Q rest (a.put o.dst (.tuple #[])) w') :
    wpList Try.prog ops Q (o :: rest) a w := by
  obtain ⟨D, hD, hf⟩ := hown
  refine wpList_delete_own w hg m x 58 3 hop _ key3 Try.underlying58 _ b n D hm hD _ _ hx (keyOf_int_mk Try.underlying3 hw) fun w' h1 h2 => hK w' ⟨_, h1, fun k' hw' => ?_⟩ h2
  unfold upW
  by_cases e : k' = k
  · subst e
    rw [if_pos rfl]
    exact Maps.atKey_del_same _
  · rw [if_neg e, Maps.atKey_del_other (lit_ne e)]
    exact hf k' hw'
theorem wp_upd {w : World} {ops : Array Oper} {rest : List Oper} {o : Oper} {a : Act} {Q : Exit → Act → World → Prop}
    (hg : o.guard = none) (m x v : Operand) (hop : o.op = Op.mapUpdate 58 m x v) (b n : Nat) (f : Int → Option Nat)
    (hm : a.eval m = .map (some b)) (hown : mapIs w b n f) (hn : n < maxLen) (k : Int) (hx : a.eval x = .int .i64 k) (hw : (Lit.int .i64 k).wf = true) (p : Option Nat) (hv : a.eval v = ptrV p)
    (hK : ∀ w', mapIs w' b (n + 1) (upW f k p) → w.mapTurned w' b → wpList Try.prog ops Q rest (a.put o.dst undef) w') :
    wpList Try.prog ops Q (o :: rest) a w := by
  obtain ⟨D, hD, hf⟩ := hown
  refine wpList_mapUpdate_in w hg m x v 58 hop _ _ key3 Try.underlying58 _ b n D hm hD hn _ _ _ hx hv (keyOf_int_mk Try.underlying3 hw) (ptrD p) [] (ptrR_V p) fun w' h1 h2 => hK w' ⟨_, h1, fun k' hw' => ?_⟩ h2
  unfold upW
  by_cases e : k' = k
  · subst e
    rw [if_pos rfl]
    exact Maps.atKey_put_same hD.isMap (litKey _) _ _
  · rw [if_neg e, Maps.atKey_put_other (lit_ne e)]
    exact hf k' hw'
end Go.Proofs.Ytofiflhjlohakaa.X
