import Derived.Test.YtiogpnefnapfeaaDoorX0
import Derived.Test.YtiogpnefnapfeaaDoorB
import Derived.Shelf.SlicesQ.Load
/-! The table of the brackets, as it lies in the heap; what the program reads in it. -/
namespace Go.Proofs.YtiogpnefnapfeaaDoor.X
open Go.RowKit Go.Proofs.YtiogpnefnapfeaaDoorW.PrintWords Go.Proofs.YtiogpnefnapfeaaDoorW.PrintLast Go.Proofs.YtiogpnefnapfeaaDoorW.PrintMore Go.Proofs.YtiogpnefnapfeaaDoor.Pure
set_option linter.unusedVariables false
set_option linter.unusedSimpArgs false
set_option maxRecDepth 100000
def btT : List Value := BT.flatMap fun x => [.int .i32 x.1, .int .i32 x.2]
theorem btT_len : btT.length = 46 := rfl
/-- The table is there. -/
structure Tabs (w : World) : Prop where
  lt : 1 ≤ w.heap.size
  ar : ∀ (j : Nat) (v : Value), btT[j]? = some v → w.cell? ⟨0, j, none⟩ = some v
theorem Tabs.below {w w1 : World} (h : Tabs w) (hb : Below w.heap.size w w1) : Tabs w1 := by
  have hl := h.lt
  have hs := hb.size
  exact ⟨by omega, fun j v hj => (hb.cell (by show 0 < _; omega)).trans (h.ar j v hj)⟩
theorem Tabs.load {w : World} (h : Tabs w) : Sem.run Tryd.prog (loadCellsFrom ⟨0, 0, none⟩ 0 46 #[]) w = .ok btT.toArray w :=
  run_loadCellsFrom_list Tryd.prog w _ btT 46 rfl (fun j v hj => by have := h.ar j v hj; rw [← this]; congr 1; unfold Addr.add; split <;> simp_all)
def btAt (j : Nat) : Int × Int := BT.getD j (0, 0)
theorem bt_ix (j : Nat) (hj : j < 23) (w : World) : (Instr.index 68 (.agg btT.toArray) (.int .i64 (j : Int))).run Tryd.prog w = .ok (.agg #[.int .i32 (btAt j).1, .int .i32 (btAt j).2]) w := by
  have h : j = 0 ∨ j = 1 ∨ j = 2 ∨ j = 3 ∨ j = 4 ∨ j = 5 ∨ j = 6 ∨ j = 7 ∨ j = 8 ∨ j = 9 ∨ j = 10 ∨ j = 11 ∨ j = 12 ∨ j = 13 ∨ j = 14 ∨ j = 15 ∨ j = 16 ∨ j = 17 ∨ j = 18 ∨ j = 19 ∨ j = 20 ∨ j = 21 ∨ j = 22 := by omega
  have d0 : (0 : Int) ≤ (j : Int) ∧ (j : Int) < 23 := by omega
  simp [Instr.index, asIntOf, run_underlying Tryd.underlying68, Tryd.isAgg67, Tryd.sizeOf67, go_sem, d0, hj]
  clear d0 hj
  rcases h with rfl | rfl | rfl | rfl | rfl | rfl | rfl | rfl | rfl | rfl | rfl | rfl | rfl | rfl | rfl | rfl | rfl | rfl | rfl | rfl | rfl | rfl | rfl <;> rfl
theorem load_bt {w : World} (h : Tabs w) : (loadVar 68 ⟨0, 0, none⟩).run Tryd.prog w = .ok (.agg btT.toArray) w := by
  have hl := h.load
  have hl2 : (loadCells ⟨0, 0, none⟩ 46).run Tryd.prog w = .ok btT.toArray w := hl
  clear hl
  generalize btT.toArray = cs at hl2 ⊢
  simp [loadVar, Tryd.isAgg68, Tryd.sizeOf68, hl2]
theorem op_bt {w : World} (h : Tabs w) (a : Act) (d : Option Tmp) (p : String) (af) : (execOp a.eval { dst := d, op := .load 68 (.global 0), type := 68, pos := p, after := af, guard := none }).run Tryd.prog w = .ok (.value (.agg btT.toArray)) w := by
  have hl := load_bt h
  generalize btT.toArray = cs at hl ⊢
  have he : a.eval (.global 0) = .pointer (some ⟨0, 0, none⟩) := rfl
  simp [execOp, Instr.loadAt, Instr.sureAddr, he, hl, Result.andThen]
theorem drop_bt (j : Nat) (hj : j < 23) : BT.drop j = btAt j :: BT.drop (j + 1) := by
  have hl : j < BT.length := hj
  rw [List.drop_eq_getElem_cons hl]
  unfold btAt
  rw [List.getD_eq_getElem?_getD, List.getElem?_eq_getElem hl]
  rfl
end Go.Proofs.YtiogpnefnapfeaaDoor.X
