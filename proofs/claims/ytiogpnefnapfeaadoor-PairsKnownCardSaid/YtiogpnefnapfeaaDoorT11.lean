import Derived.Test.YtiogpnefnapfeaaDoorRows
import Derived.Test.YtiogpnefnapfeaaDoorTie
import Derived.Test.YtiogpnefnapfeaaDoorT1
import Derived.ProofKit
import Derived.LaidMore
import Derived.ChangeSame
import Derived.OpenShut
import Derived.Deep.Strs
import Derived.Stop.Joined
/-! What the row's condition gives: the table (Tabs); the door's own heap meets it. -/
namespace Go.Proofs.YtiogpnefnapfeaaDoor.X
open Go Go.ChangeShapes Go.WideShapes Go.ChangeAt Go.RowKit Go.Proofs.YtiogpnefnapfeaaDoorW.PrintWords Go.Proofs.YtiogpnefnapfeaaDoorW.PrintLast Go.Proofs.YtiogpnefnapfeaaDoorW.PrintMore Go.Proofs.YtiogpnefnapfeaaDoor.Pure
set_option linter.unusedVariables false
set_option linter.unusedSimpArgs false
def laidL : List (String × DataW Unit) := [("selvedge/props.brackets", Rows.laid_selvedge_props_brackets)]
theorem gBrackets : Tryd.prog.globalNamed "selvedge/props.brackets" = some 0 := by kernel_rfl
theorem tBrackets : (Tryd.prog.globals[0]?).map (·.type) = some 68 := by kernel_rfl
set_option maxRecDepth 100000 in
theorem door_met (os : Os) (args : Array Value) : laidMetH Tryd.prog laidL ((World.doorLaid Tryd.prog 400 os).forCall (fun _ _ => 0) ⟨#[], args, []⟩).memory :=
  laidMetH_of_parts3 (fuel := 8) (laidMet_of_run' 8 (by kernel_rfl) (by kernel_rfl)) (by kernel_rfl) (by kernel_rfl)
def brD : List (DataW Unit) := BT.map fun n => .agg [.lit (.int .i32 n.1), .lit (.int .i32 n.2)]
theorem laid_br : Rows.laid_selvedge_props_brackets = DataW.agg brD := rfl
theorem c67 : Tryd.prog.cellsOf 67 = 2 := by kernel_rfl
theorem c21 : Tryd.prog.cellsOf 21 = 1 := by kernel_rfl
theorem of_take {l : List Value} {i : Nat} {v : Value} (h : (l.drop i).take 1 = [v]) : l[i]? = some v := by
  have : ((l.drop i).take 1)[0]? = some v := by rw [h]; rfl
  rw [List.getElem?_take, List.getElem?_drop] at this
  simpa using this
theorem of_take2 {l : List Value} {i k : Nat} {v : Value} (hk : k < 2) (h : (((l.drop i).take 2).drop k).take 1 = [v]) : l[i + k]? = some v := by
  have := of_take h
  rw [List.getElem?_take, List.getElem?_drop, if_pos hk] at this
  exact this
theorem bt_at (j : Nat) (hj : j < 23) : btT[j * 2]? = some (.int .i32 (btAt j).1) ∧ btT[j * 2 + 1]? = some (.int .i32 (btAt j).2) := by
  have h : j = 0 ∨ j = 1 ∨ j = 2 ∨ j = 3 ∨ j = 4 ∨ j = 5 ∨ j = 6 ∨ j = 7 ∨ j = 8 ∨ j = 9 ∨ j = 10 ∨ j = 11 ∨ j = 12 ∨ j = 13 ∨ j = 14 ∨ j = 15 ∨ j = 16 ∨ j = 17 ∨ j = 18 ∨ j = 19 ∨ j = 20 ∨ j = 21 ∨ j = 22 := by omega
  rcases h with rfl | rfl | rfl | rfl | rfl | rfl | rfl | rfl | rfl | rfl | rfl | rfl | rfl | rfl | rfl | rfl | rfl | rfl | rfl | rfl | rfl | rfl | rfl <;> exact ⟨rfl, rfl⟩
theorem tabs_of_laid {W : World} (h : laidMetH Tryd.prog laidL W) : Tabs W := by
  rw [MakeChecks.laidMetH_plain _ _ _ (by kernel_rfl)] at h
  obtain ⟨ps, ⟨g0, t0, cs0, f0, p0, q0, hg0, ht0, hv0, hd0, _, _⟩, _, _⟩ := h
  obtain rfl := Option.some.inj (gBrackets.symm.trans hg0)
  obtain rfl := Option.some.inj (tBrackets.symm.trans ht0)
  obtain ⟨xs, m, _, hx, hl, hn, hel⟩ := DataW.trod_array Tryd.underlying68 hd0
  have hxm : xs.map (·.1) = brD := by
    have := congrArg Prod.fst hx
    rw [laid_br] at this
    exact (DataW.agg.inj this).symm
  have h0 := World.var?_cell hg0 hv0
  have hN : ∀ j : Nat, j < 23 → W.cell? ⟨0, j * 2, none⟩ = some (.int .i32 (btAt j).1) ∧ W.cell? ⟨0, j * 2 + 1, none⟩ = some (.int .i32 (btAt j).2) := by
    intro j hj
    have he := hel j hj
    have hjx : j < xs.length := by omega
    rw [List.getElem?_eq_getElem hjx] at he
    obtain ⟨y0, y1, n, hxj, hlc, e0, e1⟩ := trod_struct2 Tryd.underlying67 he
    have hD : xs[j].1 = .agg [.lit (.int .i32 (btAt j).1), .lit (.int .i32 (btAt j).2)] := by
      have hjn : j < BT.length := hj
      have a1 : (xs.map (·.1))[j]? = some xs[j].1 := by rw [List.getElem?_map, List.getElem?_eq_getElem hjx]; rfl
      have a2 : brD[j]? = some (.agg [.lit (.int .i32 (btAt j).1), .lit (.int .i32 (btAt j).2)]) := by
        unfold brD btAt
        rw [List.getElem?_map, List.getElem?_eq_getElem hjn, List.getD_eq_getElem?_getD, List.getElem?_eq_getElem hjn]
        rfl
      rw [hxm, a2] at a1
      exact (Option.some.inj a1).symm
    rw [hxj] at hD
    simp only [DataW.agg.injEq, List.cons.injEq, and_true] at hD
    obtain ⟨d0, d1⟩ := hD
    simp only [c67, c21] at e0 e1
    obtain ⟨k, z0, z0', _⟩ := DataW.trod_int Tryd.underlying21 e0
    obtain ⟨k1, z1, z1', _⟩ := DataW.trod_int Tryd.underlying21 e1
    rw [z0'] at d0
    rw [z1'] at d1
    have ek : k = (btAt j).1 := by injection d0 with q; injection q
    have ek1 : k1 = (btAt j).2 := by injection d1 with q; injection q
    subst ek ek1
    have r0 := of_take2 (by decide) z0
    have r1 := of_take2 (by decide) z1
    refine ⟨?_, ?_⟩
    · rw [h0, ← Array.getElem?_toList]; exact r0
    · rw [h0, ← Array.getElem?_toList]; exact r1
  refine ⟨?_, fun j v hv => ?_⟩
  · rcases Nat.lt_or_ge 0 W.heap.size with q | q
    · exact q
    · have := (hN 0 (by decide)).1
      simp [World.cell?, Array.getElem?_eq_none q] at this
  · have hj : j < 46 := by
      have := (List.getElem?_eq_some_iff.mp hv).1
      rw [btT_len] at this
      exact this
    have hb := bt_at (j / 2) (by omega)
    have hn2 := hN (j / 2) (by omega)
    rcases Nat.mod_two_eq_zero_or_one j with z | z
    · have ej : j = j / 2 * 2 := by omega
      rw [ej] at hv ⊢
      rw [hb.1] at hv
      rw [hn2.1]
      exact hv
    · have ej : j = j / 2 * 2 + 1 := by omega
      rw [ej] at hv ⊢
      rw [hb.2] at hv
      rw [hn2.2]
      exact hv
end Go.Proofs.YtiogpnefnapfeaaDoor.X
