import Derived.Test.YtaohghcmlohngaaDoorRows
import Derived.Test.YtaohghcmlohngaaDoorTie
import Derived.Test.YtaohghcmlohngaaDoorT1
import Derived.ProofKit
import Derived.LaidMore
import Derived.OpenShut
import Derived.Deep.Strs
import Derived.Stop.Joined
/-! What the row's condition gives: both tables (Tabs); the door's own heap meets it. -/
namespace Go.Proofs.YtaohghcmlohngaaDoor.X
open Go Go.ChangeShapes Go.WideShapes Go.ChangeAt Go.RowKit Go.Proofs.YtaohghcmlohngaaDoorW.PrintWords Go.Proofs.YtaohghcmlohngaaDoorW.PrintLast Go.Proofs.YtaohghcmlohngaaDoorW.PrintMore
set_option linter.unusedVariables false
set_option linter.unusedSimpArgs false
def laidL : List (String × DataW Unit) := [("selvedge/charref.names", Rows.laid_selvedge_charref_names), ("selvedge/charref.others", Rows.laid_selvedge_charref_others)]
theorem gNames : Tryd.prog.globalNamed "selvedge/charref.names" = some 0 := by kernel_rfl
theorem gOthers : Tryd.prog.globalNamed "selvedge/charref.others" = some 1 := by kernel_rfl
theorem tNames : (Tryd.prog.globals[0]?).map (·.type) = some 49 := by kernel_rfl
theorem tOthers : (Tryd.prog.globals[1]?).map (·.type) = some 68 := by kernel_rfl
set_option maxRecDepth 100000 in
theorem door_met (os : Os) (args : Array Value) : laidMetH Tryd.prog laidL ((World.doorLaid Tryd.prog 400 os).forCall (fun _ _ => 0) ⟨#[], args, []⟩).memory :=
  laidMetH_of_parts3 (fuel := 8) (laidMet_of_run' 8 (by kernel_rfl) (by kernel_rfl)) (by kernel_rfl) (by kernel_rfl)
def nmD : List (DataW Unit) := nmT.map fun n => .agg [.lit (.string n.1.data.toList), .lit (.int .i32 n.2.1), .lit (.bool n.2.2)]
def othD : List (DataW Unit) := othT.map fun n => .lit (.int .i32 n)
theorem laid_nm : Rows.laid_selvedge_charref_names = DataW.agg nmD := rfl
theorem laid_oth : Rows.laid_selvedge_charref_others = DataW.agg othD := rfl
theorem c48 : Tryd.prog.cellsOf 48 = 3 := by kernel_rfl
theorem c21 : Tryd.prog.cellsOf 21 = 1 := by kernel_rfl
theorem c9 : Tryd.prog.cellsOf 9 = 1 := by kernel_rfl
theorem c4 : Tryd.prog.cellsOf 4 = 1 := by kernel_rfl
theorem of_take {l : List Value} {i : Nat} {v : Value} (h : (l.drop i).take 1 = [v]) : l[i]? = some v := by
  have : ((l.drop i).take 1)[0]? = some v := by rw [h]; rfl
  rw [List.getElem?_take, List.getElem?_drop] at this
  simpa using this
theorem of_take3 {l : List Value} {i k : Nat} {v : Value} (hk : k < 3) (h : (((l.drop i).take 3).drop k).take 1 = [v]) : l[i + k]? = some v := by
  have := of_take h
  rw [List.getElem?_take, List.getElem?_drop, if_pos hk] at this
  exact this
theorem nm_len : nmT.length = 59 := rfl
theorem oth_len : othT.length = 32 := rfl
theorem tabs_of_laid {W : World} (h : laidMetH Tryd.prog laidL W) : Tabs W := by
  rw [MakeChecks.laidMetH_plain _ _ _ (by kernel_rfl)] at h
  obtain ⟨ps, ⟨g0, t0, cs0, f0, p0, q0, hg0, ht0, hv0, hd0, ⟨g1, t1, cs1, f1, p1, q1, hg1, ht1, hv1, hd1, _, _⟩, _⟩, _, _⟩ := h
  obtain rfl := Option.some.inj (gNames.symm.trans hg0)
  obtain rfl := Option.some.inj (gOthers.symm.trans hg1)
  obtain rfl := Option.some.inj (tNames.symm.trans ht0)
  obtain rfl := Option.some.inj (tOthers.symm.trans ht1)
  obtain ⟨xs, m, _, hx, hl, hn, hel⟩ := DataW.trod_array Tryd.underlying49 hd0
  obtain ⟨ys, m1, _, hy, hl1, hn1, hel1⟩ := DataW.trod_array Tryd.underlying68 hd1
  have hxm : xs.map (·.1) = nmD := by
    have := congrArg Prod.fst hx
    rw [laid_nm] at this
    exact (DataW.agg.inj this).symm
  have hym : ys.map (·.1) = othD := by
    have := congrArg Prod.fst hy
    rw [laid_oth] at this
    exact (DataW.agg.inj this).symm
  have h0 := World.var?_cell hg0 hv0
  have h1 := World.var?_cell hg1 hv1
  have hN : ∀ j : Nat, j < 59 → W.cell? ⟨0, j * 3, none⟩ = some (.string (nmAt j).1) ∧ W.cell? ⟨0, j * 3 + 1, none⟩ = some (.int .i32 (nmAt j).2.1) ∧ W.cell? ⟨0, j * 3 + 2, none⟩ = some (.bool (nmAt j).2.2) := by
    intro j hj
    have he := hel j hj
    have hjx : j < xs.length := by omega
    rw [List.getElem?_eq_getElem hjx] at he
    obtain ⟨y0, y1, y2, n, hxj, hlc, e0, e1, e2⟩ := Go.Deep.trod_struct3 Tryd.underlying48 he
    have hD : xs[j].1 = .agg [.lit (.string (nmAt j).1.data.toList), .lit (.int .i32 (nmAt j).2.1), .lit (.bool (nmAt j).2.2)] := by
      have hjn : j < nmT.length := hj
      have a1 : (xs.map (·.1))[j]? = some xs[j].1 := by rw [List.getElem?_map, List.getElem?_eq_getElem hjx]; rfl
      have a2 : nmD[j]? = some (.agg [.lit (.string (nmAt j).1.data.toList), .lit (.int .i32 (nmAt j).2.1), .lit (.bool (nmAt j).2.2)]) := by
        unfold nmD nmAt
        rw [List.getElem?_map, List.getElem?_eq_getElem hjn, List.getD_eq_getElem?_getD, List.getElem?_eq_getElem hjn]
        rfl
      rw [hxm, a2] at a1
      exact (Option.some.inj a1).symm
    rw [hxj] at hD
    simp only [DataW.agg.injEq, List.cons.injEq, and_true] at hD
    obtain ⟨d0, d1, d2⟩ := hD
    simp only [c48, c9, c21, c4] at e0 e1 e2
    obtain ⟨s, z0, z0', _⟩ := DataW.trod_string Tryd.underlying9 e0
    obtain ⟨k, z1, z1', _⟩ := DataW.trod_int Tryd.underlying21 e1
    obtain ⟨b, z2, z2'⟩ := DataW.trod_bool Tryd.underlying4 e2
    rw [z0'] at d0
    rw [z1'] at d1
    rw [z2'] at d2
    have es : s = (nmAt j).1 := by
      have : s.data.toList = (nmAt j).1.data.toList := by injection d0 with q; injection q
      cases s with | mk d => cases hh : (nmAt j).1 with | mk d' => rw [hh] at this; congr 1; exact Array.toList_inj.mp this
    have ek : k = (nmAt j).2.1 := by injection d1 with q; injection q
    have eb : b = (nmAt j).2.2 := by injection d2 with q; injection q
    subst es ek eb
    have r0 := of_take3 (by decide) z0
    have r1 := of_take3 (by decide) z1
    have r2 := of_take3 (by decide) z2
    refine ⟨?_, ?_, ?_⟩
    · rw [h0, ← Array.getElem?_toList]; exact r0
    · rw [h0, ← Array.getElem?_toList]; exact r1
    · rw [h0, ← Array.getElem?_toList]; exact r2
  have hO : ∀ j : Nat, j < 32 → W.cell? ⟨1, j, none⟩ = some (.int .i32 (rd othT j)) := by
    intro j hj
    have he := hel1 j hj
    have hjy : j < ys.length := by omega
    rw [List.getElem?_eq_getElem hjy, c21] at he
    obtain ⟨k, z1, z1', _⟩ := DataW.trod_int Tryd.underlying21 he
    have hjn : j < othT.length := hj
    have a1 : (ys.map (·.1))[j]? = some ys[j].1 := by rw [List.getElem?_map, List.getElem?_eq_getElem hjy]; rfl
    have a2 : othD[j]? = some (.lit (.int .i32 (rd othT j))) := by
      unfold othD
      rw [List.getElem?_map, List.getElem?_eq_getElem hjn]
      have : rd othT (j : Int) = othT[j] := by simp [rd, hjn]
      rw [this]
      rfl
    rw [hym, a2, z1'] at a1
    have ek : k = rd othT j := by injection (Option.some.inj a1).symm with q; injection q
    subst ek
    have r := of_take z1
    rw [h1, ← Array.getElem?_toList]
    rw [Nat.mul_one] at r
    exact r
  have hl2 : 2 ≤ W.heap.size := by
    rcases Nat.lt_or_ge 1 W.heap.size with q | q
    · exact q
    · have := hO 0 (by decide)
      simp [World.cell?, Array.getElem?_eq_none q] at this
  exact ⟨hl2, hO, fun j hj => (hN j hj).1, fun j hj => (hN j hj).2.1, fun j hj => (hN j hj).2.2⟩
end Go.Proofs.YtaohghcmlohngaaDoor.X
