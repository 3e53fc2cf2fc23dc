import Derived.Test.YtdkbkecnhebanaaT3
import Derived.IntWalk
/-! explicit.state's push. -/
namespace Go.Proofs.Ytdkbkecnhebanaa.X
open Go.RowKit Go.Proofs.YtdkbkecnhebanaaW.PrintWords Go.Proofs.YtdkbkecnhebanaaW.PrintLast Go.Proofs.YtdkbkecnhebanaaW.PrintMore
attribute [local go_sem] max2_int min2_int max_two min_two max_three min_three max_four min_four
set_option linter.unusedVariables false
set_option linter.unusedSimpArgs false
def RetB (b : Bool) (e : Ending) (P : Prop) : Prop := e = .returned (.bool b) ∧ P
theorem grown_more {W w' : World} {g : Nat} (h : W.grownBy w' (some g)) (o : Nat) (v : Value) : W.grownBy (w'.setCell ⟨g, o, none⟩ v) (some g) :=
  ⟨h.1, h.2, h.3, by simpa [World.setCell] using h.4, fun i hi hne => (Below.heap_setCell w' ⟨g, o, none⟩ v i (fun e => hne (by rw [e]))).trans (h.5 i hi hne)⟩
theorem grown_set4 (W : World) (g a b c d : Nat) (x y z u : Value) : W.grownBy ((((W.setCell ⟨g, a, none⟩ x).setCell ⟨g, b, none⟩ y).setCell ⟨g, c, none⟩ z).setCell ⟨g, d, none⟩ u) (some g) :=
  grown_more (grown_more (grown_more (grown_set W _ _) _ _) _ _) _ _
theorem grown_at {W w1 w2 : World} {r : Option Nat} (h : W.grownBy w1 r) (h1 : w2.heap = w1.heap) (h2 : w2.os = w1.os) (h3 : w2.tape = w1.tape) (h4 : w2.output = w1.output) : W.grownBy w2 r :=
  ⟨h2.trans h.1, h3.trans h.2, h4.trans h.3, by rw [h1]; exact h.4, fun i hi hne => by rw [h1]; exact h.5 i hi hne⟩
theorem far3 (W : World) (g n : Nat) (v : Value) (hn : n ≤ 125) (h : (W.setCell ⟨g, 381, none⟩ v).cell? ⟨g, 381, none⟩ = some v) (a b c : Value) :
    ((((W.setCell ⟨g, 381, none⟩ v).setCell ⟨g, (n + 1) * 3, none⟩ a).setCell ⟨g, (n + 1) * 3 + 1, none⟩ b).setCell ⟨g, (n + 1) * 3 + 2, none⟩ c).cell? ⟨g, 381, none⟩ = some v := by
  have ne : ∀ k, k ≠ 381 → (⟨g, k, none⟩ : Addr) ≠ ⟨g, 381, none⟩ := fun k hk e => hk (by injection e)
  rw [World.cell?_setCell_other _ _ _ _ (ne _ (by omega)), World.cell?_setCell_other _ _ _ _ (ne _ (by omega)), World.cell?_setCell_other _ _ _ _ (ne _ (by omega)), h]
set_option maxHeartbeats 2000000 in
set_option maxRecDepth 100000 in
theorem push_yes21 (g n : Nat) (W : World) (C : Array Value) (lev o n1 : Int) (iso : Bool) (hn : n ≤ 125) (hs : C.size = 385) (hb : W.heap[g]? = some (.cells C 47 (0, 0)))
    (y1 : C[381]? = some (.int .i64 n)) (y2 : C[382]? = some (.int .i64 0)) (y3 : C[383]? = some (.int .i64 0)) (y4 : C[n * 3]? = some (.int .u8 lev)) (h1w : IntKind.u8.wrap (lev + 1) = n1) (h2 : Go.bits .and .u8 n1 1 = 1)
    (h2w : IntKind.u8.wrap (n1 + 1) = n1 + 1) (h4 : n1 ≤ 125) :
    Calls Try.prog 37 #[.pointer (some ⟨g, 0, none⟩), .int .u8 2, .int .u8 o, .bool iso] W fun e w' => RetB true e (w'.heap[g]? = some (.cells ((((C.setIfInBounds 381 (.int .i64 ((n : Int) + 1))).setIfInBounds ((n + 1) * 3) (.int .u8 n1)).setIfInBounds ((n + 1) * 3 + 1) (.int .u8 o)).setIfInBounds ((n + 1) * 3 + 2) (.bool iso)) 47 (0, 0)) ∧ W.grownBy w' (some g)) := by
  have x1 := (blk_cell hb 381).trans y1
  have x2 := (blk_cell hb 382).trans y2
  have x3 := (blk_cell hb 383).trans y3
  have x4 := (blk_cell hb (n * 3)).trans y4
  have f1 := blk_frozen hb 381
  have d4 : decide ((0 : Int) ≤ (n : Int)) = true := decide_eq_true (by omega)
  have d5 : decide ((n : Int) < 127) = true := decide_eq_true (by omega)
  have d6 : decide (125 < n1) = false := decide_eq_false (by omega)
  obtain ⟨u5, z5⟩ : ∃ u, C[(n + 1) * 3]? = some u := ⟨_, Array.getElem?_eq_getElem (by omega)⟩
  obtain ⟨u6, z6⟩ : ∃ u, C[(n + 1) * 3 + 1]? = some u := ⟨_, Array.getElem?_eq_getElem (by omega)⟩
  obtain ⟨u7, z7⟩ : ∃ u, C[(n + 1) * 3 + 2]? = some u := ⟨_, Array.getElem?_eq_getElem (by omega)⟩
  have x5 := (blk_cell hb _).trans z5
  have x6 := (blk_cell hb _).trans z6
  have x7 := (blk_cell hb _).trans z7
  have f5 := blk_frozen hb ((n + 1) * 3)
  have f6 := blk_frozen hb ((n + 1) * 3 + 1)
  have f7 := blk_frozen hb ((n + 1) * 3 + 2)
  have p8 : (0 : Int) ≤ (n : Int) + 1 := by omega
  have p9 : (n : Int) + 1 < 127 := by omega
  have hne5 : (n + 1) * 3 ≠ 381 := by omega
  have HT := Aside0.mk ((blk_cell (blk_set hb 381 (.int .i64 ((n : Int) + 1))) 381).trans (Array.getElem?_setIfInBounds_self_of_lt (by omega)))
  have HT2 := Aside0.mk (far3 W g n (.int .i64 ((n : Int) + 1)) hn HT.out)
  have HB := Aside0.mk hb
  clear hb y1 y2 y3 y4 h4 z5 z6 z7
  go_enter Try.func37, Try.ntmps37
  go_wp2
  repeat (go_quiet (fail); try go_wp2)
  go_region_held3 (fun w' => w'.cell? ⟨g, 381, none⟩ = some (.int .i64 (n + 1))) (first | exact HT.out | exact HT2.out _ _ _) (fail)
  go_wp2
  go_ret
  refine ⟨rfl, ?_, ?_⟩
  · exact blk_set (blk_set (blk_set (blk_set (w := W) HB.out _ _) _ _) _ _) _ _
  · exact grown_at (grown_set4 W g 381 ((n + 1) * 3) ((n + 1) * 3 + 1) ((n + 1) * 3 + 2) (.int .i64 ((n : Int) + 1)) (.int .u8 n1) (.int .u8 o) (.bool iso)) rfl rfl rfl rfl
set_option maxHeartbeats 2000000 in
set_option maxRecDepth 100000 in
theorem push_deep21 (g n : Nat) (W : World) (C : Array Value) (lev o n1 ai ae : Int) (iso : Bool) (hn : n ≤ 125) (hs : C.size = 385) (hb : W.heap[g]? = some (.cells C 47 (0, 0)))
    (y1 : C[381]? = some (.int .i64 n)) (y2 : C[382]? = some (.int .i64 ai)) (y3 : C[383]? = some (.int .i64 ae)) (y4 : C[n * 3]? = some (.int .u8 lev)) (h1w : IntKind.u8.wrap (lev + 1) = n1) (h2 : Go.bits .and .u8 n1 1 = 1)
    (h2w : IntKind.u8.wrap (n1 + 1) = n1 + 1) (h4 : 125 < n1) :
    Calls Try.prog 37 #[.pointer (some ⟨g, 0, none⟩), .int .u8 2, .int .u8 o, .bool iso] W fun e w' => RetB false e (w'.heap[g]? = some (.cells C 47 (0, 0)) ∧ W.grownBy w' (some g)) := by
  have x1 := (blk_cell hb 381).trans y1
  have x2 := (blk_cell hb 382).trans y2
  have x3 := (blk_cell hb 383).trans y3
  have x4 := (blk_cell hb (n * 3)).trans y4
  have f1 := blk_frozen hb 381
  have d4 : decide ((0 : Int) ≤ (n : Int)) = true := decide_eq_true (by omega)
  have d5 : decide ((n : Int) < 127) = true := decide_eq_true (by omega)
  have d6 : decide (125 < n1) = true := decide_eq_true (by omega)
  have HB := Aside0.mk hb
  clear hb y1 y2 y3 y4 h4
  go_enter Try.func37, Try.ntmps37
  go_wp2
  repeat (go_quiet (fail); try go_wp2)
  go_ret
  exact ⟨rfl, HB.out, grown_at (World.grownBy.refl W _) rfl rfl rfl rfl⟩
set_option maxHeartbeats 2000000 in
set_option maxRecDepth 100000 in
theorem push_over21 (g n : Nat) (W : World) (C : Array Value) (lev o n1 ai ae : Int) (iso : Bool) (hn : n ≤ 125) (hs : C.size = 385) (hb : W.heap[g]? = some (.cells C 47 (0, 0)))
    (y1 : C[381]? = some (.int .i64 n)) (y2 : C[382]? = some (.int .i64 ai)) (y3 : C[383]? = some (.int .i64 ae)) (y4 : C[n * 3]? = some (.int .u8 lev)) (h1w : IntKind.u8.wrap (lev + 1) = n1) (h2 : Go.bits .and .u8 n1 1 = 1)
    (h2w : IntKind.u8.wrap (n1 + 1) = n1 + 1) (h4 : n1 ≤ 125) (hi : 0 ≤ ai) (hi1 : ai ≤ 1000000) (he : 0 ≤ ae) (he1 : ae ≤ 1000000) (hie : 0 < ai + ae) :
    Calls Try.prog 37 #[.pointer (some ⟨g, 0, none⟩), .int .u8 2, .int .u8 o, .bool iso] W fun e w' => RetB false e (w'.heap[g]? = some (.cells C 47 (0, 0)) ∧ W.grownBy w' (some g)) := by
  have x1 := (blk_cell hb 381).trans y1
  have x2 := (blk_cell hb 382).trans y2
  have x3 := (blk_cell hb 383).trans y3
  have x4 := (blk_cell hb (n * 3)).trans y4
  have f1 := blk_frozen hb 381
  have d4 : decide ((0 : Int) ≤ (n : Int)) = true := decide_eq_true (by omega)
  have d5 : decide ((n : Int) < 127) = true := decide_eq_true (by omega)
  have d6 : decide (125 < n1) = false := decide_eq_false (by omega)
  have d7 : decide (0 < ai + ae) = true := decide_eq_true (by omega)
  have w7 : IntKind.i64.wrap (ai + ae) = ai + ae := Go.IntWalk.i64_in _ (by omega)
  clear hie
  have HB := Aside0.mk hb
  clear hb y1 y2 y3 y4 h4
  go_enter Try.func37, Try.ntmps37
  go_wp2
  repeat (go_quiet (fail); try go_wp2)
  go_ret
  exact ⟨rfl, HB.out, grown_at (World.grownBy.refl W _) rfl rfl rfl rfl⟩
set_option maxHeartbeats 2000000 in
set_option maxRecDepth 100000 in
theorem push_yes20 (g n : Nat) (W : World) (C : Array Value) (lev o n1 : Int) (iso : Bool) (hn : n ≤ 125) (hs : C.size = 385) (hb : W.heap[g]? = some (.cells C 47 (0, 0)))
    (y1 : C[381]? = some (.int .i64 n)) (y2 : C[382]? = some (.int .i64 0)) (y3 : C[383]? = some (.int .i64 0)) (y4 : C[n * 3]? = some (.int .u8 lev)) (h1w : IntKind.u8.wrap (lev + 1) = n1) (h2 : Go.bits .and .u8 n1 1 = 0)
    (h2w : IntKind.u8.wrap (n1 + 1) = n1 + 1) (h4 : (n1 + 1) ≤ 125) :
    Calls Try.prog 37 #[.pointer (some ⟨g, 0, none⟩), .int .u8 2, .int .u8 o, .bool iso] W fun e w' => RetB true e (w'.heap[g]? = some (.cells ((((C.setIfInBounds 381 (.int .i64 ((n : Int) + 1))).setIfInBounds ((n + 1) * 3) (.int .u8 (n1 + 1))).setIfInBounds ((n + 1) * 3 + 1) (.int .u8 o)).setIfInBounds ((n + 1) * 3 + 2) (.bool iso)) 47 (0, 0)) ∧ W.grownBy w' (some g)) := by
  have x1 := (blk_cell hb 381).trans y1
  have x2 := (blk_cell hb 382).trans y2
  have x3 := (blk_cell hb 383).trans y3
  have x4 := (blk_cell hb (n * 3)).trans y4
  have f1 := blk_frozen hb 381
  have d4 : decide ((0 : Int) ≤ (n : Int)) = true := decide_eq_true (by omega)
  have d5 : decide ((n : Int) < 127) = true := decide_eq_true (by omega)
  have d6 : decide (125 < (n1 + 1)) = false := decide_eq_false (by omega)
  obtain ⟨u5, z5⟩ : ∃ u, C[(n + 1) * 3]? = some u := ⟨_, Array.getElem?_eq_getElem (by omega)⟩
  obtain ⟨u6, z6⟩ : ∃ u, C[(n + 1) * 3 + 1]? = some u := ⟨_, Array.getElem?_eq_getElem (by omega)⟩
  obtain ⟨u7, z7⟩ : ∃ u, C[(n + 1) * 3 + 2]? = some u := ⟨_, Array.getElem?_eq_getElem (by omega)⟩
  have x5 := (blk_cell hb _).trans z5
  have x6 := (blk_cell hb _).trans z6
  have x7 := (blk_cell hb _).trans z7
  have f5 := blk_frozen hb ((n + 1) * 3)
  have f6 := blk_frozen hb ((n + 1) * 3 + 1)
  have f7 := blk_frozen hb ((n + 1) * 3 + 2)
  have p8 : (0 : Int) ≤ (n : Int) + 1 := by omega
  have p9 : (n : Int) + 1 < 127 := by omega
  have hne5 : (n + 1) * 3 ≠ 381 := by omega
  have HT := Aside0.mk ((blk_cell (blk_set hb 381 (.int .i64 ((n : Int) + 1))) 381).trans (Array.getElem?_setIfInBounds_self_of_lt (by omega)))
  have HT2 := Aside0.mk (far3 W g n (.int .i64 ((n : Int) + 1)) hn HT.out)
  have HB := Aside0.mk hb
  clear hb y1 y2 y3 y4 h4 z5 z6 z7
  go_enter Try.func37, Try.ntmps37
  go_wp2
  repeat (go_quiet (fail); try go_wp2)
  go_region_held3 (fun w' => w'.cell? ⟨g, 381, none⟩ = some (.int .i64 (n + 1))) (first | exact HT.out | exact HT2.out _ _ _) (fail)
  go_wp2
  go_ret
  refine ⟨rfl, ?_, ?_⟩
  · exact blk_set (blk_set (blk_set (blk_set (w := W) HB.out _ _) _ _) _ _) _ _
  · exact grown_at (grown_set4 W g 381 ((n + 1) * 3) ((n + 1) * 3 + 1) ((n + 1) * 3 + 2) (.int .i64 ((n : Int) + 1)) (.int .u8 (n1 + 1)) (.int .u8 o) (.bool iso)) rfl rfl rfl rfl
set_option maxHeartbeats 2000000 in
set_option maxRecDepth 100000 in
theorem push_deep20 (g n : Nat) (W : World) (C : Array Value) (lev o n1 ai ae : Int) (iso : Bool) (hn : n ≤ 125) (hs : C.size = 385) (hb : W.heap[g]? = some (.cells C 47 (0, 0)))
    (y1 : C[381]? = some (.int .i64 n)) (y2 : C[382]? = some (.int .i64 ai)) (y3 : C[383]? = some (.int .i64 ae)) (y4 : C[n * 3]? = some (.int .u8 lev)) (h1w : IntKind.u8.wrap (lev + 1) = n1) (h2 : Go.bits .and .u8 n1 1 = 0)
    (h2w : IntKind.u8.wrap (n1 + 1) = n1 + 1) (h4 : 125 < (n1 + 1)) :
    Calls Try.prog 37 #[.pointer (some ⟨g, 0, none⟩), .int .u8 2, .int .u8 o, .bool iso] W fun e w' => RetB false e (w'.heap[g]? = some (.cells C 47 (0, 0)) ∧ W.grownBy w' (some g)) := by
  have x1 := (blk_cell hb 381).trans y1
  have x2 := (blk_cell hb 382).trans y2
  have x3 := (blk_cell hb 383).trans y3
  have x4 := (blk_cell hb (n * 3)).trans y4
  have f1 := blk_frozen hb 381
  have d4 : decide ((0 : Int) ≤ (n : Int)) = true := decide_eq_true (by omega)
  have d5 : decide ((n : Int) < 127) = true := decide_eq_true (by omega)
  have d6 : decide (125 < (n1 + 1)) = true := decide_eq_true (by omega)
  have HB := Aside0.mk hb
  clear hb y1 y2 y3 y4 h4
  go_enter Try.func37, Try.ntmps37
  go_wp2
  repeat (go_quiet (fail); try go_wp2)
  go_ret
  exact ⟨rfl, HB.out, grown_at (World.grownBy.refl W _) rfl rfl rfl rfl⟩
set_option maxHeartbeats 2000000 in
set_option maxRecDepth 100000 in
theorem push_over20 (g n : Nat) (W : World) (C : Array Value) (lev o n1 ai ae : Int) (iso : Bool) (hn : n ≤ 125) (hs : C.size = 385) (hb : W.heap[g]? = some (.cells C 47 (0, 0)))
    (y1 : C[381]? = some (.int .i64 n)) (y2 : C[382]? = some (.int .i64 ai)) (y3 : C[383]? = some (.int .i64 ae)) (y4 : C[n * 3]? = some (.int .u8 lev)) (h1w : IntKind.u8.wrap (lev + 1) = n1) (h2 : Go.bits .and .u8 n1 1 = 0)
    (h2w : IntKind.u8.wrap (n1 + 1) = n1 + 1) (h4 : (n1 + 1) ≤ 125) (hi : 0 ≤ ai) (hi1 : ai ≤ 1000000) (he : 0 ≤ ae) (he1 : ae ≤ 1000000) (hie : 0 < ai + ae) :
    Calls Try.prog 37 #[.pointer (some ⟨g, 0, none⟩), .int .u8 2, .int .u8 o, .bool iso] W fun e w' => RetB false e (w'.heap[g]? = some (.cells C 47 (0, 0)) ∧ W.grownBy w' (some g)) := by
  have x1 := (blk_cell hb 381).trans y1
  have x2 := (blk_cell hb 382).trans y2
  have x3 := (blk_cell hb 383).trans y3
  have x4 := (blk_cell hb (n * 3)).trans y4
  have f1 := blk_frozen hb 381
  have d4 : decide ((0 : Int) ≤ (n : Int)) = true := decide_eq_true (by omega)
  have d5 : decide ((n : Int) < 127) = true := decide_eq_true (by omega)
  have d6 : decide (125 < (n1 + 1)) = false := decide_eq_false (by omega)
  have d7 : decide (0 < ai + ae) = true := decide_eq_true (by omega)
  have w7 : IntKind.i64.wrap (ai + ae) = ai + ae := Go.IntWalk.i64_in _ (by omega)
  clear hie
  have HB := Aside0.mk hb
  clear hb y1 y2 y3 y4 h4
  go_enter Try.func37, Try.ntmps37
  go_wp2
  repeat (go_quiet (fail); try go_wp2)
  go_ret
  exact ⟨rfl, HB.out, grown_at (World.grownBy.refl W _) rfl rfl rfl rfl⟩
set_option maxHeartbeats 2000000 in
set_option maxRecDepth 100000 in
theorem push_yes11 (g n : Nat) (W : World) (C : Array Value) (lev o n1 : Int) (iso : Bool) (hn : n ≤ 125) (hs : C.size = 385) (hb : W.heap[g]? = some (.cells C 47 (0, 0)))
    (y1 : C[381]? = some (.int .i64 n)) (y2 : C[382]? = some (.int .i64 0)) (y3 : C[383]? = some (.int .i64 0)) (y4 : C[n * 3]? = some (.int .u8 lev)) (h1w : IntKind.u8.wrap (lev + 1) = n1) (h2 : Go.bits .and .u8 n1 1 = 1)
    (h2w : IntKind.u8.wrap (n1 + 1) = n1 + 1) (h4 : (n1 + 1) ≤ 125) :
    Calls Try.prog 37 #[.pointer (some ⟨g, 0, none⟩), .int .u8 1, .int .u8 o, .bool iso] W fun e w' => RetB true e (w'.heap[g]? = some (.cells ((((C.setIfInBounds 381 (.int .i64 ((n : Int) + 1))).setIfInBounds ((n + 1) * 3) (.int .u8 (n1 + 1))).setIfInBounds ((n + 1) * 3 + 1) (.int .u8 o)).setIfInBounds ((n + 1) * 3 + 2) (.bool iso)) 47 (0, 0)) ∧ W.grownBy w' (some g)) := by
  have x1 := (blk_cell hb 381).trans y1
  have x2 := (blk_cell hb 382).trans y2
  have x3 := (blk_cell hb 383).trans y3
  have x4 := (blk_cell hb (n * 3)).trans y4
  have f1 := blk_frozen hb 381
  have d4 : decide ((0 : Int) ≤ (n : Int)) = true := decide_eq_true (by omega)
  have d5 : decide ((n : Int) < 127) = true := decide_eq_true (by omega)
  have d6 : decide (125 < (n1 + 1)) = false := decide_eq_false (by omega)
  obtain ⟨u5, z5⟩ : ∃ u, C[(n + 1) * 3]? = some u := ⟨_, Array.getElem?_eq_getElem (by omega)⟩
  obtain ⟨u6, z6⟩ : ∃ u, C[(n + 1) * 3 + 1]? = some u := ⟨_, Array.getElem?_eq_getElem (by omega)⟩
  obtain ⟨u7, z7⟩ : ∃ u, C[(n + 1) * 3 + 2]? = some u := ⟨_, Array.getElem?_eq_getElem (by omega)⟩
  have x5 := (blk_cell hb _).trans z5
  have x6 := (blk_cell hb _).trans z6
  have x7 := (blk_cell hb _).trans z7
  have f5 := blk_frozen hb ((n + 1) * 3)
  have f6 := blk_frozen hb ((n + 1) * 3 + 1)
  have f7 := blk_frozen hb ((n + 1) * 3 + 2)
  have p8 : (0 : Int) ≤ (n : Int) + 1 := by omega
  have p9 : (n : Int) + 1 < 127 := by omega
  have hne5 : (n + 1) * 3 ≠ 381 := by omega
  have HT := Aside0.mk ((blk_cell (blk_set hb 381 (.int .i64 ((n : Int) + 1))) 381).trans (Array.getElem?_setIfInBounds_self_of_lt (by omega)))
  have HT2 := Aside0.mk (far3 W g n (.int .i64 ((n : Int) + 1)) hn HT.out)
  have HB := Aside0.mk hb
  clear hb y1 y2 y3 y4 h4 z5 z6 z7
  go_enter Try.func37, Try.ntmps37
  go_wp2
  repeat (go_quiet (fail); try go_wp2)
  go_region_held3 (fun w' => w'.cell? ⟨g, 381, none⟩ = some (.int .i64 (n + 1))) (first | exact HT.out | exact HT2.out _ _ _) (fail)
  go_wp2
  go_ret
  refine ⟨rfl, ?_, ?_⟩
  · exact blk_set (blk_set (blk_set (blk_set (w := W) HB.out _ _) _ _) _ _) _ _
  · exact grown_at (grown_set4 W g 381 ((n + 1) * 3) ((n + 1) * 3 + 1) ((n + 1) * 3 + 2) (.int .i64 ((n : Int) + 1)) (.int .u8 (n1 + 1)) (.int .u8 o) (.bool iso)) rfl rfl rfl rfl
set_option maxHeartbeats 2000000 in
set_option maxRecDepth 100000 in
theorem push_deep11 (g n : Nat) (W : World) (C : Array Value) (lev o n1 ai ae : Int) (iso : Bool) (hn : n ≤ 125) (hs : C.size = 385) (hb : W.heap[g]? = some (.cells C 47 (0, 0)))
    (y1 : C[381]? = some (.int .i64 n)) (y2 : C[382]? = some (.int .i64 ai)) (y3 : C[383]? = some (.int .i64 ae)) (y4 : C[n * 3]? = some (.int .u8 lev)) (h1w : IntKind.u8.wrap (lev + 1) = n1) (h2 : Go.bits .and .u8 n1 1 = 1)
    (h2w : IntKind.u8.wrap (n1 + 1) = n1 + 1) (h4 : 125 < (n1 + 1)) :
    Calls Try.prog 37 #[.pointer (some ⟨g, 0, none⟩), .int .u8 1, .int .u8 o, .bool iso] W fun e w' => RetB false e (w'.heap[g]? = some (.cells C 47 (0, 0)) ∧ W.grownBy w' (some g)) := by
  have x1 := (blk_cell hb 381).trans y1
  have x2 := (blk_cell hb 382).trans y2
  have x3 := (blk_cell hb 383).trans y3
  have x4 := (blk_cell hb (n * 3)).trans y4
  have f1 := blk_frozen hb 381
  have d4 : decide ((0 : Int) ≤ (n : Int)) = true := decide_eq_true (by omega)
  have d5 : decide ((n : Int) < 127) = true := decide_eq_true (by omega)
  have d6 : decide (125 < (n1 + 1)) = true := decide_eq_true (by omega)
  have HB := Aside0.mk hb
  clear hb y1 y2 y3 y4 h4
  go_enter Try.func37, Try.ntmps37
  go_wp2
  repeat (go_quiet (fail); try go_wp2)
  go_ret
  exact ⟨rfl, HB.out, grown_at (World.grownBy.refl W _) rfl rfl rfl rfl⟩
set_option maxHeartbeats 2000000 in
set_option maxRecDepth 100000 in
theorem push_over11 (g n : Nat) (W : World) (C : Array Value) (lev o n1 ai ae : Int) (iso : Bool) (hn : n ≤ 125) (hs : C.size = 385) (hb : W.heap[g]? = some (.cells C 47 (0, 0)))
    (y1 : C[381]? = some (.int .i64 n)) (y2 : C[382]? = some (.int .i64 ai)) (y3 : C[383]? = some (.int .i64 ae)) (y4 : C[n * 3]? = some (.int .u8 lev)) (h1w : IntKind.u8.wrap (lev + 1) = n1) (h2 : Go.bits .and .u8 n1 1 = 1)
    (h2w : IntKind.u8.wrap (n1 + 1) = n1 + 1) (h4 : (n1 + 1) ≤ 125) (hi : 0 ≤ ai) (hi1 : ai ≤ 1000000) (he : 0 ≤ ae) (he1 : ae ≤ 1000000) (hie : 0 < ai + ae) :
    Calls Try.prog 37 #[.pointer (some ⟨g, 0, none⟩), .int .u8 1, .int .u8 o, .bool iso] W fun e w' => RetB false e (w'.heap[g]? = some (.cells C 47 (0, 0)) ∧ W.grownBy w' (some g)) := by
  have x1 := (blk_cell hb 381).trans y1
  have x2 := (blk_cell hb 382).trans y2
  have x3 := (blk_cell hb 383).trans y3
  have x4 := (blk_cell hb (n * 3)).trans y4
  have f1 := blk_frozen hb 381
  have d4 : decide ((0 : Int) ≤ (n : Int)) = true := decide_eq_true (by omega)
  have d5 : decide ((n : Int) < 127) = true := decide_eq_true (by omega)
  have d6 : decide (125 < (n1 + 1)) = false := decide_eq_false (by omega)
  have d7 : decide (0 < ai + ae) = true := decide_eq_true (by omega)
  have w7 : IntKind.i64.wrap (ai + ae) = ai + ae := Go.IntWalk.i64_in _ (by omega)
  clear hie
  have HB := Aside0.mk hb
  clear hb y1 y2 y3 y4 h4
  go_enter Try.func37, Try.ntmps37
  go_wp2
  repeat (go_quiet (fail); try go_wp2)
  go_ret
  exact ⟨rfl, HB.out, grown_at (World.grownBy.refl W _) rfl rfl rfl rfl⟩
set_option maxHeartbeats 2000000 in
set_option maxRecDepth 100000 in
theorem push_yes10 (g n : Nat) (W : World) (C : Array Value) (lev o n1 : Int) (iso : Bool) (hn : n ≤ 125) (hs : C.size = 385) (hb : W.heap[g]? = some (.cells C 47 (0, 0)))
    (y1 : C[381]? = some (.int .i64 n)) (y2 : C[382]? = some (.int .i64 0)) (y3 : C[383]? = some (.int .i64 0)) (y4 : C[n * 3]? = some (.int .u8 lev)) (h1w : IntKind.u8.wrap (lev + 1) = n1) (h2 : Go.bits .and .u8 n1 1 = 0)
    (h2w : IntKind.u8.wrap (n1 + 1) = n1 + 1) (h4 : n1 ≤ 125) :
    Calls Try.prog 37 #[.pointer (some ⟨g, 0, none⟩), .int .u8 1, .int .u8 o, .bool iso] W fun e w' => RetB true e (w'.heap[g]? = some (.cells ((((C.setIfInBounds 381 (.int .i64 ((n : Int) + 1))).setIfInBounds ((n + 1) * 3) (.int .u8 n1)).setIfInBounds ((n + 1) * 3 + 1) (.int .u8 o)).setIfInBounds ((n + 1) * 3 + 2) (.bool iso)) 47 (0, 0)) ∧ W.grownBy w' (some g)) := by
  have x1 := (blk_cell hb 381).trans y1
  have x2 := (blk_cell hb 382).trans y2
  have x3 := (blk_cell hb 383).trans y3
  have x4 := (blk_cell hb (n * 3)).trans y4
  have f1 := blk_frozen hb 381
  have d4 : decide ((0 : Int) ≤ (n : Int)) = true := decide_eq_true (by omega)
  have d5 : decide ((n : Int) < 127) = true := decide_eq_true (by omega)
  have d6 : decide (125 < n1) = false := decide_eq_false (by omega)
  obtain ⟨u5, z5⟩ : ∃ u, C[(n + 1) * 3]? = some u := ⟨_, Array.getElem?_eq_getElem (by omega)⟩
  obtain ⟨u6, z6⟩ : ∃ u, C[(n + 1) * 3 + 1]? = some u := ⟨_, Array.getElem?_eq_getElem (by omega)⟩
  obtain ⟨u7, z7⟩ : ∃ u, C[(n + 1) * 3 + 2]? = some u := ⟨_, Array.getElem?_eq_getElem (by omega)⟩
  have x5 := (blk_cell hb _).trans z5
  have x6 := (blk_cell hb _).trans z6
  have x7 := (blk_cell hb _).trans z7
  have f5 := blk_frozen hb ((n + 1) * 3)
  have f6 := blk_frozen hb ((n + 1) * 3 + 1)
  have f7 := blk_frozen hb ((n + 1) * 3 + 2)
  have p8 : (0 : Int) ≤ (n : Int) + 1 := by omega
  have p9 : (n : Int) + 1 < 127 := by omega
  have hne5 : (n + 1) * 3 ≠ 381 := by omega
  have HT := Aside0.mk ((blk_cell (blk_set hb 381 (.int .i64 ((n : Int) + 1))) 381).trans (Array.getElem?_setIfInBounds_self_of_lt (by omega)))
  have HT2 := Aside0.mk (far3 W g n (.int .i64 ((n : Int) + 1)) hn HT.out)
  have HB := Aside0.mk hb
  clear hb y1 y2 y3 y4 h4 z5 z6 z7
  go_enter Try.func37, Try.ntmps37
  go_wp2
  repeat (go_quiet (fail); try go_wp2)
  go_region_held3 (fun w' => w'.cell? ⟨g, 381, none⟩ = some (.int .i64 (n + 1))) (first | exact HT.out | exact HT2.out _ _ _) (fail)
  go_wp2
  go_ret
  refine ⟨rfl, ?_, ?_⟩
  · exact blk_set (blk_set (blk_set (blk_set (w := W) HB.out _ _) _ _) _ _) _ _
  · exact grown_at (grown_set4 W g 381 ((n + 1) * 3) ((n + 1) * 3 + 1) ((n + 1) * 3 + 2) (.int .i64 ((n : Int) + 1)) (.int .u8 n1) (.int .u8 o) (.bool iso)) rfl rfl rfl rfl
set_option maxHeartbeats 2000000 in
set_option maxRecDepth 100000 in
theorem push_deep10 (g n : Nat) (W : World) (C : Array Value) (lev o n1 ai ae : Int) (iso : Bool) (hn : n ≤ 125) (hs : C.size = 385) (hb : W.heap[g]? = some (.cells C 47 (0, 0)))
    (y1 : C[381]? = some (.int .i64 n)) (y2 : C[382]? = some (.int .i64 ai)) (y3 : C[383]? = some (.int .i64 ae)) (y4 : C[n * 3]? = some (.int .u8 lev)) (h1w : IntKind.u8.wrap (lev + 1) = n1) (h2 : Go.bits .and .u8 n1 1 = 0)
    (h2w : IntKind.u8.wrap (n1 + 1) = n1 + 1) (h4 : 125 < n1) :
    Calls Try.prog 37 #[.pointer (some ⟨g, 0, none⟩), .int .u8 1, .int .u8 o, .bool iso] W fun e w' => RetB false e (w'.heap[g]? = some (.cells C 47 (0, 0)) ∧ W.grownBy w' (some g)) := by
  have x1 := (blk_cell hb 381).trans y1
  have x2 := (blk_cell hb 382).trans y2
  have x3 := (blk_cell hb 383).trans y3
  have x4 := (blk_cell hb (n * 3)).trans y4
  have f1 := blk_frozen hb 381
  have d4 : decide ((0 : Int) ≤ (n : Int)) = true := decide_eq_true (by omega)
  have d5 : decide ((n : Int) < 127) = true := decide_eq_true (by omega)
  have d6 : decide (125 < n1) = true := decide_eq_true (by omega)
  have HB := Aside0.mk hb
  clear hb y1 y2 y3 y4 h4
  go_enter Try.func37, Try.ntmps37
  go_wp2
  repeat (go_quiet (fail); try go_wp2)
  go_ret
  exact ⟨rfl, HB.out, grown_at (World.grownBy.refl W _) rfl rfl rfl rfl⟩
set_option maxHeartbeats 2000000 in
set_option maxRecDepth 100000 in
theorem push_over10 (g n : Nat) (W : World) (C : Array Value) (lev o n1 ai ae : Int) (iso : Bool) (hn : n ≤ 125) (hs : C.size = 385) (hb : W.heap[g]? = some (.cells C 47 (0, 0)))
    (y1 : C[381]? = some (.int .i64 n)) (y2 : C[382]? = some (.int .i64 ai)) (y3 : C[383]? = some (.int .i64 ae)) (y4 : C[n * 3]? = some (.int .u8 lev)) (h1w : IntKind.u8.wrap (lev + 1) = n1) (h2 : Go.bits .and .u8 n1 1 = 0)
    (h2w : IntKind.u8.wrap (n1 + 1) = n1 + 1) (h4 : n1 ≤ 125) (hi : 0 ≤ ai) (hi1 : ai ≤ 1000000) (he : 0 ≤ ae) (he1 : ae ≤ 1000000) (hie : 0 < ai + ae) :
    Calls Try.prog 37 #[.pointer (some ⟨g, 0, none⟩), .int .u8 1, .int .u8 o, .bool iso] W fun e w' => RetB false e (w'.heap[g]? = some (.cells C 47 (0, 0)) ∧ W.grownBy w' (some g)) := by
  have x1 := (blk_cell hb 381).trans y1
  have x2 := (blk_cell hb 382).trans y2
  have x3 := (blk_cell hb 383).trans y3
  have x4 := (blk_cell hb (n * 3)).trans y4
  have f1 := blk_frozen hb 381
  have d4 : decide ((0 : Int) ≤ (n : Int)) = true := decide_eq_true (by omega)
  have d5 : decide ((n : Int) < 127) = true := decide_eq_true (by omega)
  have d6 : decide (125 < n1) = false := decide_eq_false (by omega)
  have d7 : decide (0 < ai + ae) = true := decide_eq_true (by omega)
  have w7 : IntKind.i64.wrap (ai + ae) = ai + ae := Go.IntWalk.i64_in _ (by omega)
  clear hie
  have HB := Aside0.mk hb
  clear hb y1 y2 y3 y4 h4
  go_enter Try.func37, Try.ntmps37
  go_wp2
  repeat (go_quiet (fail); try go_wp2)
  go_ret
  exact ⟨rfl, HB.out, grown_at (World.grownBy.refl W _) rfl rfl rfl rfl⟩
end Go.Proofs.Ytdkbkecnhebanaa.X
