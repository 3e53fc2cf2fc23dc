import Derived.Test.YtdkbkecnhebanaaT3
/-! explicit.begun. -/
namespace Go.Proofs.Ytdkbkecnhebanaa.X
open Go.RowKit Go.Proofs.YtdkbkecnhebanaaW.PrintWords Go.Proofs.YtdkbkecnhebanaaW.PrintLast Go.Proofs.YtdkbkecnhebanaaW.PrintMore
attribute [local go_sem] max2_int min2_int max_two min_two max_three min_three max_four min_four
set_option linter.unusedVariables false
set_option linter.unusedSimpArgs false
def C0 (base : Int) : Array Value := st0.cells.setIfInBounds 0 (.int .u8 base)
def RetV (v : Value) (e : Ending) (P : Prop) : Prop := e = .returned v ∧ P
theorem c0_size (base : Int) : (C0 base).size = 385 := by unfold C0; rw [Array.size_setIfInBounds]; exact st0_size
theorem all_set {Z : Array Value} (h : Z.all (·.oneCell') = true) (i : Nat) (v : Value) (hv : v.oneCell' = true) : (Z.setIfInBounds i v).all (·.oneCell') = true := by
  rw [Array.all_eq_true_iff_forall_mem] at h ⊢
  intro x hx
  rcases Array.mem_or_eq_of_mem_setIfInBounds hx with hx | rfl
  · exact h x hx
  · exact hv
theorem st0_one : st0.cells.all (·.oneCell') = true := by kernel_rfl
theorem c0_one (base : Int) : (C0 base).all (·.oneCell') = true := all_set st0_one _ _ rfl
theorem size47 : (Try.prog.info? 47).map (·.size) = some 385 := by kernel_rfl
theorem st0_0 : st0.cells[0]? = some (.int .u8 0) := by kernel_rfl
set_option maxHeartbeats 1000000 in
set_option maxRecDepth 100000 in
theorem begun_c (base : Int) (W : World) :
    Calls Try.prog 26 #[.int .u8 base] W fun e w' => RetV (.agg (C0 base)) e (Below W.heap.size W w') := by
  have hz := zv47
  have hs := st0_size
  have h0 := st0_0
  have ho := st0_one
  have hc := c0_one base
  have hcs := c0_size base
  unfold C0 at hc hcs ⊢
  generalize st0.cells = Z at *
  have h1 : ((W.alloc (.cells Z 47)).alloc (.cells Z 47)).cell? ⟨W.heap.size + 1, 0, none⟩ = some (.int .u8 0) := (blk_cell (heap_alloc2_new W _ _) 0).trans h0
  have h2 : ((W.alloc (.cells Z 47)).alloc (.cells Z 47)).frozen? ⟨W.heap.size + 1, 0, none⟩ = false := blk_frozen (heap_alloc2_new W _ _) 0
  have hb1 := blk_set (heap_alloc2_new W (.cells Z 47) (.cells Z 47)) 0 (.int .u8 base)
  have HC := Aside0.mk (And.intro hs (And.intro hc hcs))
  have HB := Aside0.mk hb1
  clear hs hc hcs ho h0 hb1
  go_enter Try.func26, Try.ntmps26
  have hl : ((W.alloc (.cells Z 47)).alloc (.cells (Z.setIfInBounds 0 (.int .u8 base)) 47)).heap[W.heap.size + 1]? = some (.cells (Z.setIfInBounds 0 (.int .u8 base)) 47 (0, 0)) := heap_alloc2_new W _ _
  have hl2 : ((W.alloc (.cells Z 47)).alloc (.cells (Z.setIfInBounds 0 (.int .u8 base)) 47)).heap[W.heap.size]? = some (.cells Z 47 (0, 0)) := heap_alloc2_old W _ _
  have HL := Aside0.mk (And.intro hl hl2)
  clear hl hl2
  go_wp2_with (first
    | (refine wpList_load_row rfl 47 (.tmp 3) rfl (W.heap.size + 1) rfl 47 (Z.setIfInBounds 0 (.int .u8 base)) (0, 0) _ HL.out.1 Try.underlying47 rfl (by rw [HC.out.2.2]; exact size47) ?_)
    | (refine wpList_store_row rfl 47 (.tmp 2) (.tmp 8) rfl W.heap.size (Z.setIfInBounds 0 (.int .u8 base)) rfl rfl 47 Z HL.out.2 (by rw [HC.out.2.2]; exact size47) (by rw [HC.out.1, HC.out.2.2]) HC.out.2.1 ?_))
  refine bodyPost_ret (v := .agg (Z.setIfInBounds 0 (.int .u8 base))) (results_cell_row rfl _ _ W.heap.size 47 _ (0, 0) _ rfl (setRow_heap _ W.heap.size Z (Z.setIfInBounds 0 (.int .u8 base)) 47 _ HL.out.2) Try.underlying47 rfl (by rw [HC.out.2.2]; exact size47)) rfl ⟨rfl, ?_⟩
  refine ⟨rfl, rfl, rfl, by simp; omega, fun i hi => ?_⟩
  rw [setRow_other _ _ _ _ (by omega), Below.heap_alloc _ _ _ (by simp; omega), Below.heap_alloc _ _ _ hi]
end Go.Proofs.Ytdkbkecnhebanaa.X
