import Derived.Test.YtnpcfiahmadkjaaT4
import Derived.Outline
import Derived.ScopeJumps
namespace Go.Proofs.Ytnpcfiahmadkjaa.X
open Go.RowKit Go.Proofs.YtnpcfiahmadkjaaW.PrintWords Go.Proofs.YtnpcfiahmadkjaaW.PrintLast Go.Proofs.YtnpcfiahmadkjaaW.PrintMore
attribute [local go_sem] max2_int min2_int max_two min_two max_three min_three max_four min_four   -- for this text's walks alone
set_option linter.unusedVariables false
set_option linter.unusedSimpArgs false

/-- The row under way in the function's own memory. -/
def WkS (w : World) (g bx bm m : Nat) (vp : Value) (out pl : List Int) (b n : Int) (W : World) : Prop :=
  WRow w.heap.size W g (.slice (some ⟨bm, 0, none⟩) m m) vp out pl b n ∧ Boxed W bx 33 (.pointer (some ⟨g, 0, none⟩)) ∧ Below w.heap.size w W
theorem WkS.step {w : World} {g bx bm m : Nat} {vp vp' : Value} {out pl out' pl' : List Int} {b n b' n' : Int} {W W' : World} (h : WkS w g bx bm m vp out pl b n W) (hr : WRow w.heap.size W' g (.slice (some ⟨bm, 0, none⟩) m m) vp' out' pl' b' n') {k : Nat} (hg : W.grownBy W' (some k)) (hk : w.heap.size ≤ k) {cs : Array Value} {t : Nat} (ht : W.heap[k]? = some (.cells cs t (0, 0))) (hne : t ≠ 33) :
    WkS w g bx bm m vp' out' pl' b' n' W' := by
  refine ⟨hr, h.2.1.kept hg (fun e => ?_), h.2.2.grown hg h.2.2.size (fun j hj => by injection hj with hj; omega)⟩
  injection e with e
  exact ne_typed h.2.1 ht (Ne.symm hne) e
theorem WkS.drewN {w : World} {g bx bm m : Nat} {vp : Value} {out pl : List Int} {b n : Int} {W : World} (h : WkS w g bx bm m vp out pl b n W) (q : Nat) : WkS w g bx bm m vp out pl b n (W.drewN q) := ⟨h.1.drewN q, h.2.1, pw_below_drewN h.2.2 q⟩
theorem WkS.drew {w : World} {g bx bm m : Nat} {vp : Value} {out pl : List Int} {b n : Int} {W : World} (h : WkS w g bx bm m vp out pl b n W) : WkS w g bx bm m vp out pl b n W.drew := ⟨h.1.drew, h.2.1, below_drew h.2.2⟩
/-- A class is written at place i. -/
theorem WkS.put {w : World} {g bx bm m : Nat} {vp : Value} {out pl : List Int} {b n : Int} {W : World} (h : WkS w g bx bm m vp out pl b n W) (hm : out.length = m) (i c : Int) : WkS w g bx bm m vp (out.set i.toNat c) pl b n (W.setCell ⟨bm, i.toNat, none⟩ (.int .u8 c)) := by
  subst hm
  obtain ⟨hr, hg⟩ := h.1.setO i c
  obtain ⟨hb, cs, hcs⟩ := R_typed h.1.o bm rfl
  exact h.step hr hg hb hcs (by decide)
theorem WkS.cells {w : World} {g bx bm m : Nat} {vp : Value} {out pl : List Int} {b n : Int} {W : World} (h : WkS w g bx bm m vp out pl b n W) :
    W.cell? ⟨bx, 0, none⟩ = some (.pointer (some ⟨g, 0, none⟩)) ∧ W.cell? ⟨g, 0, none⟩ = some (.slice (some ⟨bm, 0, none⟩) m m) ∧ W.cell? ⟨g, 1, none⟩ = some vp := ⟨h.2.1.cell, h.1.c.1, h.1.c.2.1⟩
theorem WkS.outc {w : World} {g bx bm m : Nat} {vp : Value} {out pl : List Int} {b n : Int} {W : World} (h : WkS w g bx bm m vp out pl b n W) (i : Int) (h0 : 0 ≤ i) (h1 : i < m) : W.cell? ⟨bm, i.toNat, none⟩ = some (.int .u8 (rdOf 0 out i)) ∧ W.frozen? ⟨bm, i.toNat, none⟩ = false := Kd.R_celln (0 : Int) h.1.o i h0 h1
/-- What loop 1 has between two rounds. -/
def WkL1 (w : World) (g bx bm : Nat) (l0 : List Int) (s k : Int) (W : World) : Prop :=
  ∃ (vp : Value) (o pl : List Int) (b n : Int), WkS w g bx bm l0.length vp (o ++ List.replicate (l0.length - o.length) 0) pl b n W ∧ (o.length : Int) = k ∧
    o ++ wkMg (l0.drop k.toNat) (wkR13 b n (l0.drop k.toNat)) = wkMg l0 (wkR13 s s l0) ∧ pl ++ wkPlc k (l0.drop k.toNat) = wkPlc 0 l0
/-- What stands at the label. -/
def WkJ (w : World) (g bx bm : Nat) (l0 : List Int) (s st k : Int) (W : World) : Prop :=
  ∃ (vp : Value) (dn cur : List Int) (b n : Int), WkS w g bx bm l0.length vp (wkMg l0 (dn ++ cur)) (wkPlc 0 l0) b n W ∧ (dn.length : Int) = k ∧ (dn ++ cur).length = (wkPlc 0 l0).length ∧ (st = 1 ∨ st = 2) ∧
    dn ++ wkW7 st (wkW5 (dn.getLastD 10) cur) = wkW7 s (wkW5 10 (wkW4 10 (wkR13 s s l0)))
theorem WkL1_start (w : World) (l0 : List Int) (s : Int) (hl : l0.length ≤ 9223372036854775807) : WkL1 w (w.heap.size + 1) (w.heap.size + 1 + 1) w.heap.size l0 s 0 (((w.alloc (.cells (madeCells #[.int .u8 0] l0.length) 23)).alloc (.cells #[.slice (some ⟨w.heap.size, 0, none⟩) l0.length l0.length, .slice none 0 0, .int .u8 s, .int .u8 s] 36)).alloc (.cells #[.pointer (some ⟨w.heap.size + 1, 0, none⟩)] 33)) := by
  refine ⟨.slice none 0 0, [], [], s, s, ⟨⟨?_, ?_, Kd.R_nil _ _ _ _ _, by omega⟩, ?_, ?_⟩, rfl, rfl, rfl⟩
  · have h := World.alloc_heap_new (w.alloc (.cells (madeCells #[.int .u8 0] l0.length) 23)) (.cells #[.slice (some ⟨w.heap.size, 0, none⟩) l0.length l0.length, .slice none 0 0, .int .u8 s, .int .u8 s] 36)
    rw [World.size_alloc] at h
    exact (Below.heap_alloc _ _ _ (by simp)).trans h
  · refine Kd.R_alloc (Kd.R_alloc ?_ _) _
    have h : Kd.R (Kd.int .u8) 23 (w.alloc (.cells (madeCells #[.int .u8 0] l0.length) 23)) w.heap.size (fun _ => True) (.slice (some ⟨w.heap.size, 0, none⟩) l0.length l0.length) (List.replicate l0.length 0) := Kd.R_of_own (own_made' w w.heap.size 23 .u8 l0.length (Nat.le_refl _) hl) (fun _ _ => trivial)
    exact h
  · have h := Boxed.new ((w.alloc (.cells (madeCells #[.int .u8 0] l0.length) 23)).alloc (.cells #[.slice (some ⟨w.heap.size, 0, none⟩) l0.length l0.length, .slice none 0 0, .int .u8 s, .int .u8 s] 36)) 33 (.pointer (some ⟨w.heap.size + 1, 0, none⟩))
    rw [World.size_alloc, World.size_alloc] at h
    exact h
  · exact below_alloc (below_alloc (below_alloc (Below.refl _ _) _) _) _
theorem wk_dropRd {l : List Int} {i : Int} (h0 : 0 ≤ i) (h1 : i < l.length) : l.drop i.toNat = rd l i :: l.drop (i + 1).toNat := by
  obtain ⟨n, rfl⟩ := Int.eq_ofNat_of_zero_le h0
  have hn : n < l.length := by omega
  rw [show ((n : Int) + 1).toNat = n + 1 by omega, Int.toNat_natCast, List.drop_eq_getElem_cons hn]
  simp [rd, hn]
theorem wk_setNext {o : List Int} {n : Nat} {k v : Int} (hk : (o.length : Int) = k) (hn : k < n) : (o ++ List.replicate (n - o.length) (0 : Int)).set k.toNat v = (o ++ [v]) ++ List.replicate (n - (o ++ [v]).length) 0 := by
  subst hk
  rw [show n - o.length = (n - (o ++ [v]).length) + 1 by simp; omega, List.replicate_succ]
  simp
theorem WkL1_ten {w W : World} {g bx bm : Nat} {l0 o pl : List Int} {vp : Value} {b n s k : Int} (h0 : 0 ≤ k) (h1 : k < l0.length) (hc : rd l0 k = 10) (q2 : (o.length : Int) = k)
    (q1 : WkS w g bx bm l0.length vp ((o ++ List.replicate (l0.length - o.length) 0).set k.toNat 10) pl b n W) (q3 : o ++ wkMg (l0.drop k.toNat) (wkR13 b n (l0.drop k.toNat)) = wkMg l0 (wkR13 s s l0)) (q4 : pl ++ wkPlc k (l0.drop k.toNat) = wkPlc 0 l0) : WkL1 w g bx bm l0 s (k + 1) W := by
  rw [wk_setNext q2 h1] at q1
  rw [wk_dropRd h0 h1, hc] at q3 q4
  refine ⟨vp, o ++ [10], pl, b, n, q1, by simp; omega, ?_, ?_⟩
  · rw [wkR13, if_pos rfl, wkMg, if_pos rfl] at q3
    simpa using q3
  · rw [wkPlc, if_pos rfl] at q4
    exact q4
theorem WkL1_next {w W : World} {g bx bm : Nat} {l0 o pl : List Int} {vp : Value} {b n s k : Int} (h0 : 0 ≤ k) (h1 : k < l0.length) (hc : rd l0 k ≠ 10) (q2 : (o.length : Int) = k)
    (q1 : WkS w g bx bm l0.length vp ((o ++ List.replicate (l0.length - o.length) 0).set k.toNat (fst1 b n (rd l0 k)).1) (pl ++ [k]) (fst1 b n (rd l0 k)).2.1 (fst1 b n (rd l0 k)).2.2 W) (q3 : o ++ wkMg (l0.drop k.toNat) (wkR13 b n (l0.drop k.toNat)) = wkMg l0 (wkR13 s s l0)) (q4 : pl ++ wkPlc k (l0.drop k.toNat) = wkPlc 0 l0) : WkL1 w g bx bm l0 s (k + 1) W := by
  rw [wk_setNext q2 h1] at q1
  rw [wk_dropRd h0 h1] at q3 q4
  refine ⟨vp, o ++ [(fst1 b n (rd l0 k)).1], pl ++ [k], _, _, q1, by simp; omega, ?_, ?_⟩
  · rw [wkR13, if_neg hc, wkMg, if_neg hc] at q3
    simpa using q3
  · rw [wkPlc, if_neg hc] at q4
    simpa using q4
/-- A place is put behind the others. -/
theorem WkS.push {w : World} {g bx bm m : Nat} {vp v1 : Value} {out pl : List Int} {b n : Int} {W w1 : World} (h : WkS w g bx bm m vp out pl b n W) (i : Int) (hr : Kd.R (Kd.int .i64) 3 w1 w.heap.size (fun _ => True) v1 (pl ++ [i])) (hb : Below w.heap.size w w1) (hg : W.grownBy w1 vp.ownBlock) :
    WkS w g bx bm m v1 out (pl ++ [i]) b n (w1.setCell ⟨g, 1, none⟩ v1) := by
  have hne : ∀ k, vp.ownBlock = some k → g ≠ k ∧ bx ≠ k ∧ bm ≠ k := by
    intro k hk
    obtain ⟨_, cs, hcs⟩ := R_typed h.1.p k hk
    obtain ⟨_, cs', hcs'⟩ := R_typed h.1.o bm rfl
    exact ⟨ne_typed h.1.cell hcs (by decide), ne_typed h.2.1 hcs (by decide), ne_typed hcs' hcs (by decide)⟩
  have hgc : w1.heap[g]? = some (.cells #[.slice (some ⟨bm, 0, none⟩) m m, vp, .int .u8 b, .int .u8 n] 36 (0, 0)) :=
    (hg.block g (Array.getElem?_eq_some_iff.1 h.1.cell).1 (fun e => (hne g e.symm).1 rfl)).trans h.1.cell
  refine ⟨⟨by simpa using blk_set hgc 1 v1, Kd.R_set (Kd.R_grown2 h.1.o rfl hg (fun k hk e => ?_)) hgc (by simp [Kd.int, Kd.scalar]) _ _, Kd.R_set hr hgc (by simp [Kd.int, Kd.scalar]) _ _, h.1.hb⟩, ?_, ?_⟩
  · injection e with e
    subst e
    exact (hne _ hk).2.2 rfl
  · refine (h.2.1.kept hg (fun e => (hne bx e.symm).2.1 rfl)).kept (row := some g) ⟨rfl, rfl, rfl, by simp [World.setCell], fun i hi hn => Below.heap_setCell w1 _ _ i (fun e => hn (by rw [e]))⟩ (fun e => ?_)
    injection e with e
    exact ne_typed h.2.1 h.1.cell (by decide) e
  · exact hb.grown (row := some g) ⟨rfl, rfl, rfl, by simp [World.setCell], fun i hi hn => Below.heap_setCell w1 _ _ i (fun e => hn (by rw [e]))⟩ hb.size (fun j hj => by injection hj with hj; have := h.1.hb; omega)
theorem WkS.pushC {w : World} {g bx bm m : Nat} {vp : Value} {out pl : List Int} {b n : Int} {W w1 : World} (h : WkS w g bx bm m vp out pl b n W) (hg : W.grownBy w1 vp.ownBlock) : w1.cell? ⟨bx, 0, none⟩ = some (.pointer (some ⟨g, 0, none⟩)) ∧ w1.cell? ⟨g, 1, none⟩ = some vp ∧ w1.frozen? ⟨g, 1, none⟩ = false := by
  have hne : ∀ k, vp.ownBlock = some k → g ≠ k ∧ bx ≠ k := by
    intro k hk
    obtain ⟨_, cs, hcs⟩ := R_typed h.1.p k hk
    exact ⟨ne_typed h.1.cell hcs (by decide), ne_typed h.2.1 hcs (by decide)⟩
  have hgc : w1.heap[g]? = some (.cells #[.slice (some ⟨bm, 0, none⟩) m m, vp, .int .u8 b, .int .u8 n] 36 (0, 0)) :=
    (hg.block g (Array.getElem?_eq_some_iff.1 h.1.cell).1 (fun e => (hne g e.symm).1 rfl)).trans h.1.cell
  exact ⟨(h.2.1.kept hg (fun e => (hne bx e.symm).2 rfl)).cell, by simp [World.cell?, hgc], blk_frozen hgc 1⟩
theorem WkS.allocC {w : World} {g bx bm m : Nat} {vp : Value} {out pl : List Int} {b n : Int} {W : World} (h : WkS w g bx bm m vp out pl b n W) (o : Obj) : (W.alloc o).cell? ⟨bx, 0, none⟩ = some (.pointer (some ⟨g, 0, none⟩)) ∧ (W.alloc o).cell? ⟨g, 1, none⟩ = some vp := by
  have hgc : (W.alloc o).heap[g]? = some (.cells #[.slice (some ⟨bm, 0, none⟩) m m, vp, .int .u8 b, .int .u8 n] 36 (0, 0)) :=
    ((World.grownBy_alloc W o none).block g (Array.getElem?_eq_some_iff.1 h.1.cell).1 (by simp)).trans h.1.cell
  exact ⟨(h.2.1.alloc o).cell, by simp [World.cell?, hgc]⟩
/-- What W1 to W3 leave, in the function's own memory. -/
theorem WkS.first {w : World} {g bx bm m : Nat} {vp : Value} {out pl : List Int} {b n b' n' : Int} {W W' : World} (h : WkS w g bx bm m vp out pl b n W) (hr : WRow w.heap.size W' g (.slice (some ⟨bm, 0, none⟩) m m) vp out pl b' n') (hg : W.grownBy W' (some g)) : WkS w g bx bm m vp out pl b' n' W' :=
  h.step hr hg h.1.hb h.1.cell (by decide)

end Go.Proofs.Ytnpcfiahmadkjaa.X
