import Derived.Test.YtofiflhjlohakaaT3
import Derived.Carry
/-! runs.Sequences: what stands in its loop. -/
namespace Go.Proofs.Ytofiflhjlohakaa.X
open Go.RowKit Go.Proofs.YtofiflhjlohakaaW.PrintWords Go.Proofs.YtofiflhjlohakaaW.PrintLast Go.Proofs.YtofiflhjlohakaaW.PrintMore
set_option linter.unusedVariables false
set_option linter.unusedSimpArgs false
def ptrK : Kd Nat := Kd.scalar (fun g => Value.pointer (some ⟨g, 0, none⟩)) (fun _ => rfl)
/-- A sequence's block. -/
def seqCells (v : Value) (x : S36) : Array Value := #[v, .int .u8 x.f1, .int .u8 x.f2, .int .u8 x.f3]
/-- The sequences' blocks, and their rows of places. -/
structure Seqs (w : World) (b0 : Nat) (G : Nat → Nat) (PV : Nat → Value) (all : List S36) : Prop where
  at' : ∀ s x, all[s]? = some x → b0 ≤ G s ∧ w.heap[G s]? = some (.cells (seqCells (PV s) x) 36 (0, 0)) ∧ Kd.R (Kd.int .i64) 3 w b0 (fun _ => True) (PV s) x.f0
  nd : ∀ s t, s < all.length → t < all.length → G s = G t → s = t
  ap : ∀ s t k, s < all.length → t < all.length → (PV s).ownBlock = some k → (PV t).ownBlock = some k → s = t
theorem R_stay {α : Type} {d : Kd α} {e b0 : Nat} {w w1 : World} {v : Value} {xs : List α} (h : d.R e w b0 (fun _ => True) v xs) (hm : ∀ k, b0 ≤ k → k < w.heap.size → w1.heap[k]? = w.heap[k]?) : d.R e w1 b0 (fun _ => True) v xs :=
  Kd.R_mono (Kd.R_move (Kd.R_bound h) (fun k hk => hm k hk.2.1 hk.2.2.1)) (fun _ _ => trivial)
theorem Seqs.stay {w w1 : World} {b0 : Nat} {G : Nat → Nat} {PV : Nat → Value} {all : List S36} (h : Seqs w b0 G PV all) (hm : ∀ k, b0 ≤ k → k < w.heap.size → w1.heap[k]? = w.heap[k]?) : Seqs w1 b0 G PV all := by
  refine ⟨fun s x hx => ?_, h.nd, h.ap⟩
  obtain ⟨h1, h2, h3⟩ := h.at' s x hx
  exact ⟨h1, (hm _ h1 (blk_lt h2)).trans h2, R_stay h3 hm⟩
/-- What stands in the loop over the classes: W is the world that it began in; from W's end + 4 on lies what it has made. -/
structure SqRel (W : World) (G : Nat → Nat) (PV : Nat → Value) (n : Nat) (np : Option Nat) (st : SqSt) (v12 : Value) (w : World) : Prop where
  be : Below W.heap.size W w
  h11 : w.heap[W.heap.size + 1]? = some (.cells #[.map (some W.heap.size)] 58 (0, 0))
  h13 : w.heap[W.heap.size + 2]? = some (.cells #[ptrV np] 60 (0, 0))
  h14 : w.heap[W.heap.size + 3]? = some (.cells #[.int .i64 st.last] 3 (0, 0))
  mp : mapIs w W.heap.size n (fun k => (st.wt k).map G)
  sq : Seqs w (W.heap.size + 4) G PV st.all
  al : Kd.R ptrK 60 w (W.heap.size + 4) (fun _ => True) v12 ((List.range st.all.length).map G)
/-- The loop begins. -/
theorem SqRel.start (W : World) (w5 : World) (hw : ((((W.alloc (.map #[] 0)).alloc (.cells #[.map (some W.heap.size)] 58)).alloc (.cells #[.pointer none] 60)).alloc (.cells #[.int .i64 (-1)] 3)) = w5) : SqRel W (fun _ => 0) (fun _ => undef) 0 none sq0 (.slice none 0 0) w5 := by
  obtain ⟨w1, h1⟩ : ∃ w1, W.alloc (.map #[] 0) = w1 := ⟨_, rfl⟩
  obtain ⟨w2, h2⟩ : ∃ w2, w1.alloc (.cells #[.map (some W.heap.size)] 58) = w2 := ⟨_, rfl⟩
  obtain ⟨w3, h3⟩ : ∃ w3, w2.alloc (.cells #[.pointer none] 60) = w3 := ⟨_, rfl⟩
  rw [h1, h2, h3] at hw
  have s1 : w1.heap.size = W.heap.size + 1 := by rw [← h1]; simp
  have s2 : w2.heap.size = W.heap.size + 2 := by rw [← h2]; simp [s1]
  have s3 : w3.heap.size = W.heap.size + 3 := by rw [← h3]; simp [s2]
  have b2 : w2.heap[W.heap.size + 1]? = some (.cells #[.map (some W.heap.size)] 58 (0, 0)) := by rw [← h2, ← s1]; exact heap_alloc_new _ _
  have b3 : w3.heap[W.heap.size + 2]? = some (.cells #[.pointer none] 60 (0, 0)) := by rw [← h3, ← s2]; exact heap_alloc_new _ _
  have b4 : w5.heap[W.heap.size + 3]? = some (.cells #[.int .i64 (-1)] 3 (0, 0)) := by rw [← hw, ← s3]; exact heap_alloc_new _ _
  refine ⟨?_, ?_, ?_, b4, ?_, ⟨fun s x hx => ?_, fun s t hs => ?_, fun s t k hs => ?_⟩, Kd.R_nil _ _ _ _ _⟩
  · rw [← hw, ← h3, ← h2, ← h1]
    exact below_alloc (below_alloc (below_alloc (below_alloc (Below.refl _ _) _) _) _) _
  · rw [← hw, ← h3]
    exact blk_alloc (blk_alloc b2 _) _
  · rw [← hw]
    exact blk_alloc b3 _
  · have hm : mapIs w1 W.heap.size 0 (fun _ => none) := by rw [← h1]; exact mapIs_made W
    refine hm.of_block ?_
    rw [← hw, ← h3, ← h2]
    rw [Below.heap_alloc _ _ _ (by simp; omega), Below.heap_alloc _ _ _ (by simp; omega), Below.heap_alloc _ _ _ (by omega)]
  · simp [sq0] at hx
  · simp [sq0] at hs
  · simp [sq0] at hs
/-- The world has turned in the first four blocks alone (and may have grown). -/
theorem SqRel.turn {W w w' : World} {G : Nat → Nat} {PV : Nat → Value} {n n' : Nat} {np np' : Option Nat} {st st' : SqSt} {v : Value} (h : SqRel W G PV n np st v w) (hall : st'.all = st.all) (be : Below W.heap.size W w')
    (h11 : w'.heap[W.heap.size + 1]? = some (.cells #[.map (some W.heap.size)] 58 (0, 0))) (h13 : w'.heap[W.heap.size + 2]? = some (.cells #[ptrV np'] 60 (0, 0))) (h14 : w'.heap[W.heap.size + 3]? = some (.cells #[.int .i64 st'.last] 3 (0, 0)))
    (mp : mapIs w' W.heap.size n' (fun k => (st'.wt k).map G)) (hm : ∀ k, W.heap.size + 4 ≤ k → k < w.heap.size → w'.heap[k]? = w.heap[k]?) : SqRel W G PV n' np' st' v w' :=
  ⟨be, h11, h13, h14, mp, by rw [hall]; exact h.sq.stay hm, by rw [hall]; exact R_stay h.al hm⟩
/-- Allocs, draws. -/
theorem SqRel.below {W w w' : World} {G : Nat → Nat} {PV : Nat → Value} {n : Nat} {np : Option Nat} {st : SqSt} {v : Value} (h : SqRel W G PV n np st v w) (hb : Below w.heap.size w w') : SqRel W G PV n np st v w' :=
  h.turn rfl (below_weaken h.be h.be.size hb) (blk_below h.h11 hb) (blk_below h.h13 hb) (blk_below h.h14 hb) (h.mp.of_block (hb.block _ h.mp.lt)) (fun k _ hk => hb.block k hk)
/-- 'ends'. -/
theorem SqRel.ends {W w w' : World} {G : Nat → Nat} {PV : Nat → Value} {n : Nat} {np : Option Nat} {st : SqSt} {v : Value} (h : SqRel W G PV n np st v w) (wt' : Int → Option Nat) (n' : Nat) (hM : mapIs w' W.heap.size n' (fun k => (wt' k).map G)) (hT : w.mapTurned w' W.heap.size) : SqRel W G PV n' np ⟨st.all, st.now, st.last, wt'⟩ v w' := by
  have hg := hT.grown
  have hs := h.be.size
  have l1 := blk_lt h.h14
  refine h.turn rfl (h.be.grown hg hs (fun j hj => by cases hj; exact Nat.le_refl _)) ?_ ?_ ?_ hM (fun k hk hl => hg.block k hl (fun e => by injection e with e; omega))
  · exact blk_grown h.h11 hg (fun e => by injection e with e; omega)
  · exact blk_grown h.h13 hg (fun e => by injection e with e; omega)
  · exact blk_grown h.h14 hg (fun e => by injection e with e; omega)
/-- A store into 'now'. -/
theorem SqRel.setNow {W w : World} {G : Nat → Nat} {PV : Nat → Value} {n : Nat} {np : Option Nat} {st : SqSt} {v : Value} (h : SqRel W G PV n np st v w) (np' : Option Nat) (s : Nat) : SqRel W G PV n np' ⟨st.all, s, st.last, st.wt⟩ v (w.setCell ⟨W.heap.size + 2, 0, none⟩ (ptrV np')) := by
  refine h.turn rfl (h.be.setCell (by simp) _) ?_ ?_ ?_ (h.mp.of_block ?_) (fun k hk hl => Below.heap_setCell _ _ _ _ (by show k ≠ W.heap.size + 2; omega))
  · exact (Below.heap_setCell _ _ _ _ (by show W.heap.size + 1 ≠ W.heap.size + 2; omega)).trans h.h11
  · exact blk_put h.h13 0 _ rfl
  · exact (Below.heap_setCell _ _ _ _ (by show W.heap.size + 3 ≠ W.heap.size + 2; omega)).trans h.h14
  · exact Below.heap_setCell _ _ _ _ (by show W.heap.size ≠ W.heap.size + 2; omega)
/-- A store into 'last'. -/
theorem SqRel.setLast {W w : World} {G : Nat → Nat} {PV : Nat → Value} {n : Nat} {np : Option Nat} {st : SqSt} {v : Value} (h : SqRel W G PV n np st v w) (i : Int) : SqRel W G PV n np ⟨st.all, st.now, i, st.wt⟩ v (w.setCell ⟨W.heap.size + 3, 0, none⟩ (.int .i64 i)) := by
  refine h.turn rfl (h.be.setCell (by simp) _) ?_ ?_ ?_ (h.mp.of_block ?_) (fun k hk hl => Below.heap_setCell _ _ _ _ (by show k ≠ W.heap.size + 3; omega))
  · exact (Below.heap_setCell _ _ _ _ (by show W.heap.size + 1 ≠ W.heap.size + 3; omega)).trans h.h11
  · exact (Below.heap_setCell _ _ _ _ (by show W.heap.size + 2 ≠ W.heap.size + 3; omega)).trans h.h13
  · exact blk_put h.h14 0 _ rfl
  · exact Below.heap_setCell _ _ _ _ (by show W.heap.size ≠ W.heap.size + 3; omega)
def upF {α : Type} (f : Nat → α) (k : Nat) (a : α) : Nat → α := fun x => if x = k then a else f x
theorem upF_eq {α : Type} (f : Nat → α) (k : Nat) (a : α) : upF f k a k = a := if_pos rfl
theorem upF_ne {α : Type} (f : Nat → α) {k x : Nat} (a : α) (h : x ≠ k) : upF f k a x = f x := if_neg h
theorem get_snoc {α : Type} {l : List α} {x y : α} {s : Nat} (h : (l ++ [x])[s]? = some y) : (s < l.length ∧ l[s]? = some y) ∨ (s = l.length ∧ y = x) := by
  rcases Nat.lt_trichotomy s l.length with q | q | q
  · rw [List.getElem?_append_left q] at h
    exact .inl ⟨q, h⟩
  · subst q
    simp at h
    exact .inr ⟨rfl, h.symm⟩
  · rw [List.getElem?_append_right (by omega)] at h
    have : s - l.length = (s - l.length - 1) + 1 := by omega
    rw [this] at h
    simp at h
/-- A sequence is begun: its block g is the newest of w; then it is appended to all. -/
theorem SqRel.begun {W w w5 : World} {G : Nat → Nat} {PV : Nat → Value} {n : Nat} {np : Option Nat} {st : SqSt} {v v' : Value} (h : SqRel W G PV n np st v w) (g : Nat) (x : S36) (hx : x.f0 = []) (hb : W.heap.size + 4 ≤ g) (hf : ∀ s, s < st.all.length → G s ≠ g) (hg : w.heap[g]? = some (.cells (seqCells (.slice none 0 0) x) 36 (0, 0)))
    (hwt : ∀ k s, st.wt k = some s → s < st.all.length) (hR : Kd.R ptrK 60 w5 (W.heap.size + 4) (fun _ => True) v' ((List.range st.all.length).map G ++ [g])) (hgr : w.grownBy w5 v.ownBlock) :
    SqRel W (upF G st.all.length g) (upF PV st.all.length (.slice none 0 0)) n np ⟨st.all ++ [x], st.all.length, st.last, st.wt⟩ v' w5 := by
  have hs := h.be.size
  have l1 := blk_lt h.h14
  have hv : ∀ k, v.ownBlock = some k → W.heap.size + 4 ≤ k := Kd.R_base h.al
  have hty := Kd.R_typed h.al
  have hne : ∀ k, k < W.heap.size + 4 → some k ≠ v.ownBlock := fun k hk e => by have := hv k e.symm; omega
  have hn36 : ∀ (k : Nat) (C : Array Value), w.heap[k]? = some (.cells C 36 (0, 0)) → some k ≠ v.ownBlock := fun k C hC e => by
    obtain ⟨D, hD⟩ := hty k e.symm
    rw [hC] at hD
    injection hD with hD
    injection hD with _ hD
    cases hD
  refine ⟨h.be.grown hgr hs (fun j hj => by have := hv j hj; omega), blk_grown h.h11 hgr (hne _ (by omega)), blk_grown h.h13 hgr (hne _ (by omega)), blk_grown h.h14 hgr (hne _ (by omega)), ?_, ⟨fun s y hy => ?_, fun s t hs1 ht1 e => ?_, fun s t k hs1 ht1 e1 e2 => ?_⟩, ?_⟩
  · have hm := h.mp.kept hgr (hne _ (by omega))
    obtain ⟨D, h1, h2⟩ := hm
    refine ⟨D, h1, fun k hk => (h2 k hk).trans ?_⟩
    show ptrD ((st.wt k).map G) = ptrD ((st.wt k).map (upF G st.all.length g))
    cases hq : st.wt k with
    | none => rfl
    | some s => rw [Option.map_some, Option.map_some, upF_ne G g (by have := hwt k s hq; omega)]
  · rcases get_snoc hy with ⟨q, hy⟩ | ⟨rfl, rfl⟩
    · obtain ⟨h1, h2, h3⟩ := h.sq.at' s y hy
      rw [upF_ne G g (by omega), upF_ne PV _ (by omega)]
      exact ⟨h1, blk_grown h2 hgr (hn36 _ _ h2), Kd.R_over' h3 hty (by decide) hgr⟩
    · rw [upF_eq, upF_eq]
      refine ⟨hb, blk_grown hg hgr (hn36 _ _ hg), ?_⟩
      rw [hx]
      exact Kd.R_nil _ _ _ _ _
  · simp at hs1 ht1
    by_cases q1 : s = st.all.length <;> by_cases q2 : t = st.all.length
    · omega
    · rw [q1, upF_eq, upF_ne G g q2] at e
      exact absurd e.symm (hf t (by omega))
    · rw [q2, upF_eq, upF_ne G g q1] at e
      exact absurd e (hf s (by omega))
    · rw [upF_ne G g q1, upF_ne G g q2] at e
      exact h.sq.nd s t (by omega) (by omega) e
  · simp at hs1 ht1
    by_cases q1 : s = st.all.length
    · rw [q1, upF_eq] at e1
      simp [Value.ownBlock] at e1
    by_cases q2 : t = st.all.length
    · rw [q2, upF_eq] at e2
      simp [Value.ownBlock] at e2
    · rw [upF_ne PV _ q1] at e1
      rw [upF_ne PV _ q2] at e2
      exact h.sq.ap s t k (by omega) (by omega) e1 e2
  · have e : (List.range (st.all ++ [x]).length).map (upF G st.all.length g) = (List.range st.all.length).map G ++ [g] := by
      rw [List.length_append, List.length_singleton, List.range_succ, List.map_append]
      congr 1
      · exact List.map_congr_left (fun a ha => upF_ne G g (by have := List.mem_range.mp ha; omega))
      · simp [upF_eq]
    rw [e]
    exact hR
/-- A place is put to a sequence. -/
theorem SqRel.put {W w w5 : World} {G : Nat → Nat} {PV : Nat → Value} {n : Nat} {np : Option Nat} {st : SqSt} {v v1 : Value} (h : SqRel W G PV n np st v w) (x : S36) (hx : st.all[st.now]? = some x) (i : Int)
    (hR : Kd.R (Kd.int .i64) 3 w5 (W.heap.size + 4) (fun _ => True) v1 (x.f0 ++ [i])) (hgr : w.grownBy w5 (PV st.now).ownBlock) (hat : v1.ownBlock = (PV st.now).ownBlock ∨ ∃ b, v1.ownBlock = some b ∧ w.heap.size ≤ b) :
    SqRel W G (upF PV st.now v1) n np ⟨st.all.modify st.now (fun s => { s with f0 := s.f0 ++ [i] }), st.now, st.last, st.wt⟩ v (w5.setCell ⟨G st.now, 0, none⟩ v1) := by
  have hs := h.be.size
  have l1 := blk_lt h.h14
  obtain ⟨g1, g2, g3⟩ := h.sq.at' _ _ hx
  have hlt : st.now < st.all.length := (List.getElem?_eq_some_iff.mp hx).1
  have hv : ∀ k, (PV st.now).ownBlock = some k → W.heap.size + 4 ≤ k := Kd.R_base g3
  have hty := Kd.R_typed g3
  have hne : ∀ k, k < W.heap.size + 4 → some k ≠ (PV st.now).ownBlock := fun k hk e => by have := hv k e.symm; omega
  have hn36 : ∀ (k : Nat) (C : Array Value), w.heap[k]? = some (.cells C 36 (0, 0)) → some k ≠ (PV st.now).ownBlock := fun k C hC e => by
    obtain ⟨D, hD⟩ := hty k e.symm
    rw [hC] at hD
    injection hD with hD
    injection hD with _ hD
    cases hD
  have hgG := blk_grown g2 hgr (hn36 _ _ g2)
  have far : ∀ k, k ≠ G st.now → (w5.setCell ⟨G st.now, 0, none⟩ v1).heap[k]? = w5.heap[k]? := fun k hk => Below.heap_setCell _ _ _ _ hk
  refine ⟨(h.be.grown hgr hs (fun j hj => by have := hv j hj; omega)).setCell (by show W.heap.size ≤ G st.now; omega) _, (far _ (by omega)).trans (blk_grown h.h11 hgr (hne _ (by omega))), (far _ (by omega)).trans (blk_grown h.h13 hgr (hne _ (by omega))), (far _ (by omega)).trans (blk_grown h.h14 hgr (hne _ (by omega))), ?_, ⟨fun s y hy => ?_, fun s t hs1 ht1 e => ?_, fun s t k hs1 ht1 e1 e2 => ?_⟩, ?_⟩
  · exact (h.mp.kept hgr (hne _ (by omega))).of_block (far _ (by omega))
  · rw [List.getElem?_modify] at hy
    by_cases q : st.now = s
    · subst q
      rw [hx] at hy
      simp at hy
      subst hy
      rw [upF_eq]
      refine ⟨g1, blk_put hgG 0 _ rfl, ?_⟩
      exact Kd.R_mono (Kd.R_far (p := ⟨G st.now, 0, none⟩) (Kd.R_types hR hgG (by decide)) (fun _ hk => hk.2) v1) (fun _ _ => trivial)
    · simp [q] at hy
      have hsl : s < st.all.length := (List.getElem?_eq_some_iff.mp hy).1
      obtain ⟨h1, h2, h3⟩ := h.sq.at' s y hy
      rw [upF_ne PV _ (fun e => q e.symm)]
      have hGs : G s ≠ G st.now := fun e => q (h.sq.nd s _ hsl hlt e).symm
      refine ⟨h1, (far _ hGs).trans (blk_grown h2 hgr (hn36 _ _ h2)), ?_⟩
      have h4 : Kd.R (Kd.int .i64) 3 w5 (W.heap.size + 4) (fun _ => True) (PV s) y.f0 := Kd.R_grown2 h3 rfl hgr (fun k e e2 => q (h.sq.ap s _ k hsl hlt e2.symm e).symm)
      exact Kd.R_mono (Kd.R_far (p := ⟨G st.now, 0, none⟩) (Kd.R_types h4 hgG (by decide)) (fun _ hk => hk.2) v1) (fun _ _ => trivial)
  · simp at hs1 ht1
    exact h.sq.nd s t hs1 ht1 e
  · simp at hs1 ht1
    have key : ∀ t, t < st.all.length → t ≠ st.now → (PV t).ownBlock = some k → v1.ownBlock = some k → False := fun t ht hq e3 e4 => by
      obtain ⟨y, hy⟩ : ∃ y, st.all[t]? = some y := ⟨_, List.getElem?_eq_getElem ht⟩
      obtain ⟨_, _, h3⟩ := h.sq.at' t y hy
      rcases hat with hat | ⟨b, hat, hbl⟩
      · exact hq (h.sq.ap t _ k ht hlt e3 (hat ▸ e4))
      · have := Kd.R_lt h3 k e3
        rw [hat] at e4
        injection e4 with e4
        omega
    by_cases q1 : s = st.now <;> by_cases q2 : t = st.now
    · omega
    · rw [q1, upF_eq] at e1
      rw [upF_ne PV _ q2] at e2
      exact (key t ht1 q2 e2 e1).elim
    · rw [q2, upF_eq] at e2
      rw [upF_ne PV _ q1] at e1
      exact (key s hs1 q1 e1 e2).elim
    · rw [upF_ne PV _ q1] at e1
      rw [upF_ne PV _ q2] at e2
      exact h.sq.ap s t k hs1 ht1 e1 e2
  · rw [List.length_modify]
    have h4 : Kd.R ptrK 60 w5 (W.heap.size + 4) (fun _ => True) v ((List.range st.all.length).map G) := Kd.R_over' h.al hty (by decide) hgr
    exact Kd.R_mono (Kd.R_far (p := ⟨G st.now, 0, none⟩) (Kd.R_types h4 hgG (by decide)) (fun _ hk => hk.2) v1) (fun _ _ => trivial)
/-- 'ends', whether there is a place ahead or not. -/
theorem ends_any (W w : World) (G : Nat → Nat) (PV : Nat → Value) (n g8 g3 c0 cm : Nat) (A0 Am : Option Addr) (l m : List Int) (st : SqSt) (v : Value) (h : SqRel W G PV n (if st.last < 0 then none else some (G st.now)) st v w)
    (hl0 : -1 ≤ st.last) (hl1 : st.last < l.length) (hml : m.length = l.length) (hmv : ∀ x ∈ m, -1 ≤ x ∧ x ≤ 1000000) (hn : n ≤ 1000000)
    (H8 : w.heap[g8]? = some (.cells #[.slice Am m.length cm] 33 (0, 0))) (H3 : w.heap[g3]? = some (.cells #[.slice A0 l.length c0] 22 (0, 0)))
    (hl : Kd.C (Kd.int .u8) w A0 l.length l) (hm : Kd.C (Kd.int .i64) w Am m.length m) :
    Calls Try.prog 22 #[.pointer (some ⟨W.heap.size + 3, 0, none⟩), .pointer (some ⟨g8, 0, none⟩), .pointer (some ⟨g3, 0, none⟩), .pointer (some ⟨W.heap.size + 2, 0, none⟩), .pointer (some ⟨W.heap.size + 1, 0, none⟩)] w
      fun e w' => e = .returned (.tuple #[]) ∧ SqRel W G PV (n + 1) (if st.last < 0 then none else some (G st.now)) ⟨st.all, st.now, st.last, sqWait l m st⟩ v w' := by
  by_cases q : st.last < 0
  · refine (ends_none _ g8 g3 _ _ st.last q w h.h14).mono ?_
    rintro e w' ⟨rfl, hw⟩
    obtain rfl := hw.symm
    refine ⟨rfl, ?_⟩
    have e1 : sqWait l m st = st.wt := if_neg (fun hc => by have := hc.1; omega)
    rw [e1]
    exact h.ends st.wt (n + 1) (h.mp.mono (Nat.le_succ _)) h.mp.turned
  · rw [if_neg q] at h ⊢
    refine (ends_some _ g8 g3 _ _ W.heap.size n c0 cm A0 Am l m _ (some (G st.now)) st.last (by omega) hl1 hml hmv hn w h.h14 H8 H3 h.h13 h.h11 hl hm h.mp).mono ?_
    rintro e w' ⟨rfl, hM, hT⟩
    refine ⟨rfl, h.ends _ (n + 1) ?_ hT⟩
    have e1 : (if iniC (rd l st.last) = true ∧ 0 ≤ rd m st.last then upW (fun k => (st.wt k).map G) (rd m st.last) (some (G st.now)) else fun k => (st.wt k).map G) = fun k => (sqWait l m st k).map G := by
      unfold sqWait
      by_cases hc : iniC (rd l st.last) = true ∧ 0 ≤ rd m st.last
      · rw [if_pos hc, if_pos ⟨by omega, hc.1, hc.2⟩]
        funext k
        unfold upW
        split <;> rfl
      · rw [if_neg hc, if_neg (fun h => hc h.2)]
    rw [← e1]
    exact hM
end Go.Proofs.Ytofiflhjlohakaa.X
