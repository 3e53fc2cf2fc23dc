import Derived.Test.YtofiflhjlohakaaT4
/-! runs.Sequences: what stands in its last loop. -/
namespace Go.Proofs.Ytofiflhjlohakaa.X
open Go.RowKit Go.Proofs.YtofiflhjlohakaaW.PrintWords Go.Proofs.YtofiflhjlohakaaW.PrintLast Go.Proofs.YtofiflhjlohakaaW.PrintMore
set_option linter.unusedVariables false
set_option linter.unusedSimpArgs false
/-- A row made with no element yet. -/
theorem S_made {α : Type} {d : Kd α} {e b0 : Nat} {w : World} {ok : Nat → Prop} {g n : Nat} (h : w.ownsRow b0 e d.sz (.slice (some ⟨g, 0, none⟩) 0 n) 0 []) (hok : ok g) : Kd.S d e w b0 ok (.slice (some ⟨g, 0, none⟩) 0 n) [] :=
  ⟨fun _ => 0, fun k hk => (by simp [Value.ownBlock] at hk; rw [← hk]; exact hok), [], h, Reps.none _ _⟩
/-- The sequences whose Eos is set already, and the others. -/
def done (eos : S36 → S36) (all : List S36) (j : Nat) : List S36 := (all.take j).map eos ++ all.drop j
theorem done_len (eos : S36 → S36) (all : List S36) (j : Nat) : (done eos all j).length = all.length := by
  unfold done; simp; omega
theorem done_at (eos : S36 → S36) (all : List S36) (j : Nat) (x : S36) (hx : all[j]? = some x) : (done eos all j)[j]? = some x := by
  have hl : j < all.length := (List.getElem?_eq_some_iff.mp hx).1
  unfold done
  rw [List.getElem?_append_right (by simp; omega), List.getElem?_drop]
  rw [show j + (j - (List.map eos (List.take j all)).length) = j by simp; omega]
  exact hx
theorem take_snoc {α : Type} (all : List α) (j : Nat) (x : α) (hx : all[j]? = some x) : all.take (j + 1) = all.take j ++ [x] := by
  rw [List.take_add_one, hx]; rfl
theorem drop_at {α : Type} (all : List α) (j : Nat) (x : α) (hx : all[j]? = some x) : all.drop j = x :: all.drop (j + 1) := by
  obtain ⟨hl, hq⟩ := List.getElem?_eq_some_iff.mp hx
  rw [List.drop_eq_getElem_cons hl, hq]
theorem done_next (eos : S36 → S36) (all : List S36) (j : Nat) (x : S36) (hx : all[j]? = some x) : done eos all (j + 1) = (done eos all j).set j (eos x) := by
  have hl : j < all.length := (List.getElem?_eq_some_iff.mp hx).1
  have e : (List.map eos (List.take j all)).length = j := by simp; omega
  unfold done
  rw [take_snoc all j x hx, drop_at all j x hx, List.map_append, List.set_append_right _ _ (by omega), e, Nat.sub_self]
  simp
/-- A field of a sequence is set. -/
theorem Seqs.set3 {w : World} {b0 : Nat} {G : Nat → Nat} {PV : Nat → Value} {all : List S36} (h : Seqs w b0 G PV all) (j : Nat) (x : S36) (hx : all[j]? = some x) (q : Int) :
    Seqs (w.setCell ⟨G j, 3, none⟩ (.int .u8 q)) b0 G PV (all.set j ⟨x.f0, x.f1, x.f2, q⟩) := by
  obtain ⟨g1, g2, g3⟩ := h.at' _ _ hx
  have hl : j < all.length := (List.getElem?_eq_some_iff.mp hx).1
  refine ⟨fun s y hy => ?_, fun s t hs ht e => h.nd s t (by simpa using hs) (by simpa using ht) e, fun s t k hs ht e1 e2 => h.ap s t k (by simpa using hs) (by simpa using ht) e1 e2⟩
  rw [List.getElem?_set] at hy
  by_cases e : j = s
  · subst e
    simp [hl] at hy
    subst hy
    exact ⟨g1, blk_put g2 3 _ rfl, Kd.R_set g3 g2 (by decide) 3 _⟩
  · rw [if_neg e] at hy
    obtain ⟨h1, h2, h3⟩ := h.at' s y hy
    have hs : s < all.length := (List.getElem?_eq_some_iff.mp hy).1
    have hne : G s ≠ G j := fun e2 => e (h.nd s j hs hl e2).symm
    exact ⟨h1, (Below.heap_setCell _ _ _ _ hne).trans h2, Kd.R_set h3 g2 (by decide) 3 _⟩
/-- A row of structs grows, that is none of the sequences. -/
theorem Seqs.over {w w1 : World} {b0 : Nat} {G : Nat → Nat} {PV : Nat → Value} {all : List S36} (h : Seqs w b0 G PV all) {v : Value} (hg : w.grownBy w1 v.ownBlock) (hty : ∀ k, v.ownBlock = some k → ∃ cells, w.heap[k]? = some (.cells cells 36 (0, 0))) (hG : ∀ s, s < all.length → some (G s) ≠ v.ownBlock) : Seqs w1 b0 G PV all := by
  refine ⟨fun s y hy => ?_, h.nd, h.ap⟩
  obtain ⟨h1, h2, h3⟩ := h.at' s y hy
  exact ⟨h1, blk_grown h2 hg (hG s (List.getElem?_eq_some_iff.mp hy).1), Kd.R_over' h3 hty (by decide) hg⟩
/-- The blocks that the told row may have: none of the sequences', none of the places of those that are still to come. -/
def outOk (G : Nat → Nat) (PV : Nat → Value) (n j : Nat) (k : Nat) : Prop := (∀ s, s < n → k ≠ G s) ∧ ∀ s, j ≤ s → s < n → (PV s).ownBlock ≠ some k
/-- What stands in the loop: j are done, i of them are told. -/
structure OutRel (b0 : Nat) (G : Nat → Nat) (PV : Nat → Value) (all : List S36) (eos : S36 → S36) (j i : Nat) (val vo : Value) (w : World) : Prop where
  sq : Seqs w b0 G PV (done eos all j)
  al : Kd.R ptrK 60 w b0 (fun _ => True) val ((List.range all.length).map G)
  ou : Kd.S k36 36 w b0 (outOk G PV all.length i) vo ((all.take i).map eos)
theorem OutRel.start {b0 : Nat} {G : Nat → Nat} {PV : Nat → Value} {all : List S36} (eos : S36 → S36) {val : Value} {w w1 : World} (h : Seqs w b0 G PV all) (hal : Kd.R ptrK 60 w b0 (fun _ => True) val ((List.range all.length).map G)) {n : Nat}
    (hown : w1.ownsRow b0 36 4 (.slice (some ⟨w.heap.size, 0, none⟩) 0 n) 0 []) (hg : w.grownBy w1 none) : OutRel b0 G PV all eos 0 0 val (.slice (some ⟨w.heap.size, 0, none⟩) 0 n) w1 := by
  have hk : ∀ k, b0 ≤ k → k < w.heap.size → w1.heap[k]? = w.heap[k]? := fun k _ hk => hg.block k hk (by simp)
  refine ⟨?_, R_stay hal hk, S_made (d := k36) hown ⟨fun s hs e => ?_, fun s _ hs e => ?_⟩⟩
  · have : done eos all 0 = all := by simp [done]
    rw [this]
    exact h.stay hk
  · have := blk_lt (h.at' s _ (List.getElem?_eq_getElem hs)).2.1
    omega
  · have := Kd.R_lt (h.at' s _ (List.getElem?_eq_getElem hs)).2.2 _ e
    omega
theorem OutRel.below {b0 : Nat} {G : Nat → Nat} {PV : Nat → Value} {all : List S36} {eos : S36 → S36} {j i : Nat} {val vo : Value} {w w1 : World} (h : OutRel b0 G PV all eos j i val vo w) (hb : Below w.heap.size w w1) : OutRel b0 G PV all eos j i val vo w1 :=
  ⟨h.sq.stay (fun k _ hk => hb.block k hk), R_stay h.al (fun k _ hk => hb.block k hk), Kd.S_below h.ou hb⟩
/-- Eos is set. -/
theorem OutRel.set3 {b0 : Nat} {G : Nat → Nat} {PV : Nat → Value} {all : List S36} {eos : S36 → S36} {j : Nat} {val vo : Value} {w : World} (h : OutRel b0 G PV all eos j j val vo w) (x : S36) (hx : all[j]? = some x) (q : Int) (he : eos x = ⟨x.f0, x.f1, x.f2, q⟩) :
    OutRel b0 G PV all eos (j + 1) j val vo (w.setCell ⟨G j, 3, none⟩ (.int .u8 q)) := by
  have hl : j < all.length := (List.getElem?_eq_some_iff.mp hx).1
  have hat := done_at eos all j x hx
  have g2 := (h.sq.at' _ _ hat).2.1
  refine ⟨?_, Kd.R_set h.al g2 (by decide) 3 _, Kd.S_far h.ou (p := ⟨G j, 3, none⟩) (fun k hk => hk.1 j hl) _⟩
  rw [done_next eos all j x hx, he]
  exact h.sq.set3 j x hat q
/-- What append asks. -/
theorem OutRel.ask {b0 : Nat} {G : Nat → Nat} {PV : Nat → Value} {all : List S36} {eos : S36 → S36} {j : Nat} {val vo : Value} {w : World} (h : OutRel b0 G PV all eos (j + 1) j val vo w) (x : S36) (hx : all[j]? = some x) (hp0 : ∀ y, (eos y).f0 = y.f0) :
    k36.M w b0 (fun k => some k = (PV j).ownBlock) (eos x) [PV j, .int .u8 (eos x).f1, .int .u8 (eos x).f2, .int .u8 (eos x).f3] ∧
    (∀ k, some k = (PV j).ownBlock → outOk G PV all.length (j + 1) k ∧ some k ≠ vo.ownBlock) ∧ (∀ k, w.heap.size ≤ k → outOk G PV all.length (j + 1) k) ∧
    Kd.S k36 36 w b0 (fun k => outOk G PV all.length (j + 1) k ∧ ¬ some k = (PV j).ownBlock) vo ((all.take j).map eos) := by
  have hl : j < all.length := (List.getElem?_eq_some_iff.mp hx).1
  have hat : (done eos all (j + 1))[j]? = some (eos x) := by
    rw [done_next eos all j x hx, List.getElem?_set]
    simp [done_len, hl]
  obtain ⟨g1, g2, g3⟩ := h.sq.at' _ _ hat
  have hty := Kd.R_typed g3
  have hn : ∀ s, s < all.length → ∃ y, (done eos all (j + 1))[s]? = some y := fun s hs => ⟨_, List.getElem?_eq_getElem (by rw [done_len]; exact hs)⟩
  refine ⟨k36_mkM w b0 _ (eos x) (Kd.R_tight rfl g3), fun k hk => ⟨⟨fun s hs e => ?_, fun s hj hs e => ?_⟩, fun e => ?_⟩, fun k hk => ⟨fun s hs e => ?_, fun s hj hs e => ?_⟩, Kd.S_mono h.ou (fun k hk => ⟨⟨hk.1, fun s hj hs => hk.2 s (by omega) hs⟩, fun e => hk.2 j (Nat.le_refl _) hl e.symm⟩)⟩
  · obtain ⟨y, hy⟩ := hn s hs
    obtain ⟨D, hD⟩ := hty k hk.symm
    have := (h.sq.at' s y hy).2.1
    rw [← e, hD] at this
    injection this with this
    injection this with _ this
    cases this
  · have := h.sq.ap s j k (by rw [done_len]; exact hs) (by rw [done_len]; exact hl) e hk.symm
    omega
  · obtain ⟨D, hD⟩ := hty k hk.symm
    obtain ⟨D', hD'⟩ := Kd.S_typed h.ou k e.symm
    rw [hD] at hD'
    injection hD' with hD'
    injection hD' with _ hD'
    cases hD'
  · obtain ⟨y, hy⟩ := hn s hs
    have := blk_lt (h.sq.at' s y hy).2.1
    omega
  · obtain ⟨y, hy⟩ := hn s hs
    have := Kd.R_lt (h.sq.at' s y hy).2.2 _ e
    omega
/-- .. and what it leaves. -/
theorem OutRel.app {b0 : Nat} {G : Nat → Nat} {PV : Nat → Value} {all : List S36} {eos : S36 → S36} {j : Nat} {val vo v1 : Value} {w w1 : World} (h : OutRel b0 G PV all eos (j + 1) j val vo w) (x : S36) (hx : all[j]? = some x)
    (hS : Kd.S k36 36 w1 b0 (outOk G PV all.length (j + 1)) v1 ((all.take j).map eos ++ [eos x])) (hg : w.grownBy w1 vo.ownBlock) : OutRel b0 G PV all eos (j + 1) (j + 1) val v1 w1 := by
  have hty := Kd.S_typed h.ou
  refine ⟨h.sq.over hg hty (fun s hs => ?_), Kd.R_over' h.al hty (by decide) hg, ?_⟩
  · rw [done_len] at hs
    exact Kd.S_away h.ou (fun k hk => hk.1 s hs)
  · rw [take_snoc all j x hx, List.map_append]
    exact hS
end Go.Proofs.Ytofiflhjlohakaa.X
