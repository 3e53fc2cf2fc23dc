import Derived.Test.YtofiflhjlohakaaL1
import Derived.RegionTactic
import Derived.ChangeAlike
/-! selvedgeref14's state: last, pop. -/
namespace Go.Proofs.Ytofiflhjlohakaa.X
open Go.RowKit Go.Proofs.YtofiflhjlohakaaW.PrintWords Go.Proofs.YtofiflhjlohakaaW.PrintLast Go.Proofs.YtofiflhjlohakaaW.PrintMore
attribute [local go_sem] max2_int min2_int max_two min_two max_three min_three max_four min_four
set_option linter.unusedVariables false
set_option linter.unusedSimpArgs false
/-- The reference's state in its block, its entries in theirs (both from block B on). -/
def HoldR (B : Nat) (w : World) (g : Nat) (a : Sk) : Prop := B ≤ g ∧ ∃ (gr cap : Nat) (cur : Array Value), w.heap[g]? = some (.cells #[.slice (some ⟨gr, 0, none⟩) a.es.length cap, .int .i64 a.iso, .int .i64 a.emb, .int .i64 a.val] 68 (0, 0)) ∧
  B ≤ gr ∧ w.heap[gr]? = some (.cells cur 65 (0, 0)) ∧ a.es.length ≤ cap ∧ cap ≤ maxLen ∧ cur.size = cap * 3 ∧ RepE cur a.es
/-- What is below B, or of another type, is as it was. -/
structure Fr (B : Nat) (W W' : World) : Prop where
  os : W'.os = W.os
  tape : W'.tape = W.tape
  output : W'.output = W.output
  size : W.heap.size ≤ W'.heap.size
  kept : ∀ k, k < W.heap.size → (k < B ∨ ∃ C t, W.heap[k]? = some (.cells C t (0, 0)) ∧ t ≠ 65 ∧ t ≠ 68) → W'.heap[k]? = W.heap[k]?
theorem Fr.refl (B : Nat) (W : World) : Fr B W W := ⟨rfl, rfl, rfl, Nat.le_refl _, fun _ _ _ => rfl⟩
theorem Fr.trans {B : Nat} {U V W : World} (h : Fr B U V) (k : Fr B V W) : Fr B U W :=
  ⟨k.os.trans h.os, k.tape.trans h.tape, k.output.trans h.output, Nat.le_trans h.size k.size, fun i hi hc => by
    have e := h.kept i hi hc
    refine (k.kept i (Nat.lt_of_lt_of_le hi h.size) ?_).trans e
    rcases hc with hc | ⟨C, t, h1, h2⟩
    · exact .inl hc
    · exact .inr ⟨C, t, e.trans h1, h2⟩⟩
theorem Fr.below {B : Nat} {W W' : World} (h : Below W.heap.size W W') : Fr B W W' := ⟨h.os, h.tape, h.output, h.size, fun i hi _ => h.block i hi⟩
theorem Fr.grown {B : Nat} {W W' : World} {g t : Nat} {C : Array Value} (h : W.grownBy W' (some g)) (hb : B ≤ g) (ht : W.heap[g]? = some (.cells C t (0, 0))) (h52 : t = 65 ∨ t = 68) : Fr B W W' :=
  ⟨h.os, h.tape, h.output, h.size, fun i hi hc => h.block i hi (fun e => by
    injection e with e
    subst e
    rcases hc with hc | ⟨C', t', h1, h2, h3⟩
    · omega
    · rw [ht] at h1
      injection h1 with h1
      injection h1 with _ h1
      rcases h52 with q | q
      · exact h2 (h1.symm.trans q)
      · exact h3 (h1.symm.trans q))⟩
theorem Fr.set {B : Nat} {W : World} {g t : Nat} {C : Array Value} (hb : B ≤ g) (ht : W.heap[g]? = some (.cells C t (0, 0))) (h52 : t = 65 ∨ t = 68) (i : Nat) (v : Value) : Fr B W (W.setCell ⟨g, i, none⟩ v) :=
  Fr.grown (grown_set W ⟨g, i, none⟩ v) hb ht h52
theorem Fr.at {B : Nat} {W W1 W2 : World} (h : Fr B W W1) (h1 : W2.heap = W1.heap) (h2 : W2.os = W1.os) (h3 : W2.tape = W1.tape) (h4 : W2.output = W1.output) : Fr B W W2 :=
  ⟨h2.trans h.os, h3.trans h.tape, h4.trans h.output, by rw [h1]; exact h.size, fun i hi hc => by rw [h1]; exact h.kept i hi hc⟩
theorem HoldR.below {B : Nat} {w w1 : World} {g : Nat} {a : Sk} (h : HoldR B w g a) (hb : Below w.heap.size w w1) : HoldR B w1 g a := by
  obtain ⟨h0, gr, cap, cur, h1, h2, h3, h4⟩ := h
  exact ⟨h0, gr, cap, cur, (hb.block g (blk_lt h1)).trans h1, h2, (hb.block gr (blk_lt h3)).trans h3, h4⟩
def EntV (e : Ent) : Value := .agg #[.int .u8 e.1, .int .u8 e.2.1, .bool e.2.2]
theorem size65 : (Try.prog.info? 65).map (·.size) = some 3 := by kernel_rfl
set_option maxHeartbeats 2000000 in
set_option maxRecDepth 100000 in
theorem last_w (g gr N cap : Nat) (cur : Array Value) (iso emb val lev ov : Int) (is : Bool) (hn0 : 1 ≤ N) (hn : N ≤ cap) (hcap : cap ≤ maxLen) (W : World) (hb : W.heap[g]? = some (.cells #[.slice (some ⟨gr, 0, none⟩) N cap, .int .i64 iso, .int .i64 emb, .int .i64 val] 68 (0, 0)))
    (hr : W.heap[gr]? = some (.cells cur 65 (0, 0))) (y0 : cur[(N - 1) * 3]? = some (.int .u8 lev)) (y1 : cur[(N - 1) * 3 + 1]? = some (.int .u8 ov)) (y2 : cur[(N - 1) * 3 + 2]? = some (.bool is)) :
    Calls Try.prog 28 #[.pointer (some ⟨g, 0, none⟩)] W fun e w' => RetV (EntV (lev, ov, is)) e (Below W.heap.size W w') := by
  have hb2 : (W.alloc (.cells #[.int .u8 0, .int .u8 0, .bool false] 65)).heap[g]? = some (.cells #[.slice (some ⟨gr, 0, none⟩) N cap, .int .i64 iso, .int .i64 emb, .int .i64 val] 68 (0, 0)) := (Below.heap_alloc W _ g (blk_lt hb)).trans hb
  have hr2 : (W.alloc (.cells #[.int .u8 0, .int .u8 0, .bool false] 65)).heap[gr]? = some (.cells cur 65 (0, 0)) := (Below.heap_alloc W _ gr (blk_lt hr)).trans hr
  have x0 := (blk_cell hb2 0).trans rfl
  have x1 := (blk_cell hr2 ((N - 1) * 3)).trans y0
  have x2 := (blk_cell hr2 ((N - 1) * 3 + 1)).trans y1
  have x3 := (blk_cell hr2 ((N - 1) * 3 + 2)).trans y2
  unfold maxLen at hcap
  have hw1 : -9223372036854775808 ≤ (N : Int) - 1 := by omega
  have hw2 : (N : Int) - 1 ≤ 9223372036854775807 := by omega
  have hsum : IntKind.i64.wrap ((N : Int) - 1) = (N : Int) - 1 := Go.IntWalk.i64_in _ (by omega)
  have p1 : (1 : Int) ≤ (N : Int) := by omega
  have p2 : (0 : Int) ≤ (N : Int) - 1 := by omega
  have p3 : N - 1 < N := by omega
  have p4 : (N : Int) - 1 < (N : Int) := by omega
  have ht : ((N : Int) - 1).toNat = N - 1 := by omega
  have HS2 : Aside0 (∀ o, (W.alloc o).cell? ⟨g, 0, none⟩ = some (.slice (some ⟨gr, 0, none⟩) N cap) ∧ (W.alloc o).cell? ⟨gr, (N - 1) * 3, none⟩ = some (.int .u8 lev) ∧ (W.alloc o).cell? ⟨gr, (N - 1) * 3 + 1, none⟩ = some (.int .u8 ov) ∧ (W.alloc o).cell? ⟨gr, (N - 1) * 3 + 2, none⟩ = some (.bool is)) := ⟨fun o => by
    have k1 := (Below.heap_alloc W o g (blk_lt hb)).trans hb
    have k2 := (Below.heap_alloc W o gr (blk_lt hr)).trans hr
    exact ⟨(blk_cell k1 0).trans rfl, (blk_cell k2 _).trans y0, (blk_cell k2 _).trans y1, (blk_cell k2 _).trans y2⟩⟩
  clear hb hr hb2 hr2 y0 y1 y2
  go_enter Try.func28, Try.ntmps28
  go_wp2
  go_region_held3 (fun w' => w'.cell? ⟨g, 0, none⟩ = some (.slice (some ⟨gr, 0, none⟩) N cap) ∧ w'.cell? ⟨gr, (N - 1) * 3, none⟩ = some (.int .u8 lev) ∧ w'.cell? ⟨gr, (N - 1) * 3 + 1, none⟩ = some (.int .u8 ov) ∧ w'.cell? ⟨gr, (N - 1) * 3 + 2, none⟩ = some (.bool is)) (first | exact ⟨x0, x1, x2, x3⟩ | exact HS2.out _) (fail)
  go_wp2
  refine bodyPost_ret (v := EntV (lev, ov, is)) (results_cell_row rfl _ _ W.heap.size 65 #[.int .u8 lev, .int .u8 ov, .bool is] (0, 0) _ rfl (heap_alloc_new W _) Try.underlying65 rfl size65) rfl ⟨rfl, ?_⟩
  exact below_drew1 (below_alloc (Below.refl _ _) _)
theorem last_c (B g : Nat) (a : Sk) (m : Int) (ha : Wf a m) (W : World) (h : HoldR B W g a) :
    Calls Try.prog 28 #[.pointer (some ⟨g, 0, none⟩)] W fun e w' => RetV (EntV (topA a)) e (Below W.heap.size W w') := by
  obtain ⟨h0, gr, cap, cur, h1, h2, h3, h4, h5, h6, h7⟩ := h
  obtain ⟨e, t, he, _⟩ := ha.ch.top
  rw [he] at h7 h4 h1
  have et : topA a = (e.1, e.2.1, e.2.2) := by unfold topA; rw [he]; rfl
  rw [et]
  have hl : (e :: t).length - 1 = t.length := by simp
  refine last_w g gr (e :: t).length cap cur _ _ _ _ _ _ (by simp) h4 h5 W h1 h3 ?_ ?_ ?_ <;> rw [hl]
  · exact h7.1
  · exact h7.2.1
  · exact h7.2.2.1
set_option maxHeartbeats 2000000 in
set_option maxRecDepth 100000 in
theorem pop_w (g gr N cap : Nat) (iso emb val : Int) (hn0 : 1 ≤ N) (hn : N ≤ cap) (hcap : cap ≤ maxLen) (W : World) (hb : W.heap[g]? = some (.cells #[.slice (some ⟨gr, 0, none⟩) N cap, .int .i64 iso, .int .i64 emb, .int .i64 val] 68 (0, 0))) :
    Calls Try.prog 36 #[.pointer (some ⟨g, 0, none⟩)] W fun e w' => Ret0 e (w'.heap[g]? = some (.cells #[.slice (some ⟨gr, 0, none⟩) (N - 1) cap, .int .i64 iso, .int .i64 emb, .int .i64 val] 68 (0, 0)) ∧ W.grownBy w' (some g)) := by
  have x0 := (blk_cell hb 0).trans rfl
  have f0 := blk_frozen hb 0
  have HB := Aside0.mk hb
  unfold maxLen at hcap
  have hw1 : -9223372036854775808 ≤ (N : Int) - 1 := by omega
  have hw2 : (N : Int) - 1 ≤ 9223372036854775807 := by omega
  have hsum : IntKind.i64.wrap ((N : Int) - 1) = (N : Int) - 1 := Go.IntWalk.i64_in _ (by omega)
  have p1 : (1 : Int) ≤ (N : Int) := by omega
  have p2 : (0 : Int) ≤ (N : Int) - 1 := by omega
  have p5 : (N : Int) - 1 ≤ (cap : Int) := by omega
  have p6 : N - 1 ≤ cap := by omega
  have ht : ((N : Int) - 1).toNat = N - 1 := by omega
  clear hb
  go_enter Try.func36, Try.ntmps36
  go_wp2
  go_region
  all_goals
    go_wp2
    go_end0
    exact ⟨rfl, (blk_set (w := W) HB.out 0 _).trans rfl, grown_at (grown_set W ⟨g, 0, none⟩ (.slice (some ⟨gr, 0, none⟩) (N - 1) cap)) rfl rfl rfl rfl⟩
theorem pop_c (B g : Nat) (a : Sk) (e : Ent) (t : List Ent) (he : a.es = e :: t) (W : World) (h : HoldR B W g a) :
    Calls Try.prog 36 #[.pointer (some ⟨g, 0, none⟩)] W fun e w' => Ret0 e (HoldR B w' g { a with es := t } ∧ Fr B W w') := by
  obtain ⟨h0, gr, cap, cur, h1, h2, h3, h4, h5, h6, h7⟩ := h
  rw [he] at h7 h4 h1
  refine (pop_w g gr (e :: t).length cap _ _ _ (by simp) h4 h5 W h1).mono ?_
  rintro e_ w' ⟨r1, r2, r3⟩
  have hne := blk_ne h3 h1 (by decide)
  simp only [List.length_cons, Nat.add_sub_cancel] at r2 h4
  exact ⟨r1, ⟨h0, gr, cap, cur, r2, h2, (r3.block gr (blk_lt h3) (fun e => hne (by injection e))).trans h3, by show t.length ≤ cap; omega, h5, h6, h7.2.2.2⟩, Fr.grown r3 h0 h1 (.inr rfl)⟩
end Go.Proofs.Ytofiflhjlohakaa.X

/-! selvedgeref14's state: push, way by way. -/
namespace Go.Proofs.Ytofiflhjlohakaa.X
open Go.RowKit Go.Proofs.YtofiflhjlohakaaW.PrintWords Go.Proofs.YtofiflhjlohakaaW.PrintLast Go.Proofs.YtofiflhjlohakaaW.PrintMore
attribute [local go_sem] max2_int min2_int max_two min_two max_three min_three max_four min_four
set_option linter.unusedVariables false
set_option linter.unusedSimpArgs false
theorem info65' : (Try.prog.info? 65).map (fun i => (i.zero, i.size, i.bytes)) = some (some (.agg #[.int .u8 0, .int .u8 0, .bool false]), 3, 3) := by kernel_rfl
theorem fld65_0 (W : World) (a b : Int) (c : Bool) : (Instr.field 65 (.agg #[.int .u8 a, .int .u8 b, .bool c]) 0).run Try.prog W = .ok (.int .u8 a) W := by kernel_rfl
theorem fld65_1 (W : World) (a b : Int) (c : Bool) : (Instr.field 65 (.agg #[.int .u8 a, .int .u8 b, .bool c]) 1).run Try.prog W = .ok (.int .u8 b) W := by kernel_rfl
theorem fld65_2 (W : World) (a b : Int) (c : Bool) : (Instr.field 65 (.agg #[.int .u8 a, .int .u8 b, .bool c]) 2).run Try.prog W = .ok (.bool c) W := by kernel_rfl
/-- The state's own block, its entries' row. -/
def RefB (W : World) (B g : Nat) (v : Value) (n : Nat) (iso emb val : Int) (xs : List Value) : Prop :=
  W.heap[g]? = some (.cells #[v, .int .i64 iso, .int .i64 emb, .int .i64 val] 68 (0, 0)) ∧ W.ownsRow B 65 3 v n xs
theorem RefB.below {W W' : World} {B g : Nat} {v : Value} {n : Nat} {iso emb val : Int} {xs : List Value} (h : RefB W B g v n iso emb val xs) (hb : Below W.heap.size W W') : RefB W' B g v n iso emb val xs :=
  ⟨(hb.block g (blk_lt h.1)).trans h.1, own_move h.2 (fun k hk => hb.block k (by obtain ⟨C, hC⟩ := own_typed h.2 k hk; exact blk_lt hC))⟩
theorem news3 (w : World) (a b c : Value) : ∀ (j : Nat) (u : Value), [a, b, c][j]? = some u → (w.alloc (.cells #[a, b, c] 65)).cell? ((⟨w.heap.size, 0, none⟩ : Addr).add j) = some u := by
  intro j u hj
  have hb := heap_alloc_new w (.cells #[a, b, c] 65)
  have e : (⟨w.heap.size, 0, none⟩ : Addr).add j = ⟨w.heap.size, j, none⟩ := by unfold Addr.add; split <;> simp_all
  rw [e, blk_cell hb]
  simpa using hj
/-- Behind the append: the state's block as it was; what is below B, or of another type, too. -/
theorem rpush_end {w1 w2 : World} {B g n : Nat} {v : Value} {iso emb val : Int} {xs : List Value} {o : Obj} (h : RefB w1 B g v n iso emb val xs) (hg : (w1.alloc o).grownBy w2 v.ownBlock) :
    w2.heap[g]? = some (.cells #[v, .int .i64 iso, .int .i64 emb, .int .i64 val] 68 (0, 0)) ∧ Fr B w1 w2 := by
  have hne : some g ≠ v.ownBlock := fun e => by
    obtain ⟨C, hC⟩ := own_typed h.2 g e.symm
    rw [h.1] at hC
    injection hC with hC
    injection hC with _ hC
    cases hC
  have hb := (Below.heap_alloc w1 o g (blk_lt h.1)).trans h.1
  refine ⟨(hg.block g (by simp; have := blk_lt h.1; omega) hne).trans hb, ?_⟩
  refine ⟨hg.os, hg.tape, hg.output, by have := hg.size; simp at this; omega, fun k hk hc => ?_⟩
  refine (hg.block k (by simp; omega) (fun e => ?_)).trans (Below.heap_alloc w1 o k hk)
  obtain ⟨C, hC⟩ := own_typed h.2 k e.symm
  rcases hc with hc | ⟨C', t', h1, h2, h3⟩
  · have := own_base h.2 k e.symm
    omega
  · rw [hC] at h1
    injection h1 with h1
    injection h1 with _ h1
    exact h2 h1.symm
theorem rpush_own {w : World} {B g n : Nat} {v : Value} {C : Array Value} {xs : List Value} (h : w.ownsRow B 65 3 v n xs) (hb : w.heap[g]? = some (.cells C 68 (0, 0))) (u : Value) : (w.setCell ⟨g, 0, none⟩ u).ownsRow B 65 3 v n xs := by
  refine own_move h (fun k hk => Below.heap_setCell w ⟨g, 0, none⟩ u k (fun e => ?_))
  obtain ⟨C', hC'⟩ := own_typed h k hk
  subst e
  rw [hb] at hC'
  injection hC' with hC'
  injection hC' with _ hC'
  cases hC'
set_option maxHeartbeats 2000000 in
set_option maxRecDepth 100000 in
theorem rpush_yes21 (B g : Nat) (W : World) (v : Value) (n : Nat) (lev ov c0 n1 ai ae av : Int) (is i : Bool) (xs : List Value) (hR : RefB W B g v n ai ae av xs) (hn : n ≤ 1000000) (hBW : B ≤ W.heap.size) (o : Int)
    (hl : Calls Try.prog 28 #[.pointer (some ⟨g, 0, none⟩)] W fun e w' => RetV (.agg #[.int .u8 lev, .int .u8 ov, .bool is]) e (Below W.heap.size W w'))
    (h1w : IntKind.u8.wrap (lev + 1) = n1) (h0 : 0 ≤ n1) (h2 : n1 % 2 = 1) (h2w : IntKind.u8.wrap (n1 + 1) = n1 + 1) (h4 : n1 ≤ 125) (hi0 : ai ≤ 0) (he0 : ae ≤ 0) (hBg : B ≤ g) :
    Calls Try.prog 37 #[.pointer (some ⟨g, 0, none⟩), .int .u8 2, .int .u8 o, .bool i] W fun e w' => RetB true e (∃ v' : Value, RefB w' B g v' (n + 1) ai ae av (xs ++ [.int .u8 n1, .int .u8 o, .bool i]) ∧ Fr B W w') := by
  have g2 : (Int.tmod n1 2 == 1) = true := by rw [Int.tmod_eq_emod_of_nonneg h0, h2]; rfl
  have g3 : (n1 % 2 == 1) = true := by rw [h2]; rfl
  have HR := Aside0.mk hR
  have HL := Aside0.mk hl
  have HG := Aside0.mk hBW
  have d6 : decide (125 < n1) = false := decide_eq_false (by omega)
  have d7 : decide (0 < ai) = false := decide_eq_false (by omega)
  have d8 : decide (0 < ae) = false := decide_eq_false (by omega)
  clear hi0 he0 h4
  clear hR hl h2 hBW
  have hf0 := fld65_0
  go_enter Try.func37, Try.ntmps37
  obtain ⟨i0, hi, hz0, hz1, hz2⟩ := info_parts info65'
  have HI := Aside0.mk (And.intro hi (And.intro hz0 (And.intro hz1 hz2)))
  clear hi hz0 hz1 hz2
  go_wp2_with (first
    | (go_at_call 28; refine (HL.out).mono ?_; rintro e w1 ⟨rfl, hb⟩; have HW := Aside0.mk hb; have x0 := (blk_cell (HR.out.below hb).1 0).trans rfl; have x1 := (blk_cell (HR.out.below hb).1 1).trans rfl; have x2 := (blk_cell (HR.out.below hb).1 2).trans rfl; clear hb)
    | (at_builtin; refine wpList_append_own _ rfl _ _ 66 rfl B 65 i0 (.agg #[.int .u8 0, .int .u8 0, .bool false]) 3 3 Try.underlying66 HI.out.1 HI.out.2.1 HI.out.2.2.1 HI.out.2.2.2 rfl (by decide) v n xs rfl ((HR.out.below HW.out).2.alloc _) ⟨w1.heap.size, 0, none⟩ 1 1 [.int .u8 n1, .int .u8 o, .bool i] rfl rfl ?c1 ?c2 ?c3 ?c4 ?c5 ?_))
  case c1 => exact news3 _ _ _ _
  case c2 => intro u hu; simp at hu; rcases hu with rfl | rfl | rfl <;> rfl
  case c3 => unfold maxLen; omega
  case c4 => omega
  case c5 => have := HW.out.size; have := HG.out; simp; omega
  intro v' w2 hown' hgrow _
  have HN := Aside0.mk (rpush_end (HR.out.below HW.out) hgrow)
  have y0 := (blk_cell HN.out.1 0).trans rfl
  have fz := blk_frozen HN.out.1 0
  have HO := Aside0.mk hown'
  have HV : Aside0 (∃ ao n' cap, v' = .slice ao n' cap) := ⟨by
    rcases hown'.2 with ⟨hv, _⟩ | ⟨g, cap, cur, hv, _⟩
    · exact ⟨_, _, _, hv⟩
    · exact ⟨_, _, _, hv⟩⟩
  obtain ⟨ao, n', cap', rfl⟩ := HV.out
  clear hown' hgrow HV
  go_wp2
  go_ret
  refine ⟨rfl, _, ⟨(blk_set HN.out.1 0 _).trans rfl, rpush_own HO.out HN.out.1 _⟩, ?_⟩
  exact (Fr.below HW.out).trans (HN.out.2.trans (Fr.set hBg HN.out.1 (.inr rfl) 0 _))
set_option maxHeartbeats 2000000 in
set_option maxRecDepth 100000 in
theorem rpush_deep21 (B g : Nat) (W : World) (v : Value) (n : Nat) (lev ov c0 n1 ai ae av : Int) (is i : Bool) (xs : List Value) (hR : RefB W B g v n ai ae av xs) (hn : n ≤ 1000000) (hBW : B ≤ W.heap.size) (o : Int)
    (hl : Calls Try.prog 28 #[.pointer (some ⟨g, 0, none⟩)] W fun e w' => RetV (.agg #[.int .u8 lev, .int .u8 ov, .bool is]) e (Below W.heap.size W w'))
    (h1w : IntKind.u8.wrap (lev + 1) = n1) (h0 : 0 ≤ n1) (h2 : n1 % 2 = 1) (h2w : IntKind.u8.wrap (n1 + 1) = n1 + 1) (h4 : 125 < n1) :
    Calls Try.prog 37 #[.pointer (some ⟨g, 0, none⟩), .int .u8 2, .int .u8 o, .bool i] W fun e w' => RetB false e (RefB w' B g v n ai ae av xs ∧ Fr B W w') := by
  have g2 : (Int.tmod n1 2 == 1) = true := by rw [Int.tmod_eq_emod_of_nonneg h0, h2]; rfl
  have g3 : (n1 % 2 == 1) = true := by rw [h2]; rfl
  have HR := Aside0.mk hR
  have HL := Aside0.mk hl
  have HG := Aside0.mk hBW
  have d6 : decide (125 < n1) = true := decide_eq_true (by omega)
  clear h4
  clear hR hl h2 hBW
  have hf0 := fld65_0
  go_enter Try.func37, Try.ntmps37
  go_wp2_with (go_at_call 28; refine (HL.out).mono ?_; rintro e w1 ⟨rfl, hb⟩; have HW := Aside0.mk hb; have x0 := (blk_cell (HR.out.below hb).1 0).trans rfl; have x1 := (blk_cell (HR.out.below hb).1 1).trans rfl; have x2 := (blk_cell (HR.out.below hb).1 2).trans rfl; clear hb)
  go_ret
  exact ⟨rfl, HR.out.below HW.out, Fr.below HW.out⟩
set_option maxHeartbeats 2000000 in
set_option maxRecDepth 100000 in
theorem rpush_iso21 (B g : Nat) (W : World) (v : Value) (n : Nat) (lev ov c0 n1 ai ae av : Int) (is i : Bool) (xs : List Value) (hR : RefB W B g v n ai ae av xs) (hn : n ≤ 1000000) (hBW : B ≤ W.heap.size) (o : Int)
    (hl : Calls Try.prog 28 #[.pointer (some ⟨g, 0, none⟩)] W fun e w' => RetV (.agg #[.int .u8 lev, .int .u8 ov, .bool is]) e (Below W.heap.size W w'))
    (h1w : IntKind.u8.wrap (lev + 1) = n1) (h0 : 0 ≤ n1) (h2 : n1 % 2 = 1) (h2w : IntKind.u8.wrap (n1 + 1) = n1 + 1) (h4 : n1 ≤ 125) (hi0 : 0 < ai) :
    Calls Try.prog 37 #[.pointer (some ⟨g, 0, none⟩), .int .u8 2, .int .u8 o, .bool i] W fun e w' => RetB false e (RefB w' B g v n ai ae av xs ∧ Fr B W w') := by
  have g2 : (Int.tmod n1 2 == 1) = true := by rw [Int.tmod_eq_emod_of_nonneg h0, h2]; rfl
  have g3 : (n1 % 2 == 1) = true := by rw [h2]; rfl
  have HR := Aside0.mk hR
  have HL := Aside0.mk hl
  have HG := Aside0.mk hBW
  have d6 : decide (125 < n1) = false := decide_eq_false (by omega)
  have d7 : decide (0 < ai) = true := decide_eq_true (by omega)
  clear h4 hi0
  clear hR hl h2 hBW
  have hf0 := fld65_0
  go_enter Try.func37, Try.ntmps37
  go_wp2_with (go_at_call 28; refine (HL.out).mono ?_; rintro e w1 ⟨rfl, hb⟩; have HW := Aside0.mk hb; have x0 := (blk_cell (HR.out.below hb).1 0).trans rfl; have x1 := (blk_cell (HR.out.below hb).1 1).trans rfl; have x2 := (blk_cell (HR.out.below hb).1 2).trans rfl; clear hb)
  go_ret
  exact ⟨rfl, HR.out.below HW.out, Fr.below HW.out⟩
set_option maxHeartbeats 2000000 in
set_option maxRecDepth 100000 in
theorem rpush_emb21 (B g : Nat) (W : World) (v : Value) (n : Nat) (lev ov c0 n1 ai ae av : Int) (is i : Bool) (xs : List Value) (hR : RefB W B g v n ai ae av xs) (hn : n ≤ 1000000) (hBW : B ≤ W.heap.size) (o : Int)
    (hl : Calls Try.prog 28 #[.pointer (some ⟨g, 0, none⟩)] W fun e w' => RetV (.agg #[.int .u8 lev, .int .u8 ov, .bool is]) e (Below W.heap.size W w'))
    (h1w : IntKind.u8.wrap (lev + 1) = n1) (h0 : 0 ≤ n1) (h2 : n1 % 2 = 1) (h2w : IntKind.u8.wrap (n1 + 1) = n1 + 1) (h4 : n1 ≤ 125) (hi0 : ai ≤ 0) (he0 : 0 < ae) :
    Calls Try.prog 37 #[.pointer (some ⟨g, 0, none⟩), .int .u8 2, .int .u8 o, .bool i] W fun e w' => RetB false e (RefB w' B g v n ai ae av xs ∧ Fr B W w') := by
  have g2 : (Int.tmod n1 2 == 1) = true := by rw [Int.tmod_eq_emod_of_nonneg h0, h2]; rfl
  have g3 : (n1 % 2 == 1) = true := by rw [h2]; rfl
  have HR := Aside0.mk hR
  have HL := Aside0.mk hl
  have HG := Aside0.mk hBW
  have d6 : decide (125 < n1) = false := decide_eq_false (by omega)
  have d7 : decide (0 < ai) = false := decide_eq_false (by omega)
  have d8 : decide (0 < ae) = true := decide_eq_true (by omega)
  clear h4 hi0 he0
  clear hR hl h2 hBW
  have hf0 := fld65_0
  go_enter Try.func37, Try.ntmps37
  go_wp2_with (go_at_call 28; refine (HL.out).mono ?_; rintro e w1 ⟨rfl, hb⟩; have HW := Aside0.mk hb; have x0 := (blk_cell (HR.out.below hb).1 0).trans rfl; have x1 := (blk_cell (HR.out.below hb).1 1).trans rfl; have x2 := (blk_cell (HR.out.below hb).1 2).trans rfl; clear hb)
  go_ret
  exact ⟨rfl, HR.out.below HW.out, Fr.below HW.out⟩
set_option maxHeartbeats 2000000 in
set_option maxRecDepth 100000 in
theorem rpush_yes20 (B g : Nat) (W : World) (v : Value) (n : Nat) (lev ov c0 n1 ai ae av : Int) (is i : Bool) (xs : List Value) (hR : RefB W B g v n ai ae av xs) (hn : n ≤ 1000000) (hBW : B ≤ W.heap.size) (o : Int)
    (hl : Calls Try.prog 28 #[.pointer (some ⟨g, 0, none⟩)] W fun e w' => RetV (.agg #[.int .u8 lev, .int .u8 ov, .bool is]) e (Below W.heap.size W w'))
    (h1w : IntKind.u8.wrap (lev + 1) = n1) (h0 : 0 ≤ n1) (h2 : n1 % 2 = 0) (h2w : IntKind.u8.wrap (n1 + 1) = n1 + 1) (h4 : (n1 + 1) ≤ 125) (hi0 : ai ≤ 0) (he0 : ae ≤ 0) (hBg : B ≤ g) :
    Calls Try.prog 37 #[.pointer (some ⟨g, 0, none⟩), .int .u8 2, .int .u8 o, .bool i] W fun e w' => RetB true e (∃ v' : Value, RefB w' B g v' (n + 1) ai ae av (xs ++ [.int .u8 (n1 + 1), .int .u8 o, .bool i]) ∧ Fr B W w') := by
  have g2 : (Int.tmod n1 2 == 1) = false := by rw [Int.tmod_eq_emod_of_nonneg h0, h2]; rfl
  have g3 : (n1 % 2 == 1) = false := by rw [h2]; rfl
  have HR := Aside0.mk hR
  have HL := Aside0.mk hl
  have HG := Aside0.mk hBW
  have d6 : decide (125 < (n1 + 1)) = false := decide_eq_false (by omega)
  have d7 : decide (0 < ai) = false := decide_eq_false (by omega)
  have d8 : decide (0 < ae) = false := decide_eq_false (by omega)
  clear hi0 he0 h4
  clear hR hl h2 hBW
  have hf0 := fld65_0
  go_enter Try.func37, Try.ntmps37
  obtain ⟨i0, hi, hz0, hz1, hz2⟩ := info_parts info65'
  have HI := Aside0.mk (And.intro hi (And.intro hz0 (And.intro hz1 hz2)))
  clear hi hz0 hz1 hz2
  go_wp2_with (first
    | (go_at_call 28; refine (HL.out).mono ?_; rintro e w1 ⟨rfl, hb⟩; have HW := Aside0.mk hb; have x0 := (blk_cell (HR.out.below hb).1 0).trans rfl; have x1 := (blk_cell (HR.out.below hb).1 1).trans rfl; have x2 := (blk_cell (HR.out.below hb).1 2).trans rfl; clear hb)
    | (at_builtin; refine wpList_append_own _ rfl _ _ 66 rfl B 65 i0 (.agg #[.int .u8 0, .int .u8 0, .bool false]) 3 3 Try.underlying66 HI.out.1 HI.out.2.1 HI.out.2.2.1 HI.out.2.2.2 rfl (by decide) v n xs rfl ((HR.out.below HW.out).2.alloc _) ⟨w1.heap.size, 0, none⟩ 1 1 [.int .u8 (n1 + 1), .int .u8 o, .bool i] rfl rfl ?c1 ?c2 ?c3 ?c4 ?c5 ?_))
  case c1 => exact news3 _ _ _ _
  case c2 => intro u hu; simp at hu; rcases hu with rfl | rfl | rfl <;> rfl
  case c3 => unfold maxLen; omega
  case c4 => omega
  case c5 => have := HW.out.size; have := HG.out; simp; omega
  intro v' w2 hown' hgrow _
  have HN := Aside0.mk (rpush_end (HR.out.below HW.out) hgrow)
  have y0 := (blk_cell HN.out.1 0).trans rfl
  have fz := blk_frozen HN.out.1 0
  have HO := Aside0.mk hown'
  have HV : Aside0 (∃ ao n' cap, v' = .slice ao n' cap) := ⟨by
    rcases hown'.2 with ⟨hv, _⟩ | ⟨g, cap, cur, hv, _⟩
    · exact ⟨_, _, _, hv⟩
    · exact ⟨_, _, _, hv⟩⟩
  obtain ⟨ao, n', cap', rfl⟩ := HV.out
  clear hown' hgrow HV
  go_wp2
  go_ret
  refine ⟨rfl, _, ⟨(blk_set HN.out.1 0 _).trans rfl, rpush_own HO.out HN.out.1 _⟩, ?_⟩
  exact (Fr.below HW.out).trans (HN.out.2.trans (Fr.set hBg HN.out.1 (.inr rfl) 0 _))
set_option maxHeartbeats 2000000 in
set_option maxRecDepth 100000 in
theorem rpush_deep20 (B g : Nat) (W : World) (v : Value) (n : Nat) (lev ov c0 n1 ai ae av : Int) (is i : Bool) (xs : List Value) (hR : RefB W B g v n ai ae av xs) (hn : n ≤ 1000000) (hBW : B ≤ W.heap.size) (o : Int)
    (hl : Calls Try.prog 28 #[.pointer (some ⟨g, 0, none⟩)] W fun e w' => RetV (.agg #[.int .u8 lev, .int .u8 ov, .bool is]) e (Below W.heap.size W w'))
    (h1w : IntKind.u8.wrap (lev + 1) = n1) (h0 : 0 ≤ n1) (h2 : n1 % 2 = 0) (h2w : IntKind.u8.wrap (n1 + 1) = n1 + 1) (h4 : 125 < (n1 + 1)) :
    Calls Try.prog 37 #[.pointer (some ⟨g, 0, none⟩), .int .u8 2, .int .u8 o, .bool i] W fun e w' => RetB false e (RefB w' B g v n ai ae av xs ∧ Fr B W w') := by
  have g2 : (Int.tmod n1 2 == 1) = false := by rw [Int.tmod_eq_emod_of_nonneg h0, h2]; rfl
  have g3 : (n1 % 2 == 1) = false := by rw [h2]; rfl
  have HR := Aside0.mk hR
  have HL := Aside0.mk hl
  have HG := Aside0.mk hBW
  have d6 : decide (125 < (n1 + 1)) = true := decide_eq_true (by omega)
  clear h4
  clear hR hl h2 hBW
  have hf0 := fld65_0
  go_enter Try.func37, Try.ntmps37
  go_wp2_with (go_at_call 28; refine (HL.out).mono ?_; rintro e w1 ⟨rfl, hb⟩; have HW := Aside0.mk hb; have x0 := (blk_cell (HR.out.below hb).1 0).trans rfl; have x1 := (blk_cell (HR.out.below hb).1 1).trans rfl; have x2 := (blk_cell (HR.out.below hb).1 2).trans rfl; clear hb)
  go_ret
  exact ⟨rfl, HR.out.below HW.out, Fr.below HW.out⟩
set_option maxHeartbeats 2000000 in
set_option maxRecDepth 100000 in
theorem rpush_iso20 (B g : Nat) (W : World) (v : Value) (n : Nat) (lev ov c0 n1 ai ae av : Int) (is i : Bool) (xs : List Value) (hR : RefB W B g v n ai ae av xs) (hn : n ≤ 1000000) (hBW : B ≤ W.heap.size) (o : Int)
    (hl : Calls Try.prog 28 #[.pointer (some ⟨g, 0, none⟩)] W fun e w' => RetV (.agg #[.int .u8 lev, .int .u8 ov, .bool is]) e (Below W.heap.size W w'))
    (h1w : IntKind.u8.wrap (lev + 1) = n1) (h0 : 0 ≤ n1) (h2 : n1 % 2 = 0) (h2w : IntKind.u8.wrap (n1 + 1) = n1 + 1) (h4 : (n1 + 1) ≤ 125) (hi0 : 0 < ai) :
    Calls Try.prog 37 #[.pointer (some ⟨g, 0, none⟩), .int .u8 2, .int .u8 o, .bool i] W fun e w' => RetB false e (RefB w' B g v n ai ae av xs ∧ Fr B W w') := by
  have g2 : (Int.tmod n1 2 == 1) = false := by rw [Int.tmod_eq_emod_of_nonneg h0, h2]; rfl
  have g3 : (n1 % 2 == 1) = false := by rw [h2]; rfl
  have HR := Aside0.mk hR
  have HL := Aside0.mk hl
  have HG := Aside0.mk hBW
  have d6 : decide (125 < (n1 + 1)) = false := decide_eq_false (by omega)
  have d7 : decide (0 < ai) = true := decide_eq_true (by omega)
  clear h4 hi0
  clear hR hl h2 hBW
  have hf0 := fld65_0
  go_enter Try.func37, Try.ntmps37
  go_wp2_with (go_at_call 28; refine (HL.out).mono ?_; rintro e w1 ⟨rfl, hb⟩; have HW := Aside0.mk hb; have x0 := (blk_cell (HR.out.below hb).1 0).trans rfl; have x1 := (blk_cell (HR.out.below hb).1 1).trans rfl; have x2 := (blk_cell (HR.out.below hb).1 2).trans rfl; clear hb)
  go_ret
  exact ⟨rfl, HR.out.below HW.out, Fr.below HW.out⟩
set_option maxHeartbeats 2000000 in
set_option maxRecDepth 100000 in
theorem rpush_emb20 (B g : Nat) (W : World) (v : Value) (n : Nat) (lev ov c0 n1 ai ae av : Int) (is i : Bool) (xs : List Value) (hR : RefB W B g v n ai ae av xs) (hn : n ≤ 1000000) (hBW : B ≤ W.heap.size) (o : Int)
    (hl : Calls Try.prog 28 #[.pointer (some ⟨g, 0, none⟩)] W fun e w' => RetV (.agg #[.int .u8 lev, .int .u8 ov, .bool is]) e (Below W.heap.size W w'))
    (h1w : IntKind.u8.wrap (lev + 1) = n1) (h0 : 0 ≤ n1) (h2 : n1 % 2 = 0) (h2w : IntKind.u8.wrap (n1 + 1) = n1 + 1) (h4 : (n1 + 1) ≤ 125) (hi0 : ai ≤ 0) (he0 : 0 < ae) :
    Calls Try.prog 37 #[.pointer (some ⟨g, 0, none⟩), .int .u8 2, .int .u8 o, .bool i] W fun e w' => RetB false e (RefB w' B g v n ai ae av xs ∧ Fr B W w') := by
  have g2 : (Int.tmod n1 2 == 1) = false := by rw [Int.tmod_eq_emod_of_nonneg h0, h2]; rfl
  have g3 : (n1 % 2 == 1) = false := by rw [h2]; rfl
  have HR := Aside0.mk hR
  have HL := Aside0.mk hl
  have HG := Aside0.mk hBW
  have d6 : decide (125 < (n1 + 1)) = false := decide_eq_false (by omega)
  have d7 : decide (0 < ai) = false := decide_eq_false (by omega)
  have d8 : decide (0 < ae) = true := decide_eq_true (by omega)
  clear h4 hi0 he0
  clear hR hl h2 hBW
  have hf0 := fld65_0
  go_enter Try.func37, Try.ntmps37
  go_wp2_with (go_at_call 28; refine (HL.out).mono ?_; rintro e w1 ⟨rfl, hb⟩; have HW := Aside0.mk hb; have x0 := (blk_cell (HR.out.below hb).1 0).trans rfl; have x1 := (blk_cell (HR.out.below hb).1 1).trans rfl; have x2 := (blk_cell (HR.out.below hb).1 2).trans rfl; clear hb)
  go_ret
  exact ⟨rfl, HR.out.below HW.out, Fr.below HW.out⟩
set_option maxHeartbeats 2000000 in
set_option maxRecDepth 100000 in
theorem rpush_yes11 (B g : Nat) (W : World) (v : Value) (n : Nat) (lev ov c0 n1 ai ae av : Int) (is i : Bool) (xs : List Value) (hR : RefB W B g v n ai ae av xs) (hn : n ≤ 1000000) (hBW : B ≤ W.heap.size) (o : Int)
    (hl : Calls Try.prog 28 #[.pointer (some ⟨g, 0, none⟩)] W fun e w' => RetV (.agg #[.int .u8 lev, .int .u8 ov, .bool is]) e (Below W.heap.size W w'))
    (h1w : IntKind.u8.wrap (lev + 1) = n1) (h0 : 0 ≤ n1) (h2 : n1 % 2 = 1) (h2w : IntKind.u8.wrap (n1 + 1) = n1 + 1) (h4 : (n1 + 1) ≤ 125) (hi0 : ai ≤ 0) (he0 : ae ≤ 0) (hBg : B ≤ g) :
    Calls Try.prog 37 #[.pointer (some ⟨g, 0, none⟩), .int .u8 1, .int .u8 o, .bool i] W fun e w' => RetB true e (∃ v' : Value, RefB w' B g v' (n + 1) ai ae av (xs ++ [.int .u8 (n1 + 1), .int .u8 o, .bool i]) ∧ Fr B W w') := by
  have g2 : (Int.tmod n1 2 == 1) = true := by rw [Int.tmod_eq_emod_of_nonneg h0, h2]; rfl
  have g3 : (n1 % 2 == 1) = true := by rw [h2]; rfl
  have HR := Aside0.mk hR
  have HL := Aside0.mk hl
  have HG := Aside0.mk hBW
  have d6 : decide (125 < (n1 + 1)) = false := decide_eq_false (by omega)
  have d7 : decide (0 < ai) = false := decide_eq_false (by omega)
  have d8 : decide (0 < ae) = false := decide_eq_false (by omega)
  clear hi0 he0 h4
  clear hR hl h2 hBW
  have hf0 := fld65_0
  go_enter Try.func37, Try.ntmps37
  obtain ⟨i0, hi, hz0, hz1, hz2⟩ := info_parts info65'
  have HI := Aside0.mk (And.intro hi (And.intro hz0 (And.intro hz1 hz2)))
  clear hi hz0 hz1 hz2
  go_wp2_with (first
    | (go_at_call 28; refine (HL.out).mono ?_; rintro e w1 ⟨rfl, hb⟩; have HW := Aside0.mk hb; have x0 := (blk_cell (HR.out.below hb).1 0).trans rfl; have x1 := (blk_cell (HR.out.below hb).1 1).trans rfl; have x2 := (blk_cell (HR.out.below hb).1 2).trans rfl; clear hb)
    | (at_builtin; refine wpList_append_own _ rfl _ _ 66 rfl B 65 i0 (.agg #[.int .u8 0, .int .u8 0, .bool false]) 3 3 Try.underlying66 HI.out.1 HI.out.2.1 HI.out.2.2.1 HI.out.2.2.2 rfl (by decide) v n xs rfl ((HR.out.below HW.out).2.alloc _) ⟨w1.heap.size, 0, none⟩ 1 1 [.int .u8 (n1 + 1), .int .u8 o, .bool i] rfl rfl ?c1 ?c2 ?c3 ?c4 ?c5 ?_))
  case c1 => exact news3 _ _ _ _
  case c2 => intro u hu; simp at hu; rcases hu with rfl | rfl | rfl <;> rfl
  case c3 => unfold maxLen; omega
  case c4 => omega
  case c5 => have := HW.out.size; have := HG.out; simp; omega
  intro v' w2 hown' hgrow _
  have HN := Aside0.mk (rpush_end (HR.out.below HW.out) hgrow)
  have y0 := (blk_cell HN.out.1 0).trans rfl
  have fz := blk_frozen HN.out.1 0
  have HO := Aside0.mk hown'
  have HV : Aside0 (∃ ao n' cap, v' = .slice ao n' cap) := ⟨by
    rcases hown'.2 with ⟨hv, _⟩ | ⟨g, cap, cur, hv, _⟩
    · exact ⟨_, _, _, hv⟩
    · exact ⟨_, _, _, hv⟩⟩
  obtain ⟨ao, n', cap', rfl⟩ := HV.out
  clear hown' hgrow HV
  go_wp2
  go_ret
  refine ⟨rfl, _, ⟨(blk_set HN.out.1 0 _).trans rfl, rpush_own HO.out HN.out.1 _⟩, ?_⟩
  exact (Fr.below HW.out).trans (HN.out.2.trans (Fr.set hBg HN.out.1 (.inr rfl) 0 _))
set_option maxHeartbeats 2000000 in
set_option maxRecDepth 100000 in
theorem rpush_deep11 (B g : Nat) (W : World) (v : Value) (n : Nat) (lev ov c0 n1 ai ae av : Int) (is i : Bool) (xs : List Value) (hR : RefB W B g v n ai ae av xs) (hn : n ≤ 1000000) (hBW : B ≤ W.heap.size) (o : Int)
    (hl : Calls Try.prog 28 #[.pointer (some ⟨g, 0, none⟩)] W fun e w' => RetV (.agg #[.int .u8 lev, .int .u8 ov, .bool is]) e (Below W.heap.size W w'))
    (h1w : IntKind.u8.wrap (lev + 1) = n1) (h0 : 0 ≤ n1) (h2 : n1 % 2 = 1) (h2w : IntKind.u8.wrap (n1 + 1) = n1 + 1) (h4 : 125 < (n1 + 1)) :
    Calls Try.prog 37 #[.pointer (some ⟨g, 0, none⟩), .int .u8 1, .int .u8 o, .bool i] W fun e w' => RetB false e (RefB w' B g v n ai ae av xs ∧ Fr B W w') := by
  have g2 : (Int.tmod n1 2 == 1) = true := by rw [Int.tmod_eq_emod_of_nonneg h0, h2]; rfl
  have g3 : (n1 % 2 == 1) = true := by rw [h2]; rfl
  have HR := Aside0.mk hR
  have HL := Aside0.mk hl
  have HG := Aside0.mk hBW
  have d6 : decide (125 < (n1 + 1)) = true := decide_eq_true (by omega)
  clear h4
  clear hR hl h2 hBW
  have hf0 := fld65_0
  go_enter Try.func37, Try.ntmps37
  go_wp2_with (go_at_call 28; refine (HL.out).mono ?_; rintro e w1 ⟨rfl, hb⟩; have HW := Aside0.mk hb; have x0 := (blk_cell (HR.out.below hb).1 0).trans rfl; have x1 := (blk_cell (HR.out.below hb).1 1).trans rfl; have x2 := (blk_cell (HR.out.below hb).1 2).trans rfl; clear hb)
  go_ret
  exact ⟨rfl, HR.out.below HW.out, Fr.below HW.out⟩
set_option maxHeartbeats 2000000 in
set_option maxRecDepth 100000 in
theorem rpush_iso11 (B g : Nat) (W : World) (v : Value) (n : Nat) (lev ov c0 n1 ai ae av : Int) (is i : Bool) (xs : List Value) (hR : RefB W B g v n ai ae av xs) (hn : n ≤ 1000000) (hBW : B ≤ W.heap.size) (o : Int)
    (hl : Calls Try.prog 28 #[.pointer (some ⟨g, 0, none⟩)] W fun e w' => RetV (.agg #[.int .u8 lev, .int .u8 ov, .bool is]) e (Below W.heap.size W w'))
    (h1w : IntKind.u8.wrap (lev + 1) = n1) (h0 : 0 ≤ n1) (h2 : n1 % 2 = 1) (h2w : IntKind.u8.wrap (n1 + 1) = n1 + 1) (h4 : (n1 + 1) ≤ 125) (hi0 : 0 < ai) :
    Calls Try.prog 37 #[.pointer (some ⟨g, 0, none⟩), .int .u8 1, .int .u8 o, .bool i] W fun e w' => RetB false e (RefB w' B g v n ai ae av xs ∧ Fr B W w') := by
  have g2 : (Int.tmod n1 2 == 1) = true := by rw [Int.tmod_eq_emod_of_nonneg h0, h2]; rfl
  have g3 : (n1 % 2 == 1) = true := by rw [h2]; rfl
  have HR := Aside0.mk hR
  have HL := Aside0.mk hl
  have HG := Aside0.mk hBW
  have d6 : decide (125 < (n1 + 1)) = false := decide_eq_false (by omega)
  have d7 : decide (0 < ai) = true := decide_eq_true (by omega)
  clear h4 hi0
  clear hR hl h2 hBW
  have hf0 := fld65_0
  go_enter Try.func37, Try.ntmps37
  go_wp2_with (go_at_call 28; refine (HL.out).mono ?_; rintro e w1 ⟨rfl, hb⟩; have HW := Aside0.mk hb; have x0 := (blk_cell (HR.out.below hb).1 0).trans rfl; have x1 := (blk_cell (HR.out.below hb).1 1).trans rfl; have x2 := (blk_cell (HR.out.below hb).1 2).trans rfl; clear hb)
  go_ret
  exact ⟨rfl, HR.out.below HW.out, Fr.below HW.out⟩
set_option maxHeartbeats 2000000 in
set_option maxRecDepth 100000 in
theorem rpush_emb11 (B g : Nat) (W : World) (v : Value) (n : Nat) (lev ov c0 n1 ai ae av : Int) (is i : Bool) (xs : List Value) (hR : RefB W B g v n ai ae av xs) (hn : n ≤ 1000000) (hBW : B ≤ W.heap.size) (o : Int)
    (hl : Calls Try.prog 28 #[.pointer (some ⟨g, 0, none⟩)] W fun e w' => RetV (.agg #[.int .u8 lev, .int .u8 ov, .bool is]) e (Below W.heap.size W w'))
    (h1w : IntKind.u8.wrap (lev + 1) = n1) (h0 : 0 ≤ n1) (h2 : n1 % 2 = 1) (h2w : IntKind.u8.wrap (n1 + 1) = n1 + 1) (h4 : (n1 + 1) ≤ 125) (hi0 : ai ≤ 0) (he0 : 0 < ae) :
    Calls Try.prog 37 #[.pointer (some ⟨g, 0, none⟩), .int .u8 1, .int .u8 o, .bool i] W fun e w' => RetB false e (RefB w' B g v n ai ae av xs ∧ Fr B W w') := by
  have g2 : (Int.tmod n1 2 == 1) = true := by rw [Int.tmod_eq_emod_of_nonneg h0, h2]; rfl
  have g3 : (n1 % 2 == 1) = true := by rw [h2]; rfl
  have HR := Aside0.mk hR
  have HL := Aside0.mk hl
  have HG := Aside0.mk hBW
  have d6 : decide (125 < (n1 + 1)) = false := decide_eq_false (by omega)
  have d7 : decide (0 < ai) = false := decide_eq_false (by omega)
  have d8 : decide (0 < ae) = true := decide_eq_true (by omega)
  clear h4 hi0 he0
  clear hR hl h2 hBW
  have hf0 := fld65_0
  go_enter Try.func37, Try.ntmps37
  go_wp2_with (go_at_call 28; refine (HL.out).mono ?_; rintro e w1 ⟨rfl, hb⟩; have HW := Aside0.mk hb; have x0 := (blk_cell (HR.out.below hb).1 0).trans rfl; have x1 := (blk_cell (HR.out.below hb).1 1).trans rfl; have x2 := (blk_cell (HR.out.below hb).1 2).trans rfl; clear hb)
  go_ret
  exact ⟨rfl, HR.out.below HW.out, Fr.below HW.out⟩
set_option maxHeartbeats 2000000 in
set_option maxRecDepth 100000 in
theorem rpush_yes10 (B g : Nat) (W : World) (v : Value) (n : Nat) (lev ov c0 n1 ai ae av : Int) (is i : Bool) (xs : List Value) (hR : RefB W B g v n ai ae av xs) (hn : n ≤ 1000000) (hBW : B ≤ W.heap.size) (o : Int)
    (hl : Calls Try.prog 28 #[.pointer (some ⟨g, 0, none⟩)] W fun e w' => RetV (.agg #[.int .u8 lev, .int .u8 ov, .bool is]) e (Below W.heap.size W w'))
    (h1w : IntKind.u8.wrap (lev + 1) = n1) (h0 : 0 ≤ n1) (h2 : n1 % 2 = 0) (h2w : IntKind.u8.wrap (n1 + 1) = n1 + 1) (h4 : n1 ≤ 125) (hi0 : ai ≤ 0) (he0 : ae ≤ 0) (hBg : B ≤ g) :
    Calls Try.prog 37 #[.pointer (some ⟨g, 0, none⟩), .int .u8 1, .int .u8 o, .bool i] W fun e w' => RetB true e (∃ v' : Value, RefB w' B g v' (n + 1) ai ae av (xs ++ [.int .u8 n1, .int .u8 o, .bool i]) ∧ Fr B W w') := by
  have g2 : (Int.tmod n1 2 == 1) = false := by rw [Int.tmod_eq_emod_of_nonneg h0, h2]; rfl
  have g3 : (n1 % 2 == 1) = false := by rw [h2]; rfl
  have HR := Aside0.mk hR
  have HL := Aside0.mk hl
  have HG := Aside0.mk hBW
  have d6 : decide (125 < n1) = false := decide_eq_false (by omega)
  have d7 : decide (0 < ai) = false := decide_eq_false (by omega)
  have d8 : decide (0 < ae) = false := decide_eq_false (by omega)
  clear hi0 he0 h4
  clear hR hl h2 hBW
  have hf0 := fld65_0
  go_enter Try.func37, Try.ntmps37
  obtain ⟨i0, hi, hz0, hz1, hz2⟩ := info_parts info65'
  have HI := Aside0.mk (And.intro hi (And.intro hz0 (And.intro hz1 hz2)))
  clear hi hz0 hz1 hz2
  go_wp2_with (first
    | (go_at_call 28; refine (HL.out).mono ?_; rintro e w1 ⟨rfl, hb⟩; have HW := Aside0.mk hb; have x0 := (blk_cell (HR.out.below hb).1 0).trans rfl; have x1 := (blk_cell (HR.out.below hb).1 1).trans rfl; have x2 := (blk_cell (HR.out.below hb).1 2).trans rfl; clear hb)
    | (at_builtin; refine wpList_append_own _ rfl _ _ 66 rfl B 65 i0 (.agg #[.int .u8 0, .int .u8 0, .bool false]) 3 3 Try.underlying66 HI.out.1 HI.out.2.1 HI.out.2.2.1 HI.out.2.2.2 rfl (by decide) v n xs rfl ((HR.out.below HW.out).2.alloc _) ⟨w1.heap.size, 0, none⟩ 1 1 [.int .u8 n1, .int .u8 o, .bool i] rfl rfl ?c1 ?c2 ?c3 ?c4 ?c5 ?_))
  case c1 => exact news3 _ _ _ _
  case c2 => intro u hu; simp at hu; rcases hu with rfl | rfl | rfl <;> rfl
  case c3 => unfold maxLen; omega
  case c4 => omega
  case c5 => have := HW.out.size; have := HG.out; simp; omega
  intro v' w2 hown' hgrow _
  have HN := Aside0.mk (rpush_end (HR.out.below HW.out) hgrow)
  have y0 := (blk_cell HN.out.1 0).trans rfl
  have fz := blk_frozen HN.out.1 0
  have HO := Aside0.mk hown'
  have HV : Aside0 (∃ ao n' cap, v' = .slice ao n' cap) := ⟨by
    rcases hown'.2 with ⟨hv, _⟩ | ⟨g, cap, cur, hv, _⟩
    · exact ⟨_, _, _, hv⟩
    · exact ⟨_, _, _, hv⟩⟩
  obtain ⟨ao, n', cap', rfl⟩ := HV.out
  clear hown' hgrow HV
  go_wp2
  go_ret
  refine ⟨rfl, _, ⟨(blk_set HN.out.1 0 _).trans rfl, rpush_own HO.out HN.out.1 _⟩, ?_⟩
  exact (Fr.below HW.out).trans (HN.out.2.trans (Fr.set hBg HN.out.1 (.inr rfl) 0 _))
set_option maxHeartbeats 2000000 in
set_option maxRecDepth 100000 in
theorem rpush_deep10 (B g : Nat) (W : World) (v : Value) (n : Nat) (lev ov c0 n1 ai ae av : Int) (is i : Bool) (xs : List Value) (hR : RefB W B g v n ai ae av xs) (hn : n ≤ 1000000) (hBW : B ≤ W.heap.size) (o : Int)
    (hl : Calls Try.prog 28 #[.pointer (some ⟨g, 0, none⟩)] W fun e w' => RetV (.agg #[.int .u8 lev, .int .u8 ov, .bool is]) e (Below W.heap.size W w'))
    (h1w : IntKind.u8.wrap (lev + 1) = n1) (h0 : 0 ≤ n1) (h2 : n1 % 2 = 0) (h2w : IntKind.u8.wrap (n1 + 1) = n1 + 1) (h4 : 125 < n1) :
    Calls Try.prog 37 #[.pointer (some ⟨g, 0, none⟩), .int .u8 1, .int .u8 o, .bool i] W fun e w' => RetB false e (RefB w' B g v n ai ae av xs ∧ Fr B W w') := by
  have g2 : (Int.tmod n1 2 == 1) = false := by rw [Int.tmod_eq_emod_of_nonneg h0, h2]; rfl
  have g3 : (n1 % 2 == 1) = false := by rw [h2]; rfl
  have HR := Aside0.mk hR
  have HL := Aside0.mk hl
  have HG := Aside0.mk hBW
  have d6 : decide (125 < n1) = true := decide_eq_true (by omega)
  clear h4
  clear hR hl h2 hBW
  have hf0 := fld65_0
  go_enter Try.func37, Try.ntmps37
  go_wp2_with (go_at_call 28; refine (HL.out).mono ?_; rintro e w1 ⟨rfl, hb⟩; have HW := Aside0.mk hb; have x0 := (blk_cell (HR.out.below hb).1 0).trans rfl; have x1 := (blk_cell (HR.out.below hb).1 1).trans rfl; have x2 := (blk_cell (HR.out.below hb).1 2).trans rfl; clear hb)
  go_ret
  exact ⟨rfl, HR.out.below HW.out, Fr.below HW.out⟩
set_option maxHeartbeats 2000000 in
set_option maxRecDepth 100000 in
theorem rpush_iso10 (B g : Nat) (W : World) (v : Value) (n : Nat) (lev ov c0 n1 ai ae av : Int) (is i : Bool) (xs : List Value) (hR : RefB W B g v n ai ae av xs) (hn : n ≤ 1000000) (hBW : B ≤ W.heap.size) (o : Int)
    (hl : Calls Try.prog 28 #[.pointer (some ⟨g, 0, none⟩)] W fun e w' => RetV (.agg #[.int .u8 lev, .int .u8 ov, .bool is]) e (Below W.heap.size W w'))
    (h1w : IntKind.u8.wrap (lev + 1) = n1) (h0 : 0 ≤ n1) (h2 : n1 % 2 = 0) (h2w : IntKind.u8.wrap (n1 + 1) = n1 + 1) (h4 : n1 ≤ 125) (hi0 : 0 < ai) :
    Calls Try.prog 37 #[.pointer (some ⟨g, 0, none⟩), .int .u8 1, .int .u8 o, .bool i] W fun e w' => RetB false e (RefB w' B g v n ai ae av xs ∧ Fr B W w') := by
  have g2 : (Int.tmod n1 2 == 1) = false := by rw [Int.tmod_eq_emod_of_nonneg h0, h2]; rfl
  have g3 : (n1 % 2 == 1) = false := by rw [h2]; rfl
  have HR := Aside0.mk hR
  have HL := Aside0.mk hl
  have HG := Aside0.mk hBW
  have d6 : decide (125 < n1) = false := decide_eq_false (by omega)
  have d7 : decide (0 < ai) = true := decide_eq_true (by omega)
  clear h4 hi0
  clear hR hl h2 hBW
  have hf0 := fld65_0
  go_enter Try.func37, Try.ntmps37
  go_wp2_with (go_at_call 28; refine (HL.out).mono ?_; rintro e w1 ⟨rfl, hb⟩; have HW := Aside0.mk hb; have x0 := (blk_cell (HR.out.below hb).1 0).trans rfl; have x1 := (blk_cell (HR.out.below hb).1 1).trans rfl; have x2 := (blk_cell (HR.out.below hb).1 2).trans rfl; clear hb)
  go_ret
  exact ⟨rfl, HR.out.below HW.out, Fr.below HW.out⟩
set_option maxHeartbeats 2000000 in
set_option maxRecDepth 100000 in
theorem rpush_emb10 (B g : Nat) (W : World) (v : Value) (n : Nat) (lev ov c0 n1 ai ae av : Int) (is i : Bool) (xs : List Value) (hR : RefB W B g v n ai ae av xs) (hn : n ≤ 1000000) (hBW : B ≤ W.heap.size) (o : Int)
    (hl : Calls Try.prog 28 #[.pointer (some ⟨g, 0, none⟩)] W fun e w' => RetV (.agg #[.int .u8 lev, .int .u8 ov, .bool is]) e (Below W.heap.size W w'))
    (h1w : IntKind.u8.wrap (lev + 1) = n1) (h0 : 0 ≤ n1) (h2 : n1 % 2 = 0) (h2w : IntKind.u8.wrap (n1 + 1) = n1 + 1) (h4 : n1 ≤ 125) (hi0 : ai ≤ 0) (he0 : 0 < ae) :
    Calls Try.prog 37 #[.pointer (some ⟨g, 0, none⟩), .int .u8 1, .int .u8 o, .bool i] W fun e w' => RetB false e (RefB w' B g v n ai ae av xs ∧ Fr B W w') := by
  have g2 : (Int.tmod n1 2 == 1) = false := by rw [Int.tmod_eq_emod_of_nonneg h0, h2]; rfl
  have g3 : (n1 % 2 == 1) = false := by rw [h2]; rfl
  have HR := Aside0.mk hR
  have HL := Aside0.mk hl
  have HG := Aside0.mk hBW
  have d6 : decide (125 < n1) = false := decide_eq_false (by omega)
  have d7 : decide (0 < ai) = false := decide_eq_false (by omega)
  have d8 : decide (0 < ae) = true := decide_eq_true (by omega)
  clear h4 hi0 he0
  clear hR hl h2 hBW
  have hf0 := fld65_0
  go_enter Try.func37, Try.ntmps37
  go_wp2_with (go_at_call 28; refine (HL.out).mono ?_; rintro e w1 ⟨rfl, hb⟩; have HW := Aside0.mk hb; have x0 := (blk_cell (HR.out.below hb).1 0).trans rfl; have x1 := (blk_cell (HR.out.below hb).1 1).trans rfl; have x2 := (blk_cell (HR.out.below hb).1 2).trans rfl; clear hb)
  go_ret
  exact ⟨rfl, HR.out.below HW.out, Fr.below HW.out⟩
end Go.Proofs.Ytofiflhjlohakaa.X

/-! selvedgeref14's state: push, embed, isolate, pdf, pdi, on the stack. -/
namespace Go.Proofs.Ytofiflhjlohakaa.X
open Go.RowKit Go.Proofs.YtofiflhjlohakaaW.PrintWords Go.Proofs.YtofiflhjlohakaaW.PrintLast Go.Proofs.YtofiflhjlohakaaW.PrintMore
attribute [local go_sem] max2_int min2_int max_two min_two max_three min_three max_four min_four
set_option linter.unusedVariables false
set_option linter.unusedSimpArgs false
theorem RepE.of {C C' : Array Value} : ∀ {es : List Ent} (h : RepE C es) (hs : ∀ j, j < es.length * 3 → C'[j]? = C[j]?), RepE C' es := by
  intro es
  induction es with
  | nil => intros; trivial
  | cons e t ih =>
    intro h hs
    simp only [List.length_cons] at hs
    obtain ⟨h1, h2, h3, h4⟩ := h
    exact ⟨(hs _ (by omega)).trans h1, (hs _ (by omega)).trans h2, (hs _ (by omega)).trans h3, ih h4 (fun j hj => hs j (by omega))⟩
theorem HoldR.ref {B : Nat} {W : World} {g : Nat} {a : Sk} (h : HoldR B W g a) : ∃ (v : Value) (cur : Array Value), RefB W B g v a.es.length a.iso a.emb a.val (cur.toList.take (a.es.length * 3)) ∧ RepE cur a.es ∧ B ≤ g ∧ a.es.length * 3 ≤ cur.size ∧ B ≤ W.heap.size := by
  obtain ⟨h0, gr, cap, cur, h1, h2, h3, h4, h5, h6, h7⟩ := h
  refine ⟨_, cur, ⟨h1, by rw [List.length_take, Array.length_toList]; omega, .inr ⟨gr, cap, cur, rfl, h2, h3, h4, h5, h6, rfl⟩⟩, h7, h0, by omega, ?_⟩
  have := blk_lt h1
  omega
theorem RefB.hold {B : Nat} {W : World} {g : Nat} {v : Value} {cur : Array Value} {a : Sk} (h : RefB W B g v a.es.length a.iso a.emb a.val (cur.toList.take (a.es.length * 3))) (hp : 0 < a.es.length) (hE : RepE cur a.es) (h0 : B ≤ g) (hs : a.es.length * 3 ≤ cur.size) : HoldR B W g a := by
  obtain ⟨h1, hl, h2⟩ := h
  rcases h2 with ⟨_, h2⟩ | ⟨gr, cap, cur', rfl, h3, h4, h5, h6, h7, h8⟩
  · omega
  · refine ⟨h0, gr, cap, cur', h1, h3, h4, h5, h6, h7, hE.of (fun j hj => ?_)⟩
    have e := congrArg (fun l : List Value => l[j]?) h8
    simp only [List.getElem?_take, if_pos hj, Array.getElem?_toList] at e
    exact e
theorem RefB.holdP {B : Nat} {W : World} {g : Nat} {v : Value} {cur : Array Value} {a : Sk} {e : Ent} (h : RefB W B g v (a.es.length + 1) a.iso a.emb a.val (cur.toList.take (a.es.length * 3) ++ [.int .u8 e.1, .int .u8 e.2.1, .bool e.2.2])) (hE : RepE cur a.es) (h0 : B ≤ g) (hs : a.es.length * 3 ≤ cur.size) : HoldR B W g { a with es := e :: a.es } := by
  obtain ⟨h1, hl, h2⟩ := h
  rcases h2 with ⟨_, h2⟩ | ⟨gr, cap, cur', rfl, h3, h4, h5, h6, h7, h8⟩
  · omega
  · have key : ∀ j, j < (a.es.length + 1) * 3 → cur'[j]? = (cur.toList.take (a.es.length * 3) ++ [.int .u8 e.1, .int .u8 e.2.1, .bool e.2.2])[j]? := fun j hj => by
      have e := congrArg (fun l : List Value => l[j]?) h8
      simp only [List.getElem?_take, if_pos hj, Array.getElem?_toList] at e
      exact e
    have hlt : (cur.toList.take (a.es.length * 3)).length = a.es.length * 3 := by rw [List.length_take, Array.length_toList]; omega
    refine ⟨h0, gr, cap, cur', h1, h3, h4, h5, h6, h7, ?_, ?_, ?_, hE.of (fun j hj => ?_)⟩
    · rw [key _ (by omega), List.getElem?_append_right (by omega), hlt, Nat.sub_self]; rfl
    · rw [key _ (by omega), List.getElem?_append_right (by omega), hlt, show a.es.length * 3 + 1 - a.es.length * 3 = 1 by omega]; rfl
    · rw [key _ (by omega), List.getElem?_append_right (by omega), hlt, show a.es.length * 3 + 2 - a.es.length * 3 = 2 by omega]; rfl
    · rw [key _ (by omega), List.getElem?_append_left (by omega), List.getElem?_take, if_pos hj, Array.getElem?_toList]
theorem rpush_c (B g : Nat) (a : Sk) (m : Int) (ha : Wf a m) (c o : Int) (hc : c = 1 ∨ c = 2) (i : Bool) (W : World) (h : HoldR B W g a) :
    Calls Try.prog 37 #[.pointer (some ⟨g, 0, none⟩), .int .u8 c, .int .u8 o, .bool i] W fun e w' => RetB (pushA a c o i).2 e (HoldR B w' g (pushA a c o i).1 ∧ Fr B W w') := by
  obtain ⟨v, cur, hR, hE, h0, hs, hBW⟩ := h.ref
  obtain ⟨e, t, he, h1, h2, h3, h4⟩ := ha.ch.top
  have hlen : a.es.length = t.length + 1 := by rw [he]; rfl
  have hn : a.es.length ≤ 1000000 := by omega
  have hi0 := ha.i0
  have he0 := ha.e0
  have hl := last_c B g a m ha W h
  have et : topA a = (e.1, e.2.1, e.2.2) := by unfold topA; rw [he]; rfl
  rw [et] at hl
  have w1 : IntKind.u8.wrap (e.1 + 1) = e.1 + 1 := by rw [IntKind.wrap_u8]; omega
  have w2 : IntKind.u8.wrap (e.1 + 1 + 1) = e.1 + 1 + 1 := by rw [IntKind.wrap_u8]; omega
  have key : ∀ n2 : Int, nxtLev e.1 c = n2 →
      (n2 ≤ 125 → a.iso ≤ 0 → a.emb ≤ 0 → Calls Try.prog 37 #[.pointer (some ⟨g, 0, none⟩), .int .u8 c, .int .u8 o, .bool i] W fun e w' => RetB true e (∃ v' : Value, RefB w' B g v' (a.es.length + 1) a.iso a.emb a.val (cur.toList.take (a.es.length * 3) ++ [.int .u8 n2, .int .u8 o, .bool i]) ∧ Fr B W w')) →
      (125 < n2 → Calls Try.prog 37 #[.pointer (some ⟨g, 0, none⟩), .int .u8 c, .int .u8 o, .bool i] W fun e w' => RetB false e (RefB w' B g v a.es.length a.iso a.emb a.val (cur.toList.take (a.es.length * 3)) ∧ Fr B W w')) →
      (n2 ≤ 125 → 0 < a.iso → Calls Try.prog 37 #[.pointer (some ⟨g, 0, none⟩), .int .u8 c, .int .u8 o, .bool i] W fun e w' => RetB false e (RefB w' B g v a.es.length a.iso a.emb a.val (cur.toList.take (a.es.length * 3)) ∧ Fr B W w')) →
      (n2 ≤ 125 → a.iso ≤ 0 → 0 < a.emb → Calls Try.prog 37 #[.pointer (some ⟨g, 0, none⟩), .int .u8 c, .int .u8 o, .bool i] W fun e w' => RetB false e (RefB w' B g v a.es.length a.iso a.emb a.val (cur.toList.take (a.es.length * 3)) ∧ Fr B W w')) →
      Calls Try.prog 37 #[.pointer (some ⟨g, 0, none⟩), .int .u8 c, .int .u8 o, .bool i] W fun e w' => RetB (pushA a c o i).2 e (HoldR B w' g (pushA a c o i).1 ∧ Fr B W w') := by
    intro n2 hn2 hy hd hiso hemb
    have no : ¬ (n2 ≤ 125 ∧ a.iso + a.emb ≤ 0) → pushA a c o i = (a, false) := fun q => by unfold pushA; rw [he]; simp only [hn2]; exact if_neg q
    by_cases q1 : n2 ≤ 125
    · by_cases q2 : 0 < a.iso
      · rw [no (fun q => by have := q.2; omega)]
        exact (hiso q1 q2).mono fun _ _ hh => ⟨hh.1, hh.2.1.hold (by omega) hE h0 hs, hh.2.2⟩
      · by_cases q3 : 0 < a.emb
        · rw [no (fun q => by have := q.2; omega)]
          exact (hemb q1 (by omega) q3).mono fun _ _ hh => ⟨hh.1, hh.2.1.hold (by omega) hE h0 hs, hh.2.2⟩
        · have hp : pushA a c o i = ({ a with es := (n2, o, i) :: a.es }, true) := by unfold pushA; rw [he]; simp only [hn2]; exact if_pos ⟨q1, by omega⟩
          rw [hp]
          refine (hy q1 (by omega) (by omega)).mono ?_
          rintro e_ w' ⟨r1, v', r2, r3⟩
          exact ⟨r1, RefB.holdP (e := (n2, o, i)) r2 hE h0 hs, r3⟩
    · rw [no (fun q => q1 q.1)]
      exact (hd (by omega)).mono fun _ _ hh => ⟨hh.1, hh.2.1.hold (by omega) hE h0 hs, hh.2.2⟩
  by_cases par : e.1 % 2 = 0
  · have b1 : (e.1 + 1) % 2 = 1 := by omega
    rcases hc with rfl | rfl
    · exact key (e.1 + 1 + 1) (by unfold nxtLev; rw [if_neg (by decide), if_pos par]; omega)
        (fun q q2 q3 => rpush_yes11 B g W v _ e.1 e.2.1 0 (e.1 + 1) a.iso a.emb a.val e.2.2 i _ hR hn hBW o hl w1 (by omega) b1 w2 q q2 q3 h0)
        (fun q => rpush_deep11 B g W v _ e.1 e.2.1 0 (e.1 + 1) a.iso a.emb a.val e.2.2 i _ hR hn hBW o hl w1 (by omega) b1 w2 q)
        (fun q q2 => rpush_iso11 B g W v _ e.1 e.2.1 0 (e.1 + 1) a.iso a.emb a.val e.2.2 i _ hR hn hBW o hl w1 (by omega) b1 w2 q q2)
        (fun q q2 q3 => rpush_emb11 B g W v _ e.1 e.2.1 0 (e.1 + 1) a.iso a.emb a.val e.2.2 i _ hR hn hBW o hl w1 (by omega) b1 w2 q q2 q3)
    · exact key (e.1 + 1) (by unfold nxtLev; rw [if_pos rfl, if_pos par])
        (fun q q2 q3 => rpush_yes21 B g W v _ e.1 e.2.1 0 (e.1 + 1) a.iso a.emb a.val e.2.2 i _ hR hn hBW o hl w1 (by omega) b1 w2 q q2 q3 h0)
        (fun q => rpush_deep21 B g W v _ e.1 e.2.1 0 (e.1 + 1) a.iso a.emb a.val e.2.2 i _ hR hn hBW o hl w1 (by omega) b1 w2 q)
        (fun q q2 => rpush_iso21 B g W v _ e.1 e.2.1 0 (e.1 + 1) a.iso a.emb a.val e.2.2 i _ hR hn hBW o hl w1 (by omega) b1 w2 q q2)
        (fun q q2 q3 => rpush_emb21 B g W v _ e.1 e.2.1 0 (e.1 + 1) a.iso a.emb a.val e.2.2 i _ hR hn hBW o hl w1 (by omega) b1 w2 q q2 q3)
  · have b1 : (e.1 + 1) % 2 = 0 := by omega
    rcases hc with rfl | rfl
    · exact key (e.1 + 1) (by unfold nxtLev; rw [if_neg (by decide), if_neg par])
        (fun q q2 q3 => rpush_yes10 B g W v _ e.1 e.2.1 0 (e.1 + 1) a.iso a.emb a.val e.2.2 i _ hR hn hBW o hl w1 (by omega) b1 w2 q q2 q3 h0)
        (fun q => rpush_deep10 B g W v _ e.1 e.2.1 0 (e.1 + 1) a.iso a.emb a.val e.2.2 i _ hR hn hBW o hl w1 (by omega) b1 w2 q)
        (fun q q2 => rpush_iso10 B g W v _ e.1 e.2.1 0 (e.1 + 1) a.iso a.emb a.val e.2.2 i _ hR hn hBW o hl w1 (by omega) b1 w2 q q2)
        (fun q q2 q3 => rpush_emb10 B g W v _ e.1 e.2.1 0 (e.1 + 1) a.iso a.emb a.val e.2.2 i _ hR hn hBW o hl w1 (by omega) b1 w2 q q2 q3)
    · exact key (e.1 + 1 + 1) (by unfold nxtLev; rw [if_pos rfl, if_neg par]; omega)
        (fun q q2 q3 => rpush_yes20 B g W v _ e.1 e.2.1 0 (e.1 + 1) a.iso a.emb a.val e.2.2 i _ hR hn hBW o hl w1 (by omega) b1 w2 q q2 q3 h0)
        (fun q => rpush_deep20 B g W v _ e.1 e.2.1 0 (e.1 + 1) a.iso a.emb a.val e.2.2 i _ hR hn hBW o hl w1 (by omega) b1 w2 q)
        (fun q q2 => rpush_iso20 B g W v _ e.1 e.2.1 0 (e.1 + 1) a.iso a.emb a.val e.2.2 i _ hR hn hBW o hl w1 (by omega) b1 w2 q q2)
        (fun q q2 q3 => rpush_emb20 B g W v _ e.1 e.2.1 0 (e.1 + 1) a.iso a.emb a.val e.2.2 i _ hR hn hBW o hl w1 (by omega) b1 w2 q q2 q3)
/-! a number of the state's is set -/
theorem HoldR.num {B : Nat} {W : World} {g : Nat} {a : Sk} (h : HoldR B W g a) (k : Nat) (x : Int) (a' : Sk) (he : a'.es = a.es) (hk : (k = 1 ∧ a' = { a with iso := x }) ∨ (k = 2 ∧ a' = { a with emb := x }) ∨ (k = 3 ∧ a' = { a with val := x })) :
    HoldR B (W.setCell ⟨g, k, none⟩ (.int .i64 x)) g a' ∧ Fr B W (W.setCell ⟨g, k, none⟩ (.int .i64 x)) := by
  obtain ⟨h0, gr, cap, cur, h1, h2, h3, h4, h5, h6, h7⟩ := h
  have hne := blk_ne h3 h1 (by decide)
  have hb := blk_set h1 k (.int .i64 x)
  refine ⟨⟨h0, gr, cap, cur, ?_, h2, blk_far h3 hne _, by rw [he]; exact h4, h5, h6, by rw [he]; exact h7⟩, Fr.set h0 h1 (.inr rfl) _ _⟩
  rw [hb]
  rcases hk with ⟨rfl, rfl⟩ | ⟨rfl, rfl⟩ | ⟨rfl, rfl⟩ <;> rfl
theorem HoldR.cells {B : Nat} {W : World} {g : Nat} {a : Sk} (h : HoldR B W g a) : W.cell? ⟨g, 1, none⟩ = some (.int .i64 a.iso) ∧ W.cell? ⟨g, 2, none⟩ = some (.int .i64 a.emb) ∧ W.cell? ⟨g, 3, none⟩ = some (.int .i64 a.val) ∧ (∀ k, W.frozen? ⟨g, k, none⟩ = false) ∧ (∃ gr cap, W.cell? ⟨g, 0, none⟩ = some (.slice (some ⟨gr, 0, none⟩) a.es.length cap)) := by
  obtain ⟨h0, gr, cap, cur, h1, _⟩ := h
  exact ⟨(blk_cell h1 1).trans rfl, (blk_cell h1 2).trans rfl, (blk_cell h1 3).trans rfl, fun k => blk_frozen h1 k, gr, cap, (blk_cell h1 0).trans rfl⟩
end Go.Proofs.Ytofiflhjlohakaa.X

/-! selvedgeref14's state: embed, isolate, pdf, pdi. -/
namespace Go.Proofs.Ytofiflhjlohakaa.X
open Go.RowKit Go.Proofs.YtofiflhjlohakaaW.PrintWords Go.Proofs.YtofiflhjlohakaaW.PrintLast Go.Proofs.YtofiflhjlohakaaW.PrintMore
attribute [local go_sem] max2_int min2_int max_two min_two max_three min_three max_four min_four
set_option linter.unusedVariables false
set_option linter.unusedSimpArgs false
set_option maxHeartbeats 2000000 in
set_option maxRecDepth 100000 in
theorem rembed_c (B g : Nat) (a : Sk) (m : Int) (hm : m ≤ 1000000) (ha : Wf a m) (c o : Int) (hc : c = 1 ∨ c = 2) (W : World) (h : HoldR B W g a) :
    Calls Try.prog 29 #[.pointer (some ⟨g, 0, none⟩), .int .u8 c, .int .u8 o] W fun e w' => Ret0 e (HoldR B w' g (embA a c o) ∧ Fr B W w') := by
  have hl := rpush_c B g a m ha c o hc false W h
  have hs := pushA_same a c o false
  have e0 := ha.e0
  have e1 := ha.e1
  have HE : Aside0 (∀ a1 b, pushA a c o false = (a1, b) → embA a c o = if b = false ∧ a1.iso = 0 then { a1 with emb := a1.emb + 1 } else a1) := ⟨fun a1 b h => by unfold embA; rw [h]⟩
  generalize hp : pushA a c o false = p at hl hs
  obtain ⟨a1, b⟩ := p
  replace HE := Aside0.mk (HE.out a1 b hp)
  obtain ⟨s1, s2, s3⟩ := hs
  simp only at s1 s2 s3
  have HL := Aside0.mk hl
  have b0 : a1.emb + 1 ≤ 9223372036854775807 := by omega
  have b2 : -9223372036854775808 ≤ a1.emb + 1 := by omega
  clear hl hp s1 s2 s3 ha h
  cases b with
  | true =>
    rw [if_neg (fun q => Bool.noConfusion q.1)] at HE
    go_enter Try.func29, Try.ntmps29
    go_wp2_with (go_at_call 37; refine (HL.out).mono ?_; rintro e w1 ⟨rfl, hH, hF⟩; have HN := Aside0.mk (And.intro hH hF); clear hH hF)
    go_end0
    exact ⟨rfl, by rw [HE.out]; exact HN.out.1, HN.out.2⟩
  | false =>
    by_cases hz : a1.iso = 0
    · have hzb : (a1.iso == 0) = true := by rw [hz]; rfl
      rw [if_pos ⟨rfl, hz⟩] at HE
      clear hz
      go_enter Try.func29, Try.ntmps29
      go_wp2_with (go_at_call 37; refine (HL.out).mono ?_; rintro e w1 ⟨rfl, hH, hF⟩; have HN := Aside0.mk (And.intro hH hF); obtain ⟨x1, x2, x3, fz, _⟩ := hH.cells; have f2 := fz 2; clear hH hF fz)
      go_end0
      have := HN.out.1.num 2 (a1.emb + 1) { a1 with emb := a1.emb + 1 } rfl (.inr (.inl ⟨rfl, rfl⟩))
      exact ⟨rfl, by rw [HE.out]; exact this.1, HN.out.2.trans this.2⟩
    · have hzb : (a1.iso == 0) = false := by simpa using hz
      rw [if_neg (fun q => hz q.2)] at HE
      clear hz
      go_enter Try.func29, Try.ntmps29
      go_wp2_with (go_at_call 37; refine (HL.out).mono ?_; rintro e w1 ⟨rfl, hH, hF⟩; have HN := Aside0.mk (And.intro hH hF); obtain ⟨x1, x2, x3, fz, _⟩ := hH.cells; clear hH hF fz)
      go_end0
      exact ⟨rfl, by rw [HE.out]; exact HN.out.1, HN.out.2⟩
set_option maxHeartbeats 2000000 in
set_option maxRecDepth 100000 in
theorem risolate_c (B g : Nat) (a : Sk) (m : Int) (hm : m ≤ 1000000) (ha : Wf a m) (c : Int) (hc : c = 1 ∨ c = 2) (W : World) (h : HoldR B W g a) :
    Calls Try.prog 31 #[.pointer (some ⟨g, 0, none⟩), .int .u8 c] W fun e w' => Ret0 e (HoldR B w' g (isoA a c) ∧ Fr B W w') := by
  have hl := rpush_c B g a m ha c 0 hc true W h
  have hs := pushA_same a c 0 true
  have i0 := ha.i0
  have i1 := ha.i1
  have hv0 := isoN_nonneg a.es
  have hv1 := isoN_le a.es
  have hvl := ha.vl
  obtain ⟨e, t, he, h1, h2, h3, h4⟩ := ha.ch.top
  have hlen : a.es.length = t.length + 1 := by rw [he]; rfl
  have HE : Aside0 (∀ a1 b, pushA a c 0 true = (a1, b) → isoA a c = if b = true then { a1 with val := a1.val + 1 } else { a1 with iso := a1.iso + 1 }) := ⟨fun a1 b h => by unfold isoA; rw [h]⟩
  generalize hp : pushA a c 0 true = p at hl hs
  obtain ⟨a1, b⟩ := p
  replace HE := Aside0.mk (HE.out a1 b hp)
  obtain ⟨s1, s2, s3⟩ := hs
  simp only at s1 s2 s3
  have HL := Aside0.mk hl
  have b0 : a1.iso + 1 ≤ 9223372036854775807 := by omega
  have b2 : -9223372036854775808 ≤ a1.iso + 1 := by omega
  have b1 : a1.val + 1 ≤ 9223372036854775807 := by omega
  have b3 : -9223372036854775808 ≤ a1.val + 1 := by omega
  clear hl hp s1 s2 s3 ha h hv0 hv1 hvl hlen he h1 h2 h3 h4
  cases b with
  | true =>
    rw [if_pos rfl] at HE
    go_enter Try.func31, Try.ntmps31
    go_wp2_with (go_at_call 37; refine (HL.out).mono ?_; rintro e w1 ⟨rfl, hH, hF⟩; have HN := Aside0.mk (And.intro hH hF); obtain ⟨x1, x2, x3, fz, _⟩ := hH.cells; have f3 := fz 3; clear hH hF fz)
    go_end0
    have := HN.out.1.num 3 (a1.val + 1) { a1 with val := a1.val + 1 } rfl (.inr (.inr ⟨rfl, rfl⟩))
    exact ⟨rfl, by rw [HE.out]; exact this.1, HN.out.2.trans this.2⟩
  | false =>
    rw [if_neg (fun q => Bool.noConfusion q)] at HE
    go_enter Try.func31, Try.ntmps31
    go_wp2_with (go_at_call 37; refine (HL.out).mono ?_; rintro e w1 ⟨rfl, hH, hF⟩; have HN := Aside0.mk (And.intro hH hF); obtain ⟨x1, x2, x3, fz, _⟩ := hH.cells; have f1 := fz 1; clear hH hF fz)
    go_end0
    have := HN.out.1.num 1 (a1.iso + 1) { a1 with iso := a1.iso + 1 } rfl (.inl ⟨rfl, rfl⟩)
    exact ⟨rfl, by rw [HE.out]; exact this.1, HN.out.2.trans this.2⟩
set_option maxHeartbeats 2000000 in
set_option maxRecDepth 100000 in
theorem rpdf_c (B g : Nat) (a : Sk) (m : Int) (hm : m ≤ 1000000) (ha : Wf a m) (W : World) (h : HoldR B W g a) :
    Calls Try.prog 30 #[.pointer (some ⟨g, 0, none⟩)] W fun e w' => Ret0 e (HoldR B w' g (pdfA a) ∧ Fr B W w') := by
  obtain ⟨x1, x2, x3, fz, gr, cap, x0⟩ := h.cells
  have f2 := fz 2
  clear fz
  have HH := Aside0.mk h
  have he1 := ha.e1
  by_cases q1 : 0 < a.iso
  · have d1 : decide (0 < a.iso) = true := decide_eq_true q1
    have e1 : pdfA a = a := if_pos q1
    rw [e1]
    clear e1 q1 h ha
    go_enter Try.func30, Try.ntmps30
    go_wp2
    go_end0
    exact ⟨rfl, HH.out, Fr.refl _ _⟩
  have d1 : decide (0 < a.iso) = false := decide_eq_false q1
  by_cases q2 : 0 < a.emb
  · have d2 : decide (0 < a.emb) = true := decide_eq_true q2
    have e1 : pdfA a = { a with emb := a.emb - 1 } := (if_neg q1).trans (if_pos q2)
    rw [e1]
    have hw : -9223372036854775808 ≤ a.emb - 1 := by omega
    have hw1 : a.emb - 1 ≤ 9223372036854775807 := by omega
    clear e1 q1 q2 h ha
    go_enter Try.func30, Try.ntmps30
    go_wp2
    go_end0
    exact ⟨rfl, HH.out.num 2 (a.emb - 1) { a with emb := a.emb - 1 } rfl (.inr (.inl ⟨rfl, rfl⟩))⟩
  have d2 : decide (0 < a.emb) = false := decide_eq_false q2
  obtain ⟨e, t, he, h1, h2, h3, h4⟩ := ha.ch.top
  have HL := Aside0.mk (last_c B g a m ha W h)
  have et : topA a = (e.1, e.2.1, e.2.2) := by unfold topA; rw [he]; rfl
  rw [et] at HL
  unfold EntV at HL
  simp only at HL
  have hf2 := fld65_2
  have hEs : pdfA a = match a.es with
    | e :: f :: t => if e.2.2 = true then a else { a with es := f :: t }
    | _ => a := (if_neg q1).trans (if_neg q2)
  rw [he] at hEs
  cases hq : e.2.2 with
  | true =>
    rw [hq] at HL
    have e1 : pdfA a = a := by
      rw [hEs]
      cases t with
      | nil => rfl
      | cons f t => simp only; rw [if_pos hq]
    rw [e1]
    clear e1 hEs q1 q2 h ha he h1 h2 h3 h4 et hq
    go_enter Try.func30, Try.ntmps30
    go_wp2_with (go_at_call 28; refine (HL.out).mono ?_; rintro e w1 ⟨rfl, hb⟩; have HW := Aside0.mk (And.intro (HH.out.below hb) (Fr.below (B := B) hb)); clear hb)
    go_end0
    exact ⟨rfl, HW.out⟩
  | false =>
    rw [hq] at HL
    cases t with
    | nil =>
      have e1 : pdfA a = a := hEs
      rw [e1]
      have hl1 : a.es.length = 1 := by rw [he]; rfl
      rw [hl1] at x0
      have HX : Aside0 (W.cell? ⟨g, 0, none⟩ = some (.slice (some ⟨gr, 0, none⟩) 1 cap)) := ⟨x0⟩
      clear e1 hEs q1 q2 h ha he h1 h2 h3 h4 et hq hl1 x0
      go_enter Try.func30, Try.ntmps30
      go_wp2_with (go_at_call 28; refine (HL.out).mono ?_; rintro e w1 ⟨rfl, hb⟩; have HW := Aside0.mk (And.intro (HH.out.below hb) (Fr.below (B := B) hb)); have y0 := (hb.cell (World.block_lt_of_cell? W _ HX.out)).trans HX.out; clear hb)
      go_end0
      exact ⟨rfl, HW.out⟩
    | cons f t =>
      have e1 : pdfA a = { a with es := f :: t } := by rw [hEs]; simp only; rw [if_neg (by rw [hq]; decide)]
      rw [e1]
      have hl1 : a.es.length = t.length + 2 := by rw [he]; rfl
      rw [hl1] at x0
      have HX : Aside0 (W.cell? ⟨g, 0, none⟩ = some (.slice (some ⟨gr, 0, none⟩) (t.length + 2) cap)) := ⟨x0⟩
      have d3 : decide ((1 : Int) < ((t.length + 2 : Nat) : Int)) = true := decide_eq_true (by omega)
      have d3b : decide (1 < t.length + 2) = true := decide_eq_true (by omega)
      have d3c : (1 : Int) < ((t.length + 2 : Nat) : Int) := by omega
      have d3d : 1 < t.length + 2 := by omega
      have HP := Aside0.mk he
      clear e1 hEs q1 q2 h ha he h1 h2 h3 h4 et hq hl1 x0
      generalize t.length + 2 = N at HX d3 d3b d3c d3d
      go_enter Try.func30, Try.ntmps30
      go_wp2_with (first
        | (go_at_call 28; refine (HL.out).mono ?_; rintro e w1 ⟨rfl, hb⟩; have HW := Aside0.mk (And.intro (HH.out.below hb) (Fr.below (B := B) hb)); have y0 := (hb.cell (World.block_lt_of_cell? W _ HX.out)).trans HX.out; clear hb)
        | (go_at_call 36; refine (pop_c B g a _ _ HP.out _ HW.out.1).mono ?_; rintro e w2 ⟨rfl, hH, hF⟩; have HN := Aside0.mk (And.intro hH hF); clear hH hF))
      go_end0
      exact ⟨rfl, HN.out.1, HW.out.2.trans HN.out.2⟩
end Go.Proofs.Ytofiflhjlohakaa.X

/-! selvedgeref14's state: pdi. -/
namespace Go.Proofs.Ytofiflhjlohakaa.X
open Go.RowKit Go.Proofs.YtofiflhjlohakaaW.PrintWords Go.Proofs.YtofiflhjlohakaaW.PrintLast Go.Proofs.YtofiflhjlohakaaW.PrintMore
attribute [local go_sem] max2_int min2_int max_two min_two max_three min_three max_four min_four
set_option linter.unusedVariables false
set_option linter.unusedSimpArgs false
def RpdiR (B g : Nat) (a : Sk) (m : Int) (W wr : World) : Prop := ∃ es : List Ent, HoldR B wr g { a with es := es } ∧ popI es = popI a.es ∧ 0 < isoN es ∧ Wf { a with es := es } m ∧ Fr B W wr
def slen (w : World) (g : Nat) : Nat := match w.cell? ⟨g, 0, none⟩ with
  | some (.slice _ n _) => n
  | _ => 0
theorem slen_of {B : Nat} {w : World} {g : Nat} {a : Sk} (h : HoldR B w g a) : slen w g = a.es.length := by
  obtain ⟨_, _, _, _, gr, cap, hc⟩ := h.cells
  unfold slen
  rw [hc]
set_option maxHeartbeats 2000000 in
set_option maxRecDepth 100000 in
theorem rpdi_c (B g : Nat) (a : Sk) (m : Int) (hm0 : 0 ≤ m) (hm : m ≤ 1000000) (ha : Wf a m) (W : World) (h : HoldR B W g a) :
    Calls Try.prog 27 #[.pointer (some ⟨g, 0, none⟩)] W fun e w' => Ret0 e (HoldR B w' g (pdiA a) ∧ Fr B W w') := by
  obtain ⟨x1, x2, x3, fz, gr, cap, x0⟩ := h.cells
  have f1 := fz 1
  have f2 := fz 2
  clear fz
  have HH := Aside0.mk h
  have hi1 := ha.i1
  by_cases q1 : 0 < a.iso
  · have d1 : decide (0 < a.iso) = true := decide_eq_true q1
    have e1 : pdiA a = { a with iso := a.iso - 1 } := if_pos q1
    rw [e1]
    have hw : -9223372036854775808 ≤ a.iso - 1 := by omega
    have hw1 : a.iso - 1 ≤ 9223372036854775807 := by omega
    clear e1 q1 h ha
    go_enter Try.func27, Try.ntmps27
    go_wp2
    first | go_end0 | refine bodyPost_ret (results_none rfl _ _ _) rfl ?_
    exact ⟨rfl, HH.out.num 1 (a.iso - 1) { a with iso := a.iso - 1 } rfl (.inl ⟨rfl, rfl⟩)⟩
  have d1 : decide (0 < a.iso) = false := decide_eq_false q1
  by_cases q2 : a.val = 0
  · have d2 : (a.val == 0) = true := by rw [q2]; rfl
    have e1 : pdiA a = a := (if_neg q1).trans (if_pos q2)
    rw [e1]
    clear e1 q1 q2 h ha
    go_enter Try.func27, Try.ntmps27
    go_wp2
    first | go_end0 | refine bodyPost_ret (results_none rfl _ _ _) rfl ?_
    exact ⟨rfl, HH.out, Fr.refl _ _⟩
  have d2 : (a.val == 0) = false := by simpa using q2
  have e1 : pdiA a = { a with emb := 0, val := a.val - 1, es := popI a.es } := (if_neg q1).trans (if_neg q2)
  rw [e1]
  have hv := ha.vl
  have hv0 := isoN_nonneg a.es
  have hv1 := isoN_le a.es
  obtain ⟨e, t, he, h1, h2, h3, h4⟩ := ha.ch.top
  have hlen : a.es.length = t.length + 1 := by rw [he]; rfl
  have hw : -9223372036854775808 ≤ a.val - 1 := by omega
  have hw1 : a.val - 1 ≤ 9223372036854775807 := by omega
  have hn := h.num 2 0 { a with emb := 0 } rfl (.inr (.inl ⟨rfl, rfl⟩))
  have HR : Aside0 (RpdiR B g { a with emb := 0 } m W (W.setCell ⟨g, 2, none⟩ (.int .i64 0))) := ⟨a.es, hn.1, rfl, by show 0 < isoN a.es; omega, ⟨ha.ch, ha.i0, ha.i1, Int.le_refl 0, hm0, ha.vl⟩, hn.2⟩
  clear e1 q1 q2 h ha he h1 h2 h3 h4 hv hv0 hv1 hlen hn x0
  go_enter Try.func27, Try.ntmps27
  go_wp2
  clear x1 x2 x3 f1 f2 d1 d2
  go_loopw [25] (fun v25 wr => Aside0 (RpdiR B g { a with emb := 0 } m W wr)) (fun _ wr => slen wr g)
  case atStart => exact HR
  case round =>
    obtain ⟨es, hH, hpop, hpos, hwf, hF⟩ := hrel.out
    have hf2 := fld65_2
    cases es with
    | nil => exact absurd hpos (by decide)
    | cons f u =>
      have hl := last_c B g _ m hwf wr hH
      have et : topA ({ es := f :: u, iso := a.iso, emb := 0, val := a.val } : Sk) = (f.1, f.2.1, f.2.2) := rfl
      rw [et] at hl
      unfold EntV at hl
      simp only at hl
      have HB := Aside0.mk (And.intro hH (And.intro hpop (And.intro hpos (And.intro hwf hF))))
      have HS := Aside0.mk (slen_of hH)
      clear hH hpop hpos hwf hF hrel et
      cases hq : f.2.2 with
      | true =>
        rw [hq] at hl
        have HL := Aside0.mk hl
        have HQ := Aside0.mk hq
        clear hl hq
        go_wp2_with (first
          | (go_at_call 28; refine (HL.out).mono ?_; rintro e w1 ⟨rfl, hb⟩; have HW := Aside0.mk (And.intro (HB.out.1.below hb) (Fr.below (B := B) hb)); clear hb)
          | (go_at_call 36; refine (pop_c B g _ f u rfl _ HW.out.1).mono ?_; rintro e w2 ⟨rfl, hH, hF⟩; have HN := Aside0.mk (And.intro hH hF); obtain ⟨y1, y2, y3, fz, _⟩ := hH.cells; have f3 := fz 3; clear hH hF fz))
        go_end0
        have hpe : popI a.es = u := by
          have := HB.out.2.1
          rw [show popI ({ es := a.es, iso := a.iso, emb := 0, val := a.val } : Sk).es = popI a.es from rfl] at this
          rw [← this]; unfold popI; rw [if_pos HQ.out]
        have := HN.out.1.num 3 (a.val - 1) { es := u, iso := a.iso, emb := 0, val := a.val - 1 } rfl (.inr (.inr ⟨rfl, rfl⟩))
        exact ⟨rfl, by rw [hpe]; exact this.1, HB.out.2.2.2.2.trans (HW.out.2.trans (HN.out.2.trans this.2))⟩
      | false =>
        rw [hq] at hl
        have HL := Aside0.mk hl
        have HQ := Aside0.mk hq
        clear hl hq
        go_wp2_with (first
          | (go_at_call 28; refine (HL.out).mono ?_; rintro e w1 ⟨rfl, hb⟩; have HW := Aside0.mk (And.intro (HB.out.1.below hb) (Fr.below (B := B) hb)); clear hb)
          | (go_at_call 36; refine (pop_c B g _ f u rfl _ HW.out.1).mono ?_; rintro e w2 ⟨rfl, hH, hF⟩; have HN := Aside0.mk (And.intro hH hF); clear hH hF))
        have hne : ¬ f.2.2 = true := by rw [HQ.out]; decide
        have hiso : isoN (f :: u) = isoN u := by show (if _ then _ else _) + _ = _; rw [if_neg hne]; omega
        go_roundw
        case rel =>
          have h3 := HB.out.2.2.1
          rw [hiso] at h3
          have hw4 := HB.out.2.2.2.1
          refine ⟨u, HN.out.1, ?_, h3, ⟨?_, hw4.i0, hw4.i1, hw4.e0, hw4.e1, hw4.vl.trans hiso⟩, HB.out.2.2.2.2.trans (HW.out.2.trans HN.out.2)⟩
          · rw [← HB.out.2.1]; show popI u = popI (f :: u); conv => rhs; unfold popI
            rw [if_neg hne]
          · have hc := hw4.ch
            cases u with
            | nil => exact absurd h3 (by decide)
            | cons f2 u2 => exact hc.2.2.2
        case measure =>
          have h1 := slen_of HN.out.1
          have h2 := HS.out
          rw [h1, h2]
          simp
end Go.Proofs.Ytofiflhjlohakaa.X
