import Derived.Test.YthckihfkhmoafaaT8
import Derived.Maps.OwnIn
namespace Go.Proofs.Ythckihfkhmoafaa.X
open Go.RowKit Go.Proofs.YthckihfkhmoafaaW.PrintWords Go.Proofs.YthckihfkhmoafaaW.PrintLast Go.Proofs.YthckihfkhmoafaaW.PrintMore
attribute [local go_sem] max2_int min2_int max_two min_two max_three min_three max_four min_four   -- for this text's walks alone
set_option linter.unusedVariables false
set_option linter.unusedSimpArgs false

/-- An append of one element inside a round. -/
theorem R_append_in {α : Type} {F : Fence} {nF : Nat} {P : Program} {ops : Array Oper} {rest : List Oper} {o : Oper} {a : Act} {Q : Exit → Act → World → Prop} (d : Kd α) {w0 W : World} (base : Nat) (hgd : o.guard = none) (s x : Operand) (t e : TypeId) (z : Value) (bytes : Nat)
    (ho : o.op = .call { callee := .builtin .append, args := #[s, x], argTypes := #[t, t] })
    (ht : P.underlying t = some (.slice e)) (hinfo : (P.info? e).map (fun i => (i.zero, i.size, i.bytes)) = some (some z, d.sz, bytes)) (hz : z.cells.size = d.sz) (hs0 : 0 < d.sz) (hb0 : 0 < bytes)
    (v : Value) (xs : List α) (p : α) (cs : List Value) (ok okp : Nat → Prop) (hs : a.eval s = v) (hx : a.eval x = .slice (some ⟨W.heap.size, 0, none⟩) 1 1) (hp : d.M W base okp p cs) (hokp : ∀ k, okp k → ok k ∧ some k ≠ v.ownBlock) (hfresh : ∀ k, W.heap.size ≤ k → ok k)
    (HO : d.R e W base ok v xs) (HB : Below base w0 W) (hbase : base ≤ W.heap.size) (hl : (xs.length + 1) * bytes ≤ 140737488355328)
    (h : ∀ v1 w1, d.R e w1 base ok v1 (xs ++ [p]) → Below base w0 w1 → W.grownBy w1 v.ownBlock → wpListIn F nF P ops Q rest (a.put o.dst v1) w1) :
    wpListIn F nF P ops Q (o :: rest) a (W.alloc (.cells cs.toArray e)) := by
  obtain ⟨h0, inner, hown, hr⟩ := HO
  obtain ⟨i0, hi, hzz⟩ := Option.map_eq_some_iff.1 hinfo
  simp only [Prod.mk.injEq] at hzz
  obtain ⟨hz0, hz1, hz2⟩ := hzz
  have hys := d.K_len (d.K_of_M hp)
  have h1 := d.K_one (d.K_of_M hp)
  have hlen : xs.length + 1 ≤ 140737488355328 := Nat.le_trans (Nat.le_mul_of_pos_right _ hb0) hl
  refine wpListIn_append_own_at (w := W.alloc (.cells cs.toArray e)) hgd s x t ho base e i0 z d.sz bytes ht hi hz0 hz1 hz2 hz hs0 v xs.length inner hs (hown.alloc _) ⟨W.heap.size, 0, none⟩ 1 1 cs hx (by rw [hys]; simp)
    (by simpa using World.news_of_block (cs := cs.toArray) (t := e) (fr := (0, 0)) (heap_alloc_new W (.cells cs.toArray e))) h1 (by simp only [maxLen]; omega) hl (by simp; omega) ?_
  intro v1 w1 hown1 hg _ hat
  have hat' : v1.ownBlock = v.ownBlock ∨ ∃ b, v1.ownBlock = some b ∧ W.heap.size ≤ b := by
    rcases hat with hat | hat
    · exact .inl hat
    · exact .inr ⟨_, hat, by simp⟩
  have hgg := World.grownBy.trans (World.grownBy_alloc W _ _) hg
  exact h v1 w1 (Kd.R_appended h0 hr hp hokp hfresh hown1 hgg hat') ((HB.alloc hbase _).grown hg (by simp; omega) (own_base hown)) hgg
/-- The places under way. -/
structure PlSt (w : World) (b : Nat) (vo : Value) (out : List Int) (W : World) : Prop where
  keep : Below w.heap.size w W
  o : Kd.R (Kd.int .i64) 3 W w.heap.size (fun k => b + 1 < k) vo out
  cO : Boxed W b 31 vo
  big : b + 1 < W.heap.size
  hb : w.heap.size ≤ b
theorem PlSt.put {w W w1 : World} {b : Nat} {vo v1 : Value} {out out1 : List Int} (h : PlSt w b vo out W) (ho : Kd.R (Kd.int .i64) 3 w1 w.heap.size (fun k => b + 1 < k) v1 out1) (hb : Below w.heap.size w w1) (hg : W.grownBy w1 vo.ownBlock) :
    PlSt w b v1 out1 (w1.setCell ⟨b, 0, none⟩ v1) ∧ Below w.heap.size W (w1.setCell ⟨b, 0, none⟩ v1) ∧ (w1.setCell ⟨b, 0, none⟩ v1).heap[b + 1]? = W.heap[b + 1]? ∧ KeepsOthers W (w1.setCell ⟨b, 0, none⟩ v1) ∧ w1.cell? ⟨b, 0, none⟩ = some vo ∧ w1.frozen? ⟨b, 0, none⟩ = false := by
  have hne : ∀ j, j ≤ b + 1 → some j ≠ vo.ownBlock := by
    intro j h2 e
    have := h.o.1 j e.symm
    dsimp at this
    omega
  have hbb := h.hb
  have hbig := h.big
  have c1 := h.cO.kept hg (hne _ (by omega))
  have hb5 : w1.heap[b + 1]? = W.heap[b + 1]? := hg.block _ (by omega) (hne _ (by omega))
  have hbk : Below w.heap.size W w1 := (Below.refl w.heap.size W).grown hg (by omega) (fun k e => by have := h.o.1 k e; dsimp at this; omega)
  obtain ⟨inner, hown⟩ := Kd.R_own h.o
  have hko : KeepsOthers W w1 := by
    refine ⟨hg.size, fun k o hk hc => (hg.block k (Array.getElem?_eq_some_iff.1 hk).1 (fun e => ?_)).trans hk⟩
    obtain ⟨cells, hcs⟩ := own_typed hown k e.symm
    rw [hcs] at hk
    injection hk with hk
    rw [← hk] at hc
    cases hc
  exact ⟨⟨hb.setCell (by dsimp; omega) _, Kd.R_far ho (fun k hk => by dsimp at hk ⊢; omega) _, c1.set _, by have := hg.size; simp [World.setCell]; omega, hbb⟩,
    hbk.setCell (by dsimp; omega) _, (Below.heap_setCell _ _ _ _ (by dsimp; omega)).trans hb5, hko.trans (KeepsOthers.setCell _ _ _), c1.cell, c1.frozen⟩
def PlI (w : World) (b : Nat) (l : List S36) (pre : List (BrIx l)) (W : World) : Prop := ∃ vo, PlSt w b vo (pre.map (·.1.1)) W
theorem PlI_own (w : World) (b : Nat) (l : List S36) (B : Nat) (hB : w.heap.size ≤ B) : OwnFrom B (PlI w b l) := by
  rintro pre W W' row ⟨vo, h⟩ hg hr
  have hr' := fun r e => (hr r e).2
  exact ⟨vo, h.keep.grown hg (by have := h.big; have := h.hb; omega) (fun k e => by have := (hr k e).1; omega), R_from h.o hg hr', Boxed_from h.cO hg hr', Nat.lt_of_lt_of_le h.big hg.size, h.hb⟩
def brPlaces (l : List S36) : List Int := (brTo l l.length).map (·.1.1)
attribute [local go_sem] run_store_fn Oper.semAt_some
set_option maxHeartbeats 8000000 in
set_option maxRecDepth 100000 in
theorem places_c (A0 : Option Addr) (c0 : Nat) (l0 : List S36) (w : World) (hr0 : Kd.C k36 w A0 l0.length l0) (hc0 : l0.length ≤ c0) (hlen : l0.length ≤ 65536) (hok : l0.any brBad = false) :
    Calls Try.prog 18 #[.slice A0 l0.length c0] w (ResL w (brPlaces l0)) := by
  have HR0 := Aside0.mk hr0
  have HC0 := Aside0.mk hc0
  have HLN := Aside0.mk hlen
  have HMY := Aside0.mk (show breaks_may.f l0 = some 0 by unfold breaks_may.f; rw [if_pos (by omega), if_neg (by omega), hok]; rfl)
  clear hr0 hc0 hok hlen
  refine (callsIn_wide (n := 3)).1 ?_
  refine callsIn_of_wp_marks Try.func18 rfl trivial ?_ rfl
  refine wpIn_wide.2 ?_
  simp only [Try.ntmps18, List.size_toArray, List.length_cons, List.length_nil, Nat.reduceAdd, Nat.reduceSub, Array.replicate_succ, Array.replicate_zero, List.push_toArray, List.append_toArray, List.nil_append, List.cons_append]
  have BRI := fun W => br_in A0 l0.length c0 W
  go_wp2_with (first | (go_at_call 21; (with_reducible refine (breaks_may.calls A0 c0 l0 0 _ ?_ HC0.out HMY.out).mono ?_); (exact HR0.out); rintro e w1 ⟨rfl, hB⟩; have HB := Aside0.mk hB; clear hB) | (go_at_call 29; (with_reducible refine (BRI _).mono ?_); rintro e w' ⟨rfl, rfl⟩))
  have hB := HB.out
  have hsz := hB.size
  obtain ⟨W8, hW8⟩ : ∃ W8, W8 = w1.alloc (.cells #[.slice none 0 0] 31) := ⟨_, rfl⟩
  obtain ⟨W9, hW9⟩ : ∃ W9, W9 = W8.alloc (.cells #[.slice A0 l0.length c0] 22) := ⟨_, rfl⟩
  have e8 : W8.heap.size = w1.heap.size + 1 := by rw [hW8]; simp
  have e9 : W9.heap.size = w1.heap.size + 1 + 1 := by rw [hW9]; simp [e8]
  have bO : Boxed W9 w1.heap.size 31 (.slice none 0 0) := by rw [hW9, hW8]; exact (Boxed.new w1 31 (.slice none 0 0)).alloc _
  have bS : Boxed W9 (w1.heap.size + 1) 22 (.slice A0 l0.length c0) := by rw [hW9, ← e8]; exact Boxed.new W8 22 _
  have hB9 : Below w.heap.size w W9 := by rw [hW9, hW8]; exact (hB.alloc hsz _).alloc (by simp; omega) _
  have hSt : PlSt w w1.heap.size (.slice none 0 0) [] W9 := ⟨hB9, Kd.R_nil _ _ _ _ _, bO, by omega, hsz⟩
  rw [← hW8, ← hW9]
  clear hW8 hW9 e8 bO BRI
  refine (wpIn_wide (n := 3)).1 ?_
  refine wpIn_rangeFunc_ownG (F := Fence.wide) (n := 3) rfl (by decide) (gf := 35) (lb := #[.pointer (some ⟨w1.heap.size + 1, 0, none⟩)]) rfl trivial (enters_of Try.func35 (by kernel_rfl) rfl)
    (br_stops 2 (by decide) (w1.heap.size + 1) c0 A0 l0 w W9 HR0.out (by have := HLN.out; omega) hB9 bS) (fun h k => KpB.trans h k) (KpB_b (by omega) (by omega)) (Below.refl _ _) (fun _ => rfl)
    (PlI w w1.heap.size l0) (fun _ _ _ => False) (PlI_own w w1.heap.size l0 W9.heap.size (by omega)) (fun _ _ _ _ _ hs _ _ => hs) ⟨_, hSt⟩
    (fun x => { tmps := #[.slice A0 l0.length c0, undef, .slice none 0 0, .int .i64 0, .int .i64 0, .pointer (some ⟨w1.heap.size, 0, none⟩), .int .i64 x.1.1, .slice A0 l0.length c0, .int .i64 0, .int .i64 0, .bool false, undef, .slice A0 l0.length c0, .func (.func 35) #[] #[.pointer (some ⟨w1.heap.size + 1, 0, none⟩)], .int .i64 x.1.1, .bool x.1.2, undef, undef, undef, undef, undef], defers := [] }) ?assign ?body ?done ?stop
  case assign =>
    intro l x W K hK
    dsimp only [encBr]
    gi_wp2
    exact hK
  case body =>
    rintro l pre x W ⟨vo, h⟩ hlt
    have cO : W.cell? ⟨w1.heap.size, 0, none⟩ = some vo := h.cO.cell
    have H := Aside0.mk h
    clear h
    gi_wp2_with (gi_at_builtin; refine R_append_in (Kd.int .i64) (w0 := w) w.heap.size rfl (.tmp 16) (.tmp 18) 31 3 (.int .i64 0) 8 rfl Try.underlying31 info3 rfl (by decide) (by omega) vo (pre.map (·.1.1)) x.1.1 [.int .i64 x.1.1] (fun k => w1.heap.size + 1 < k) (fun _ => False) rfl rfl ?aP (fun _ hk => hk.elim) ?aF ?aO ?aB ?aS ?aL ?_; (case aP => exact rfl); (case aB => exact H.out.keep); (case aF => exact (fun j hk => Nat.lt_of_lt_of_le H.out.big hk)); (case aO => exact H.out.o); (case aS => exact H.out.keep.size); (case aL => have := HLN.out; simp only [List.length_map]; omega); intro v1 w2 ho hb hg; obtain ⟨Ax, cx, ex⟩ := Kd.R_slice ho; obtain ⟨nx, hnx⟩ : ∃ nx, nx = (pre.map (·.1.1) ++ [x.1.1]).length := ⟨_, rfl⟩; rw [← hnx] at ex; clear hnx; subst ex; obtain ⟨hS, hk1, hk2, hk3, hc1, hf1⟩ := H.out.put ho hb hg; have HS2 := Aside0.mk hS; have HK2 := Aside0.mk (And.intro hk1 (And.intro hk2 hk3)); clear hS hk1 hk2 hk3 ho hb hg)
    exact ⟨HK2.out.2.2.from _, ⟨HK2.out.1, HK2.out.2.1⟩, _, by rw [List.map_append]; exact HS2.out⟩
  case done =>
    rintro D ys W hD rfl ⟨vo, h⟩ hK
    have cO : W.cell? ⟨w1.heap.size, 0, none⟩ = some vo := h.cO.cell
    have H := Aside0.mk h
    have HD := Aside0.mk hK
    clear h hK
    go_wp2
    refine ⟨by simp, .inl ⟨_, _, rfl, run_takeDeferred HD.out, ?_⟩⟩
    refine ⟨_, results_tmp2 rfl _ _ _, _, rfl, ?_, ?_⟩
    · exact Kd.R_mono (R_from H.out.o (grownBy_putObj' _ D (.deferred none)) (fun r e => by cases e; exact ⟨_, HD.out, rfl⟩)) (fun _ _ => trivial)
    · exact H.out.keep.trans (belowK_b (w := w) (Nat.le_refl _) _ D _ _ (by omega) HD.out rfl rfl)
  case stop =>
    rintro D c pre W _ _ h _
    exact h.elim
set_option maxHeartbeats 4000000 in
set_option maxRecDepth 100000 in
theorem places_may (A0 : Option Addr) (c0 : Nat) (l0 : List S36) (c : Int) (w : World) (hr0 : Kd.C k36 w A0 l0.length l0) (hc0 : l0.length ≤ c0) (hm : breaks_may.f l0 = some c) (hc : c ≠ 0) :
    Calls Try.prog 18 #[.slice A0 l0.length c0] w (ResE w c) := by
  have HR0 := Aside0.mk hr0
  have b1 : (c != 0) = true := bne_iff_ne.mpr hc
  clear hr0 hc
  have M1 := breaks_may.calls A0 c0 l0 c w HR0.out hc0 hm
  go_enter Try.func18, Try.ntmps18
  go_wp2_with (go_at_call 21; (with_reducible refine M1.mono ?_); rintro e w1 ⟨rfl, hB⟩)
  refine bodyPost_ret (results_tmp2 rfl _ _ _) rfl ?_
  exact ⟨rfl, hB⟩
def breaks_Places.f (l0 : List S36) : Option (List Int × Int) :=
  if l0.length < 17592186044416 then some (if (l0.length : Int) > 65536 then ([], 3) else if l0.any brBad then ([], 2) else (brPlaces l0, 0)) else none
theorem breaks_Places.calls (A0 : Option Addr) (c0 : Nat) (l0 : List S36) (r1 : List Int) (r2 : Int) (w : World) (hr0 : Kd.C k36 w A0 l0.length l0) (hc0 : l0.length ≤ c0) (h : breaks_Places.f l0 = some (r1, r2)) :
    Calls Try.prog 18 #[.slice A0 l0.length c0] w fun e w' => ∃ v0_ : Value, e = .returned (.tuple #[v0_, .int .i64 r2]) ∧ Kd.R (Kd.int .i64) 3 w' w.heap.size (fun _ => True) v0_ r1 ∧ Below w.heap.size w w' := by
  unfold breaks_Places.f at h
  by_cases hl : l0.length < 17592186044416
  case neg => rw [if_neg hl] at h; cases h
  rw [if_pos hl] at h
  injection h with h
  have err : ∀ c, c ≠ 0 → ([], c) = (r1, r2) → Calls Try.prog 18 #[.slice A0 l0.length c0] w (ResE w c) → Calls Try.prog 18 #[.slice A0 l0.length c0] w fun e w' => ∃ v0_ : Value, e = .returned (.tuple #[v0_, .int .i64 r2]) ∧ Kd.R (Kd.int .i64) 3 w' w.heap.size (fun _ => True) v0_ r1 ∧ Below w.heap.size w w' := by
    intro c _ hc hC
    injection hc with h1 h2
    subst h1
    subst h2
    exact hC.mono fun e w' hh => ⟨_, hh.1, Kd.R_nil _ _ _ _ _, hh.2⟩
  by_cases h1 : (l0.length : Int) > 65536
  · rw [if_pos h1] at h
    exact err 3 (by decide) h (places_may A0 c0 l0 3 w hr0 hc0 (by unfold breaks_may.f; rw [if_pos hl, if_pos h1]) (by decide))
  rw [if_neg h1] at h
  by_cases h2 : l0.any brBad = true
  · rw [if_pos h2] at h
    exact err 2 (by decide) h (places_may A0 c0 l0 2 w hr0 hc0 (by unfold breaks_may.f; rw [if_pos hl, if_neg h1, if_pos h2]) (by decide))
  rw [if_neg h2] at h
  injection h with h4 h5
  subst h4
  subst h5
  exact places_c A0 c0 l0 w hr0 hc0 (by omega) (Bool.eq_false_iff.mpr h2)
end Go.Proofs.Ythckihfkhmoafaa.X
