import Derived.Test.YthckihfkhmoafaaT6
namespace Go.Proofs.Ythckihfkhmoafaa.X
open Go.RowKit Go.Proofs.YthckihfkhmoafaaW.PrintWords Go.Proofs.YthckihfkhmoafaaW.PrintLast Go.Proofs.YthckihfkhmoafaaW.PrintMore
attribute [local go_sem] max2_int min2_int max_two min_two max_three min_three max_four min_four   -- for this text's walks alone
set_option linter.unusedVariables false
set_option linter.unusedSimpArgs false

def brRun (l : List S36) (wd : Int) (pre : List (BrIx l)) : Int × Int × List Int := pre.foldl (fun st x => brS (partTo (sA l) l.length l.length) (partTo (sB l) l.length l.length) (partTo (sR l) l.length l.length) wd x.1.1 x.1.2 st.1 st.2.1 st.2.2) (0, -1, [0])
def brLines (l : List S36) (wd : Int) : List Int :=
  let st := brRun l wd (brTo l l.length)
  if st.1 < st.2.1 ∧ brFit (partTo (sA l) l.length l.length) (partTo (sB l) l.length l.length) (partTo (sR l) l.length l.length) wd st.1 l.length = false then st.2.2 ++ [st.2.1] else st.2.2
def ResL (w : World) (r : List Int) (e : Ending) (w' : World) : Prop := ∃ v0_ : Value, e = .returned (.tuple #[v0_, .int .i64 0]) ∧ Kd.R (Kd.int .i64) 3 w' w.heap.size (fun _ => True) v0_ r ∧ Below w.heap.size w w'
theorem rd_set_ne (A : List Int) (i j v : Int) (h0 : 0 ≤ i) (hj : 0 ≤ j) (hne : i ≠ j) : rd (A.set j.toNat v) i = rd A i := by
  unfold rd
  rw [List.getD_eq_getElem?_getD, List.getElem?_set_ne (by omega), ← List.getD_eq_getElem?_getD]
theorem LnS_eq {w W W' : World} {g n : Nat} {A B R : List Int} {wd : Int} {o : Obj} (e : W' = W.alloc o) (h : LnS w g n A B R wd W) : LnS w g n A B R wd W' := by rw [e]; exact h.alloc o
theorem it_eq {W W' : World} {it : Nat} {o oi : Obj} (e : W' = W.alloc o) (h : W.heap[it]? = some oi) : W'.heap[it]? = some oi := by
  rw [e]; exact (Below.heap_alloc _ _ _ (Array.getElem?_eq_some_iff.1 h).1).trans h
def made (n : Nat) : Obj := .cells (madeCells #[.int .i64 0] (n + 1)) 3
theorem LnS_start (w w1 : World) (n : Nat) (wd : Int) (hn : n ≤ 65536) (hB : Below (w.alloc (.cells #[.int .i64 wd] 3)).heap.size (w.alloc (.cells #[.int .i64 wd] 3)) w1) :
    LnS w w1.heap.size n (List.replicate (n + 1) 0) (List.replicate (n + 1) 0) (List.replicate (n + 1) 0) wd
      ((((((w1.alloc (.cells (madeCells #[.int .i64 0] (n + 1)) 3)).alloc (.cells #[.slice (some ⟨w1.heap.size, 0, none⟩) (n + 1) (n + 1)] 31)).alloc (.cells (madeCells #[.int .i64 0] (n + 1)) 3)).alloc (.cells #[.slice (some ⟨w1.heap.size + 1 + 1, 0, none⟩) (n + 1) (n + 1)] 31)).alloc
        (.cells (madeCells #[.int .i64 0] (n + 1)) 3)).alloc (.cells #[.slice (some ⟨w1.heap.size + 1 + 1 + 1 + 1, 0, none⟩) (n + 1) (n + 1)] 31)) := by
  have hsz := hB.size
  simp only [World.size_alloc] at hsz
  have k1 : Below w.heap.size w w1 := ((Below.refl _ w).alloc (Nat.le_refl _) _).trans (hB.mono (by simp))
  have c5 : Boxed w1 w.heap.size 3 (.int .i64 wd) := (hB.block _ (by simp)).trans (Boxed.new w 3 (.int .i64 wd))
  have mk : ∀ W : World, w.heap.size ≤ W.heap.size → ∀ g, W.heap.size = g → Kd.R (Kd.int .i64) 3 (W.alloc (.cells (madeCells #[.int .i64 0] (n + 1)) 3)) w.heap.size (fun k => k = g) (.slice (some ⟨g, 0, none⟩) (n + 1) (n + 1)) (List.replicate (n + 1) 0) := by
    intro W hW g hg
    subst hg
    exact Kd.R_of_own (own_made' W w.heap.size 3 .i64 (n + 1) hW (by omega)) (by intro k hk; simp [Value.ownBlock] at hk; exact hk.symm)
  have bx : ∀ (W : World) (g : Nat) (v : Value), W.heap.size = g → Boxed (W.alloc (.cells #[v] 31)) g 31 v := by
    intro W g v hg
    subst hg
    exact Boxed.new W 31 v
  refine ⟨below_alloc (below_alloc (below_alloc (below_alloc (below_alloc (below_alloc k1 _) _) _) _) _) _, (((((c5.alloc _).alloc _).alloc _).alloc _).alloc _).alloc _, ?_, ?_, ?_, ?_, ?_, ?_, by omega, by simp, by simp, by simp⟩
  · exact Kd.R_alloc (Kd.R_alloc (Kd.R_alloc (Kd.R_alloc (Kd.R_alloc (mk w1 (by omega) _ rfl) _) _) _) _) _
  · exact ((((bx _ _ _ (by simp)).alloc _).alloc _).alloc _).alloc _
  · exact Kd.R_alloc (Kd.R_alloc (Kd.R_alloc (mk _ (by simp; omega) _ (by simp)) _) _) _
  · exact ((bx _ _ _ (by simp)).alloc _).alloc _
  · exact Kd.R_alloc (mk _ (by simp; omega) _ (by simp)) _
  · exact bx _ _ _ (by simp)
theorem brS_in {A B R : List Int} {wd k s last : Int} {must : Bool} {out : List Int} {n : Nat} (hk0 : 0 ≤ k) (hk1 : k ≤ n) (h0 : 0 ≤ s) (h1 : s ≤ n) (h2 : -1 ≤ last) (h3 : last ≤ n) :
    0 ≤ (brS A B R wd k must s last out).1 ∧ (brS A B R wd k must s last out).1 ≤ n ∧ -1 ≤ (brS A B R wd k must s last out).2.1 ∧ (brS A B R wd k must s last out).2.1 ≤ n ∧ (brS A B R wd k must s last out).2.2.length ≤ out.length + 2 := by
  unfold brS brW
  by_cases c : s < last ∧ brFit A B R wd s k = false
  · have := c.1
    simp only [if_pos c]
    split <;> simp <;> omega
  · simp only [if_neg c]
    split <;> simp <;> omega
theorem brRun_snoc (l : List S36) (wd : Int) (pre : List (BrIx l)) (x : BrIx l) : brRun l wd (pre ++ [x]) = brS (partTo (sA l) l.length l.length) (partTo (sB l) l.length l.length) (partTo (sR l) l.length l.length) wd x.1.1 x.1.2 (brRun l wd pre).1 (brRun l wd pre).2.1 (brRun l wd pre).2.2 := by
  simp [brRun, List.foldl_append]
theorem brRun_from (l : List S36) (wd : Int) (pre : List (BrIx l)) : ∀ st : Int × Int × List Int, 0 ≤ st.1 → st.1 ≤ l.length → -1 ≤ st.2.1 → st.2.1 ≤ l.length →
    let r := pre.foldl (fun st x => brS (partTo (sA l) l.length l.length) (partTo (sB l) l.length l.length) (partTo (sR l) l.length l.length) wd x.1.1 x.1.2 st.1 st.2.1 st.2.2) st
    0 ≤ r.1 ∧ r.1 ≤ l.length ∧ -1 ≤ r.2.1 ∧ r.2.1 ≤ l.length ∧ r.2.2.length ≤ st.2.2.length + 2 * pre.length := by
  induction pre with
  | nil => intro st a b c d; exact ⟨a, b, c, d, by simp⟩
  | cons x pre ih =>
    intro st a b c d
    have := brS_in (A := partTo (sA l) l.length l.length) (B := partTo (sB l) l.length l.length) (R := partTo (sR l) l.length l.length) (wd := wd) (must := x.1.2) (out := st.2.2) (k := x.1.1) (n := l.length) (by have := x.2; omega) (by have := x.2; omega) a b c d
    have h := ih _ this.1 this.2.1 this.2.2.1 this.2.2.2.1
    refine ⟨h.1, h.2.1, h.2.2.1, h.2.2.2.1, ?_⟩
    have h1 := h.2.2.2.2
    have h2 := this.2.2.2.2
    simp only [List.foldl_cons, List.length_cons] at h1 ⊢
    omega
theorem brRun_in (l : List S36) (wd : Int) (pre : List (BrIx l)) : 0 ≤ (brRun l wd pre).1 ∧ (brRun l wd pre).1 ≤ l.length ∧ -1 ≤ (brRun l wd pre).2.1 ∧ (brRun l wd pre).2.1 ≤ l.length ∧ (brRun l wd pre).2.2.length ≤ 2 * pre.length + 1 := by
  have h := brRun_from l wd pre (0, -1, [0]) (by simp) (by simp) (by simp) (by simp)
  refine ⟨h.1, h.2.1, h.2.2.1, h.2.2.2.1, ?_⟩
  have := h.2.2.2.2
  simp only [List.length_singleton] at this
  unfold brRun
  omega
theorem run_store_fn (P : Program) (w : World) (a : Addr) (m : Mode) (f : Fn) (ts bs : Array Value) : (store a (.func f ts bs) m).run P w = stored P w a (.func f ts bs) m := run_store P w a _ m rfl
theorem notcells_of_typed {W : World} {r e : Nat} {cells : Array Value} {o : Obj} (h : W.heap[r]? = some (.cells cells e (0, 0))) (ho : W.heap[r]? = some o) (hc : o.isCells = false) : False := by
  rw [h] at ho
  cases ho
  simp [Obj.isCells] at hc
theorem R_from {W W' : World} {base : Nat} {ok : Nat → Prop} {v : Value} {xs : List Int} {row : Option Nat} (h : Kd.R (Kd.int .i64) 3 W base ok v xs) (hg : W.grownBy W' row) (hr : ∀ r, row = some r → ∃ o : Obj, W.heap[r]? = some o ∧ o.isCells = false) : Kd.R (Kd.int .i64) 3 W' base ok v xs := by
  refine Kd.R_grown2 h rfl hg (fun k e e2 => ?_)
  obtain ⟨o, ho, hc⟩ := hr k e
  obtain ⟨inner, hown⟩ := Kd.R_own h
  obtain ⟨cells, hcs⟩ := own_typed hown k e2.symm
  exact notcells_of_typed hcs ho hc
theorem Boxed_from {W W' : World} {B t : Nat} {v : Value} {row : Option Nat} (h : Boxed W B t v) (hg : W.grownBy W' row) (hr : ∀ r, row = some r → ∃ o : Obj, W.heap[r]? = some o ∧ o.isCells = false) : Boxed W' B t v := by
  refine h.kept hg (fun e => ?_)
  obtain ⟨o, ho, hc⟩ := hr B e.symm
  exact notcells_of_typed h ho hc
def BrI (W0 : World) (N pF : Nat) (l : List S36) (wd : Int) (pre : List (BrIx l)) (W : World) : Prop := ∃ vo, BrSt W0 N pF vo (brRun l wd pre).2.2 (brRun l wd pre).1 (brRun l wd pre).2.1 W
theorem BrI_own (W0 : World) (N pF : Nat) (l : List S36) (wd : Int) (B : Nat) (hB : N ≤ B) : OwnFrom B (BrI W0 N pF l wd) := by
  rintro pre W W' row ⟨vo, h⟩ hg hr
  have hr' := fun r e => (hr r e).2
  exact ⟨vo, h.keep.grown hg (by have := h.big; omega) (fun k e => by have := (hr k e).1; omega), R_from h.o hg hr', Boxed_from h.cO hg hr', Boxed_from h.cS hg hr', Boxed_from h.cL hg hr', Boxed_from h.cT hg hr', Nat.lt_of_lt_of_le h.big hg.size⟩
theorem KpB_b {n₀ Bs : Nat} {w : World} (hn : n₀ ≤ w.heap.size) (hB : Bs < w.heap.size) (W : World) (l : Nat) (o o' : Obj) (hl : w.heap.size ≤ l) (h : W.heap[l]? = some o) (h1 : o.isCells = false) (h2 : o.isWalk = false) : KpB n₀ Bs W (W.putObj l o') :=
  ⟨belowK_b hn W l o o' hl h h1 h2, World.putObj_heap_other (by omega)⟩
theorem BrSt_start (wr : World) (f27 a0 : Value) (hbase : True) :
    let W0 := wr.alloc (.cells #[f27] 50)
    let W9 := (((((W0.alloc (.cells #[.int .i64 0] 3)).alloc (.cells #[.slice (some ⟨wr.heap.size + 1, 0, none⟩) 1 1] 31)).alloc (.cells #[.int .i64 0] 3)).alloc (.cells #[.int .i64 (-1)] 3)).alloc
      (.cells #[.func (.func 28) #[] #[.pointer (some ⟨wr.heap.size + 1 + 1 + 1 + 1, 0, none⟩), .pointer (some ⟨wr.heap.size + 1 + 1 + 1, 0, none⟩), .pointer (some ⟨wr.heap.size, 0, none⟩), .pointer (some ⟨wr.heap.size + 1 + 1, 0, none⟩)]] 51)).alloc (.cells #[a0] 22)
    BrSt W0 (wr.heap.size + 1) wr.heap.size (.slice (some ⟨wr.heap.size + 1, 0, none⟩) 1 1) [0] 0 (-1) W9 ∧ Boxed W9 (wr.heap.size + 1 + 5) 22 a0 ∧ Below wr.heap.size wr W9 := by
  intro W0 W9
  have bx : ∀ (W : World) (g : Nat) (t : TypeId) (v : Value), W.heap.size = g → Boxed (W.alloc (.cells #[v] t)) g t v := by
    intro W g t v hg
    subst hg
    exact Boxed.new W t v
  have hk : Below (wr.heap.size + 1) W0 W9 := by
    exact ((((((Below.refl _ W0).alloc (by simp [W0]) _).alloc (by simp [W0]) _).alloc (by simp [W0]) _).alloc (by simp [W0]) _).alloc (by simp [W0]) _).alloc (by simp [W0]) _
  refine ⟨⟨hk, ?_, ?_, ?_, ?_, ?_, by simp [W9, W0]⟩, bx _ _ _ _ (by simp [W0]), ?_⟩
  · refine Kd.R_alloc (Kd.R_alloc (Kd.R_alloc (Kd.R_alloc (Kd.R_alloc ?_ _) _) _) _) _
    have := own_made' W0 (wr.heap.size + 1) 3 .i64 1 (by simp [W0]) (by decide)
    have e : W0.heap.size = wr.heap.size + 1 := by simp [W0]
    rw [e] at this
    have e2 : madeCells #[Value.int .i64 0] 1 = #[.int .i64 0] := by kernel_rfl
    rw [e2] at this
    exact Kd.R_of_own (xs := [0]) this (by intro k hk; simp [Value.ownBlock] at hk; exact .inl hk.symm)
  · exact ((((bx _ _ _ _ (by simp [W0])).alloc _).alloc _).alloc _).alloc _
  · exact (((bx _ _ _ _ (by simp [W0])).alloc _).alloc _).alloc _
  · exact ((bx _ _ _ _ (by simp [W0])).alloc _).alloc _
  · exact (bx _ _ _ _ (by simp [W0])).alloc _
  · exact (((((((Below.refl _ wr).alloc (Nat.le_refl _) _).alloc (by simp) _).alloc (by simp; omega) _).alloc (by simp; omega) _).alloc (by simp; omega) _).alloc (by simp; omega) _).alloc (by simp; omega) _
attribute [local go_sem] run_store_fn Oper.semAt_some
set_option maxHeartbeats 8000000 in
set_option maxRecDepth 100000 in
theorem lines_c (A0 : Option Addr) (c0 : Nat) (l0 : List S36) (a1 : Int) (w : World) (hr0 : Kd.C k36 w A0 l0.length l0) (hc0 : l0.length ≤ c0) (hlen : l0.length ≤ 65536) (hok : l0.any brBad = false) (hw0 : 1 ≤ a1) (hw1 : a1 ≤ 16777216) :
    Calls Try.prog 14 #[.slice A0 l0.length c0, .int .i64 a1] w (ResL w (brLines l0 a1)) := by
  have HR0 := Aside0.mk hr0
  have HC0 := Aside0.mk hc0
  have HOK := Aside0.mk hok
  have HLN := Aside0.mk hlen
  clear hr0 hc0 hok
  have hu := Try.underlying36
  have HMY := Aside0.mk (show breaks_may.f l0 = some 0 by unfold breaks_may.f; rw [if_pos (by omega), if_neg (by omega), HOK.out]; rfl)
  have hmk : ∀ W : World, (Instr.makeSlice 31 (.int .i64 ((l0.length : Int) + 1)) (.int .i64 ((l0.length : Int) + 1))).run Try.prog W = .ok (.slice (some ⟨W.heap.size, 0, none⟩) (l0.length + 1) (l0.length + 1)) (W.alloc (.cells (madeCells #[.int .i64 0] (l0.length + 1)) 3)) := by
    have := print_make (P := Try.prog) 31 3 .i64 8 Try.underlying31 info3 (by decide) (l0.length + 1) (by omega)
    simpa using this
  have hwn : IntKind.i64.wrap ((l0.length : Int) + 1) = (l0.length : Int) + 1 := IntWalk.i64_in _ (by omega)
  have b1 : decide (a1 < 1) = false := decide_eq_false (by omega)
  have b2 : decide (16777216 < a1) = false := decide_eq_false (by omega)
  have HWD := Aside0.mk (And.intro hw0 hw1)
  clear hw0 hw1 hlen
  refine (callsIn_wide (n := 3)).1 ?_
  refine callsIn_of_wp_marks Try.func14 rfl trivial ?_ rfl
  refine wpIn_wide.2 ?_
  simp only [Try.ntmps14, List.size_toArray, List.length_cons, List.length_nil, Nat.reduceAdd, Nat.reduceSub, Array.replicate_succ, Array.replicate_zero, List.push_toArray, List.append_toArray, List.nil_append, List.cons_append]
  go_wp2_with (go_at_call 21; (with_reducible refine (breaks_may.calls A0 c0 l0 0 _ ?_ HC0.out HMY.out).mono ?_); (exact Kd.C_alloc HR0.out _); rintro e w1 ⟨rfl, hB⟩; have hc5 : w1.cell? ⟨w.heap.size, 0, none⟩ = some (.int .i64 a1) := (hB.cell (by simp)).trans (Boxed.new w 3 (.int .i64 a1)).cell; have HB := Aside0.mk hB; clear hB)
  have hst := LnS_start w w1 l0.length a1 HLN.out HB.out
  have HST := Aside0.mk hst
  clear hst hc5
  go_loopw [44] (fun v44 wr => ∃ i : Int, 0 ≤ i ∧ i ≤ (l0.length : Int) ∧ v44 = .int .i64 i ∧ Aside0 (LnS w w1.heap.size l0.length (partTo (sA l0) l0.length i.toNat) (partTo (sB l0) l0.length i.toNat) (partTo (sR l0) l0.length i.toNat) a1 wr)) (fun v44 _ => l0.length - (intOf v44).toNat)
  case atStart => exact ⟨0, by omega, by omega, rfl, ⟨by rw [show (0 : Int).toNat = 0 from rfl, partTo_zero (sA l0) _ rfl, partTo_zero (sB l0) _ rfl, partTo_zero (sR l0) _ rfl]; exact HST.out⟩⟩
  case round =>
    clear HST
    obtain ⟨i, hi0, hi1, rfl, HS⟩ := hrel
    by_cases hlt : i < (l0.length : Int)
    · have bl : decide (i < (l0.length : Int)) = true := decide_eq_true hlt
      obtain ⟨ad, e1, x0, x1, x2, x3⟩ := at_T36 HR0.out i hi0 hlt
      subst e1
      have up : ∀ {p : Addr} {v : Value}, w.cell? p = some v → wr.cell? p = some v := fun {p v} h => (HS.out.keep.cell (World.block_lt_of_cell? w _ h)).trans h
      replace x0 := up x0
      replace x1 := up x1
      replace x2 := up x2
      replace x3 := up x3
      clear up
      go_upto_region 12 with (fail)
      clear x0 x1 x2 x3
      obtain ⟨W1, hW1⟩ : ∃ W1, W1 = wr.alloc (.cells #[.int .i32 (rd_T36 l0 i).f0, .int .i64 (rd_T36 l0 i).f1, .int .i64 (rd_T36 l0 i).f2, .int .i64 (rd_T36 l0 i).f3] 36) := ⟨_, rfl⟩
      rw [← hW1]
      have hs1 := HS.out.alloc (.cells #[.int .i32 (rd_T36 l0 i).f0, .int .i64 (rd_T36 l0 i).f1, .int .i64 (rd_T36 l0 i).f2, .int .i64 (rd_T36 l0 i).f3] 36)
      rw [← hW1] at hs1
      have hit : W1.heap[wr.heap.size]? = some (.cells #[.int .i32 (rd_T36 l0 i).f0, .int .i64 (rd_T36 l0 i).f1, .int .i64 (rd_T36 l0 i).f2, .int .i64 (rd_T36 l0 i).f3] 36) := by rw [hW1]; exact World.alloc_heap_new wr _
      have hbig : w1.heap.size + 1 + 1 + 1 + 1 + 1 < wr.heap.size := HS.out.c4.lt
      clear hW1
      obtain ⟨it, hitt⟩ : ∃ it, wr.heap.size = it := ⟨_, rfl⟩
      rw [hitt] at hit hbig ⊢
      obtain ⟨g, hgg⟩ : ∃ g, w1.heap.size = g := ⟨_, rfl⟩
      rw [hgg] at hs1 hbig ⊢
      obtain ⟨ip, hip⟩ : ∃ ip : Int, ip = i + 1 := ⟨_, rfl⟩
      have hwi : IntKind.i64.wrap (i + 1) = ip := (IntWalk.i64_in _ (by have := HLN.out; omega)).trans hip.symm
      have hip0 : 0 ≤ ip := by omega
      have hip1 : ip < (l0.length : Int) + 1 := by omega
      have hi2 : i < (l0.length : Int) + 1 := by omega
      have hia := sA_in HOK.out i.toNat (by omega)
      have hib := sB_in HOK.out i.toNat (by omega)
      have hiR := sR_in l0 i.toNat
      have hok := ok_item HOK.out i.toNat (by omega)
      rw [Int.toNat_of_nonneg hi0] at hok
      have hA1 : sA l0 (i.toNat + 1) = sA l0 i.toNat + (rd_T36 l0 i).f2 + (rd_T36 l0 i).f1 + (rd_T36 l0 i).f3 := by rw [sA, Int.toNat_of_nonneg hi0]
      have hB1 : sB l0 (i.toNat + 1) = sB l0 i.toNat + (if brBlank (rd_T36 l0 i) then (rd_T36 l0 i).f1 else 0) := by rw [sB, Int.toNat_of_nonneg hi0]
      have hR1 : sR l0 (i.toNat + 1) = if brBlank (rd_T36 l0 i) || brSilent (rd_T36 l0 i) then sR l0 i.toNat else i + 1 := by rw [sR, Int.toNat_of_nonneg hi0]
      have rA : rd (partTo (sA l0) l0.length i.toNat) i = sA l0 i.toNat := by rw [partTo_rd _ _ _ i hi0 (by omega), if_pos (Nat.le_refl _)]
      have rB : rd (partTo (sB l0) l0.length i.toNat) i = sB l0 i.toNat := by rw [partTo_rd _ _ _ i hi0 (by omega), if_pos (Nat.le_refl _)]
      have rR : rd (partTo (sR l0) l0.length i.toNat) i = sR l0 i.toNat := by rw [partTo_rd _ _ _ i hi0 (by omega), if_pos (Nat.le_refl _)]
      have dA := partTo_set (sA l0) l0.length i.toNat (by omega) _ rfl
      have dB := partTo_set (sB l0) l0.length i.toNat (by omega) _ rfl
      have dR := partTo_set (sR l0) l0.length i.toNat (by omega) _ rfl
      have hipn : ip.toNat = i.toNat + 1 := by omega
      rw [← hipn] at dA dB dR hA1 hB1 hR1
      generalize partTo (sA l0) l0.length i.toNat = A at hs1 rA dA
      generalize partTo (sB l0) l0.length i.toNat = B at hs1 rB dB
      generalize partTo (sR l0) l0.length i.toNat = R at hs1 rR dR
      generalize sA l0 i.toNat = sa at rA hA1 hia
      generalize sB l0 i.toNat = sb at rB hB1 hib
      generalize sR l0 i.toNat = sr at rR hR1 hiR
      obtain ⟨f0, hf0⟩ : ∃ f, (rd_T36 l0 i).f0 = f := ⟨_, rfl⟩
      obtain ⟨f1, hf1⟩ : ∃ f, (rd_T36 l0 i).f1 = f := ⟨_, rfl⟩
      obtain ⟨f2, hf2⟩ : ∃ f, (rd_T36 l0 i).f2 = f := ⟨_, rfl⟩
      obtain ⟨f3, hf3⟩ : ∃ f, (rd_T36 l0 i).f3 = f := ⟨_, rfl⟩
      rw [hf1, hf2, hf3] at hok hA1
      rw [hf1] at hB1
      rw [hf0, hf1, hf2, hf3] at hit
      have y1 : W1.cell? ⟨it, 1, none⟩ = some (.int .i64 f1) := (blk_cell hit 1).trans rfl
      have y2 : W1.cell? ⟨it, 2, none⟩ = some (.int .i64 f2) := (blk_cell hit 2).trans rfl
      have y3 : W1.cell? ⟨it, 3, none⟩ = some (.int .i64 f3) := (blk_cell hit 3).trans rfl
      have k2 : W1.cell? ⟨g + 1, 0, none⟩ = some (.slice (some ⟨g, 0, none⟩) (l0.length + 1) (l0.length + 1)) := hs1.c2.cell
      obtain ⟨cA, _⟩ := hs1.cellA i hi0 hi2
      rw [rA] at cA
      obtain ⟨cA1, zA1⟩ := hs1.cellA ip hip0 hip1
      obtain ⟨s3, hs3⟩ : ∃ s3, sA l0 ip.toNat = s3 := ⟨_, rfl⟩
      rw [hs3] at hA1 dA
      have n1 : IntKind.i64.wrap (sa + f2) = sa + f2 := IntWalk.i64_in _ (by have := HLN.out; omega)
      have n2 : IntKind.i64.wrap (sa + f2 + f1) = sa + f2 + f1 := IntWalk.i64_in _ (by have := HLN.out; omega)
      have n3 : IntKind.i64.wrap (sa + f2 + f1 + f3) = s3 := (IntWalk.i64_in _ (by have := HLN.out; omega)).trans hA1.symm
      have hs2 := hs1.setA ip s3
      have hit2 := (Below.heap_setCell W1 ⟨g, ip.toNat, none⟩ (.int .i64 s3) it (by dsimp; omega)).trans hit
      have hk2 : (W1.setCell ⟨g, ip.toNat, none⟩ (.int .i64 s3)).drew.cell? ⟨g + 1, 0, none⟩ = some (.slice (some ⟨g, 0, none⟩) (l0.length + 1) (l0.length + 1)) := hs2.c2.cell
      have hcA2 : (W1.setCell ⟨g, ip.toNat, none⟩ (.int .i64 s3)).drew.cell? ⟨g, i.toNat, none⟩ = some (.int .i64 sa) := by
        have := (hs2.cellA i hi0 hi2).1
        rw [rd_set_ne _ _ _ _ hi0 hip0 (by omega), rA] at this
        exact this
      have hy1 : (W1.setCell ⟨g, ip.toNat, none⟩ (.int .i64 s3)).drew.cell? ⟨it, 1, none⟩ = some (.int .i64 f1) := (blk_cell hit2 1).trans rfl
      have hy2 : (W1.setCell ⟨g, ip.toNat, none⟩ (.int .i64 s3)).drew.cell? ⟨it, 2, none⟩ = some (.int .i64 f2) := (blk_cell hit2 2).trans rfl
      have hy3 : (W1.setCell ⟨g, ip.toNat, none⟩ (.int .i64 s3)).drew.cell? ⟨it, 3, none⟩ = some (.int .i64 f3) := (blk_cell hit2 3).trans rfl
      have HY := Aside0.mk (And.intro hk2 (And.intro hcA2 (And.intro hy1 (And.intro hy2 hy3))))
      rw [dA] at hs2
      have HS2 := Aside0.mk (hs2.drewN 1)
      have HIT := Aside0.mk hit2
      have HD := Aside0.mk (And.intro dB dR)
      have HE := Aside0.mk (And.intro hB1 (And.intro hR1 (And.intro rB rR)))
      have HFF := Aside0.mk (And.intro hf0 (And.intro hf1 (And.intro hf2 hf3)))
      have HI := Aside0.mk (And.intro hip (And.intro hipn (And.intro hia (And.intro hib (And.intro hiR (And.intro hok hbig))))))
      have HG := Aside0.mk (And.intro hitt hgg)
      clear hs1 hit dA dB dR hB1 hR1 rA rB rR hf0 hf1 hf2 hf3 hip hipn hia hib hiR hok hitt hgg hA1 hs3 hbig HS hs2 hit2 hk2 hcA2 hy1 hy2 hy3
      go_region_held3 (fun w' => w'.cell? ⟨g + 1, 0, none⟩ = some (.slice (some ⟨g, 0, none⟩) (l0.length + 1) (l0.length + 1)) ∧ w'.cell? ⟨g, i.toNat, none⟩ = some (.int .i64 sa) ∧ w'.cell? ⟨it, 1, none⟩ = some (.int .i64 f1) ∧ w'.cell? ⟨it, 2, none⟩ = some (.int .i64 f2) ∧ w'.cell? ⟨it, 3, none⟩ = some (.int .i64 f3)) (first | exact ⟨k2, cA, y1, y2, y3⟩ | exact HY.out) (fail)
      clear y1 y2 y3 k2 cA cA1 zA1 n1 n2 n3 HY
      obtain ⟨W2, hW2⟩ : ∃ W2, W2 = (W1.setCell ⟨g, ip.toNat, none⟩ (.int .i64 s3)).drew := ⟨_, rfl⟩
      rw [← hW2]
      have hs2 : LnS w g l0.length (partTo (sA l0) l0.length ip.toNat) B R a1 W2 := by rw [hW2]; exact HS2.out
      have hit : W2.heap[it]? = some (.cells #[.int .i32 f0, .int .i64 f1, .int .i64 f2, .int .i64 f3] 36) := by rw [hW2]; exact HIT.out
      clear HS2 HIT hW2
      go_upto_region 13 with (fail)
      obtain ⟨rB, rR⟩ : rd B i = sb ∧ rd R i = sr := HE.out.2.2
      have q3 : W2.cell? ⟨g + 1 + 1 + 1, 0, none⟩ = some (.slice (some ⟨g + 1 + 1, 0, none⟩) (l0.length + 1) (l0.length + 1)) := hs2.c3.cell
      have q4 : W2.cell? ⟨g + 1 + 1 + 1 + 1 + 1, 0, none⟩ = some (.slice (some ⟨g + 1 + 1 + 1 + 1, 0, none⟩) (l0.length + 1) (l0.length + 1)) := hs2.c4.cell
      have qB : W2.cell? ⟨g + 1 + 1, i.toNat, none⟩ = some (.int .i64 sb) := by have := (hs2.cellB i hi0 hi2).1; rw [rB] at this; exact this
      obtain ⟨qb1, zb1⟩ : W2.cell? ⟨g + 1 + 1, ip.toNat, none⟩ = some (.int .i64 (rd B ip)) ∧ W2.frozen? ⟨g + 1 + 1, ip.toNat, none⟩ = false := hs2.cellB ip hip0 hip1
      obtain ⟨qr1, zr1⟩ : W2.cell? ⟨g + 1 + 1 + 1 + 1, ip.toNat, none⟩ = some (.int .i64 (rd R ip)) ∧ W2.frozen? ⟨g + 1 + 1 + 1 + 1, ip.toNat, none⟩ = false := hs2.cellR ip hip0 hip1
      have hne : i ≠ ip := by have := HI.out.1; omega
      have hS : ∀ X B' R', LnS w g l0.length (partTo (sA l0) l0.length ip.toNat) B' R' a1 X → rd B' i = sb → (X.drew.cell? ⟨g + 1 + 1 + 1, 0, none⟩ = some (.slice (some ⟨g + 1 + 1, 0, none⟩) (l0.length + 1) (l0.length + 1)) ∧ X.drew.cell? ⟨g + 1 + 1 + 1 + 1 + 1, 0, none⟩ = some (.slice (some ⟨g + 1 + 1 + 1 + 1, 0, none⟩) (l0.length + 1) (l0.length + 1)) ∧ X.drew.cell? ⟨g + 1 + 1, i.toNat, none⟩ = some (.int .i64 sb)) :=
        fun X B' R' h hb => ⟨h.c3.cell, h.c4.cell, by have := (h.cellB i hi0 hi2).1; rw [hb] at this; exact this⟩
      have eB : rd (B.set ip.toNat sb) i = sb := by rw [rd_set_ne _ _ _ _ hi0 hip0 hne, rB]
      have hB' : LnS w g l0.length (partTo (sA l0) l0.length ip.toNat) (B.set ip.toNat sb) R a1 (W2.setCell ⟨g + 1 + 1, ip.toNat, none⟩ (.int .i64 sb)) := hs2.setB ip sb
      have hR' : LnS w g l0.length (partTo (sA l0) l0.length ip.toNat) B (R.set ip.toNat ip) a1 (W2.setCell ⟨g + 1 + 1 + 1 + 1, ip.toNat, none⟩ (.int .i64 ip)) := hs2.setR ip ip
      have hBR : LnS w g l0.length (partTo (sA l0) l0.length ip.toNat) (B.set ip.toNat sb) (R.set ip.toNat ip) a1 ((W2.setCell ⟨g + 1 + 1, ip.toNat, none⟩ (.int .i64 sb)).setCell ⟨g + 1 + 1 + 1 + 1, ip.toNat, none⟩ (.int .i64 ip)) := hB'.setR ip ip
      have hRB : LnS w g l0.length (partTo (sA l0) l0.length ip.toNat) (B.set ip.toNat sb) (R.set ip.toNat ip) a1 ((W2.setCell ⟨g + 1 + 1 + 1 + 1, ip.toNat, none⟩ (.int .i64 ip)).setCell ⟨g + 1 + 1, ip.toNat, none⟩ (.int .i64 sb)) := hR'.setB ip sb
      have HK := Aside0.mk (And.intro (hS _ _ _ hB' eB) (And.intro (hS _ _ _ hR' rB) (And.intro (hS _ _ _ hBR eB) (hS _ _ _ hRB eB))))
      have hbg := HI.out.2.2.2.2.2.2
      have hi3 : ((W2.setCell ⟨g + 1 + 1, ip.toNat, none⟩ (.int .i64 sb)).setCell ⟨g + 1 + 1 + 1 + 1, ip.toNat, none⟩ (.int .i64 ip)).heap[it]? = some (.cells #[.int .i32 f0, .int .i64 f1, .int .i64 f2, .int .i64 f3] 36) := (Below.heap_setCell _ _ _ it (by dsimp; omega)).trans ((Below.heap_setCell _ _ _ it (by dsimp; omega)).trans hit)
      have hi4 : ((W2.setCell ⟨g + 1 + 1 + 1 + 1, ip.toNat, none⟩ (.int .i64 ip)).setCell ⟨g + 1 + 1, ip.toNat, none⟩ (.int .i64 sb)).heap[it]? = some (.cells #[.int .i32 f0, .int .i64 f1, .int .i64 f2, .int .i64 f3] 36) := (Below.heap_setCell _ _ _ it (by dsimp; omega)).trans ((Below.heap_setCell _ _ _ it (by dsimp; omega)).trans hit)
      have HL := Aside0.mk (And.intro (And.intro (hBR.drewN 1) hi3) (And.intro (hRB.drewN 1) hi4))
      clear hs2 hit rB rR hS eB hB' hR' hBR hRB hi3 hi4 hne hbg
      go_region_held3 (fun w' => w'.cell? ⟨g + 1 + 1 + 1, 0, none⟩ = some (.slice (some ⟨g + 1 + 1, 0, none⟩) (l0.length + 1) (l0.length + 1)) ∧ w'.cell? ⟨g + 1 + 1 + 1 + 1 + 1, 0, none⟩ = some (.slice (some ⟨g + 1 + 1 + 1 + 1, 0, none⟩) (l0.length + 1) (l0.length + 1)) ∧ w'.cell? ⟨g + 1 + 1, i.toNat, none⟩ = some (.int .i64 sb)) (first | exact ⟨q3, q4, qB⟩ | exact HK.out.1 | exact HK.out.2.1 | exact HK.out.2.2.1 | exact HK.out.2.2.2) (fail)
      clear HK q3 q4 qB qb1 zb1 qr1 zr1
      obtain ⟨W3, hW3⟩ : ∃ W3, W3 = (((W2.setCell ⟨g + 1 + 1, ip.toNat, none⟩ (.int .i64 sb)).setCell ⟨g + 1 + 1 + 1 + 1, ip.toNat, none⟩ (.int .i64 ip)).drew) := ⟨_, rfl⟩
      rw [← hW3]
      have HS3 : Aside0 (LnS w g l0.length (partTo (sA l0) l0.length ip.toNat) (B.set ip.toNat sb) (R.set ip.toNat ip) a1 W3) := ⟨by rw [hW3]; exact HL.out.1.1⟩
      have HIT3 : Aside0 (W3.heap[it]? = some (.cells #[.int .i32 f0, .int .i64 f1, .int .i64 f2, .int .i64 f3] 36)) := ⟨by rw [hW3]; exact HL.out.1.2⟩
      clear hW3 HL
      have n2_ := HIT3.out
      have z0 : W3.cell? ⟨it, 0, none⟩ = some (.int .i32 f0) := (blk_cell n2_ 0).trans rfl
      have z1 : W3.cell? ⟨it, 1, none⟩ = some (.int .i64 f1) := (blk_cell n2_ 1).trans rfl
      have z2 : W3.cell? ⟨it, 2, none⟩ = some (.int .i64 f2) := (blk_cell n2_ 2).trans rfl
      have z3 : W3.cell? ⟨it, 3, none⟩ = some (.int .i64 f3) := (blk_cell n2_ 3).trans rfl
      clear n2_
      have hxx : rd_T36 l0 i = ⟨f0, f1, f2, f3⟩ := by obtain ⟨h0, h1, h2, h3⟩ := HFF.out; rw [← h0, ← h1, ← h2, ← h3]
      obtain ⟨bk, hbk⟩ : ∃ bk, brBlank ⟨f0, f1, f2, f3⟩ = bk := ⟨_, rfl⟩
      obtain ⟨bs, hbs⟩ : ∃ bs, brSilent ⟨f0, f1, f2, f3⟩ = bs := ⟨_, rfl⟩
      have BL : ∀ W, Calls Try.prog 25 #[.agg #[.int .i32 f0, .int .i64 f1, .int .i64 f2, .int .i64 f3]] W fun e w' => e = .returned (.bool bk) ∧ w' = W.alloc (.cells #[.int .i32 f0, .int .i64 f1, .int .i64 f2, .int .i64 f3] 36) := fun W => by have := blank_c ⟨f0, f1, f2, f3⟩ W; rw [hbk] at this; exact this
      have SI : ∀ W, Calls Try.prog 26 #[.agg #[.int .i32 f0, .int .i64 f1, .int .i64 f2, .int .i64 f3]] W fun e w' => e = .returned (.bool bs) ∧ w' = W.alloc (.cells #[.int .i32 f0, .int .i64 f1, .int .i64 f2, .int .i64 f3] 36) := fun W => by have := silent_c ⟨f0, f1, f2, f3⟩ W; rw [hbs] at this; exact this
      have hE := HE.out
      rw [hxx, hbk, hbs] at hE
      have HE2 := Aside0.mk hE
      clear hE hxx hbk hbs HE HFF
      cases bk with
      | true =>
        go_upto_region 15 with (go_at_call 25; (with_reducible refine (BL _).mono ?_); rintro e w4 ⟨rfl, hwn⟩; have n1_ := Aside0.mk (LnS_eq hwn HS3.out); have n2_ := it_eq hwn HIT3.out; clear HS3 HIT3 z0 z1 z2 z3 hwn; have HS3 := n1_; have HIT3 := Aside0.mk n2_; have z0 : w4.cell? ⟨it, 0, none⟩ = some (.int .i32 f0) := (blk_cell n2_ 0).trans rfl; have z1 : w4.cell? ⟨it, 1, none⟩ = some (.int .i64 f1) := (blk_cell n2_ 1).trans rfl; have z2 : w4.cell? ⟨it, 2, none⟩ = some (.int .i64 f2) := (blk_cell n2_ 2).trans rfl; have z3 : w4.cell? ⟨it, 3, none⟩ = some (.int .i64 f3) := (blk_cell n2_ 3).trans rfl; clear n1_ n2_)
        have hs := HS3.out
        have k3 : w4.cell? ⟨g + 1 + 1 + 1, 0, none⟩ = some (.slice (some ⟨g + 1 + 1, 0, none⟩) (l0.length + 1) (l0.length + 1)) := hs.c3.cell
        have hbl : B.length = l0.length + 1 := by have := hs.lb; rwa [List.length_set] at this
        have rB1 : rd (B.set ip.toNat sb) ip = sb := by unfold rd; rw [List.getD_eq_getElem?_getD, List.getElem?_set_self (by omega)]; rfl
        obtain ⟨cb, zb⟩ : w4.cell? ⟨g + 1 + 1, ip.toNat, none⟩ = some (.int .i64 sb) ∧ w4.frozen? ⟨g + 1 + 1, ip.toNat, none⟩ = false := by have := hs.cellB ip hip0 hip1; rw [rB1] at this; exact this
        obtain ⟨s4, hs4⟩ : ∃ s4, sb + f1 = s4 := ⟨_, rfl⟩
        have n4 : IntKind.i64.wrap (sb + f1) = s4 := (IntWalk.i64_in _ (by have h := HI.out; have := HLN.out; omega)).trans hs4
        have hs5 := hs.setB ip s4
        rw [List.set_set] at hs5
        have hbg := HI.out.2.2.2.2.2.2
        have hi5 : (w4.setCell ⟨g + 1 + 1, ip.toNat, none⟩ (.int .i64 s4)).heap[it]? = some (.cells #[.int .i32 f0, .int .i64 f1, .int .i64 f2, .int .i64 f3] 36) := (Below.heap_setCell _ _ _ it (by dsimp; omega)).trans HIT3.out
        have KK : (w4.setCell ⟨g + 1 + 1, ip.toNat, none⟩ (.int .i64 s4)).drew.cell? ⟨g + 1 + 1 + 1, 0, none⟩ = some (.slice (some ⟨g + 1 + 1, 0, none⟩) (l0.length + 1) (l0.length + 1)) ∧ (w4.setCell ⟨g + 1 + 1, ip.toNat, none⟩ (.int .i64 s4)).drew.cell? ⟨it, 1, none⟩ = some (.int .i64 f1) := ⟨hs5.c3.cell, (blk_cell hi5 1).trans rfl⟩
        have HKK := Aside0.mk KK
        have HS5 := Aside0.mk (hs5.drewN 1)
        have HI5 := Aside0.mk hi5
        have HS4 := Aside0.mk hs4
        clear hs hs5 KK hbl rB1 hi5 hs4 hbg
        go_still_tail 9, (by kernel_rfl)
        change wpList _ _ _ _ _ w4.drew
        go_upto_region 16 with (fail)
        clear HS3 HIT3 z0 z1 z2 z3 k3 cb zb n4 HKK
        obtain ⟨W5, hW5⟩ : ∃ W5, W5 = (w4.setCell ⟨g + 1 + 1, ip.toNat, none⟩ (.int .i64 s4)).drew := ⟨_, rfl⟩
        rw [← hW5]
        have HS3 : Aside0 (LnS w g l0.length (partTo (sA l0) l0.length ip.toNat) (B.set ip.toNat s4) (R.set ip.toNat ip) a1 W5) := ⟨by rw [hW5]; exact HS5.out⟩
        have HIT3 : Aside0 (W5.heap[it]? = some (.cells #[.int .i32 f0, .int .i64 f1, .int .i64 f2, .int .i64 f3] 36)) := ⟨by rw [hW5]; exact HI5.out⟩
        have n2_ := HIT3.out
        have z0 : W5.cell? ⟨it, 0, none⟩ = some (.int .i32 f0) := (blk_cell n2_ 0).trans rfl
        have z1 : W5.cell? ⟨it, 1, none⟩ = some (.int .i64 f1) := (blk_cell n2_ 1).trans rfl
        have z2 : W5.cell? ⟨it, 2, none⟩ = some (.int .i64 f2) := (blk_cell n2_ 2).trans rfl
        have z3 : W5.cell? ⟨it, 3, none⟩ = some (.int .i64 f3) := (blk_cell n2_ 3).trans rfl
        clear n2_ hW5 HS5 HI5
        go_upto_region 17 with (go_at_call 25; (with_reducible refine (BL _).mono ?_); rintro e w6 ⟨rfl, hwn⟩; have n1_ := Aside0.mk (LnS_eq hwn HS3.out); have n2_ := it_eq hwn HIT3.out; clear HS3 HIT3 z0 z1 z2 z3 hwn; have HS3 := n1_; have HIT3 := Aside0.mk n2_; have z0 : w6.cell? ⟨it, 0, none⟩ = some (.int .i32 f0) := (blk_cell n2_ 0).trans rfl; have z1 : w6.cell? ⟨it, 1, none⟩ = some (.int .i64 f1) := (blk_cell n2_ 1).trans rfl; have z2 : w6.cell? ⟨it, 2, none⟩ = some (.int .i64 f2) := (blk_cell n2_ 2).trans rfl; have z3 : w6.cell? ⟨it, 3, none⟩ = some (.int .i64 f3) := (blk_cell n2_ 3).trans rfl; clear n1_ n2_)
        have hs := HS3.out
        have hne : i ≠ ip := by have := HI.out.1; omega
        have k4 : w6.cell? ⟨g + 1 + 1 + 1 + 1 + 1, 0, none⟩ = some (.slice (some ⟨g + 1 + 1 + 1 + 1, 0, none⟩) (l0.length + 1) (l0.length + 1)) := hs.c4.cell
        have cr : w6.cell? ⟨g + 1 + 1 + 1 + 1, i.toNat, none⟩ = some (.int .i64 sr) := by have := (hs.cellR i hi0 hi2).1; rw [rd_set_ne _ _ _ _ hi0 hip0 hne, HE2.out.2.2.2] at this; exact this
        obtain ⟨cr1, zr1⟩ : (∃ x, w6.cell? ⟨g + 1 + 1 + 1 + 1, ip.toNat, none⟩ = some (.int .i64 x)) ∧ w6.frozen? ⟨g + 1 + 1 + 1 + 1, ip.toNat, none⟩ = false := ⟨⟨_, (hs.cellR ip hip0 hip1).1⟩, (hs.cellR ip hip0 hip1).2⟩
        obtain ⟨xr, cr1⟩ := cr1
        have hs7 := hs.setR ip sr
        have KK : (w6.setCell ⟨g + 1 + 1 + 1 + 1, ip.toNat, none⟩ (.int .i64 sr)).drew.cell? ⟨g + 1 + 1 + 1 + 1 + 1, 0, none⟩ = some (.slice (some ⟨g + 1 + 1 + 1 + 1, 0, none⟩) (l0.length + 1) (l0.length + 1)) ∧ (w6.setCell ⟨g + 1 + 1 + 1 + 1, ip.toNat, none⟩ (.int .i64 sr)).drew.cell? ⟨g + 1 + 1 + 1 + 1, i.toNat, none⟩ = some (.int .i64 sr) := ⟨hs7.c4.cell, by have := (hs7.cellR i hi0 hi2).1; rw [rd_set_ne _ _ _ _ hi0 hip0 hne, rd_set_ne _ _ _ _ hi0 hip0 hne, HE2.out.2.2.2] at this; exact this⟩
        have HKK := Aside0.mk KK
        have HS7 := Aside0.mk (hs7.drewN 1)
        clear hs hs7 KK hne HS3 HIT3 z0 z1 z2 z3
        go_region_held3 (fun w' => w'.cell? ⟨g + 1 + 1 + 1 + 1 + 1, 0, none⟩ = some (.slice (some ⟨g + 1 + 1 + 1 + 1, 0, none⟩) (l0.length + 1) (l0.length + 1)) ∧ w'.cell? ⟨g + 1 + 1 + 1 + 1, i.toNat, none⟩ = some (.int .i64 sr)) (first | exact ⟨k4, cr⟩ | exact HKK.out) (fail)
        go_wp2
        obtain ⟨rfl, rfl⟩ := HG.out
        go_roundw
        case rel =>
          refine ⟨ip, by omega, by have := HI.out.1; omega, rfl, ⟨?_⟩⟩
          have h := HS7.out
          rw [show (R.set ip.toNat ip).set ip.toNat sr = partTo (sR l0) l0.length ip.toNat from by rw [List.set_set, ← HD.out.2, HE2.out.2.1]; first | rfl | simp, show B.set ip.toNat s4 = partTo (sB l0) l0.length ip.toNat from by rw [← HD.out.1, HE2.out.1, ← HS4.out]; first | rfl | simp] at h
          exact h
        case measure => have := HI.out.1; simp [intOf]; omega
      | false =>
        cases bs with
        | true =>
          go_upto_region 17 with (first | (go_at_call 25; (with_reducible refine (BL _).mono ?_); rintro e w6 ⟨rfl, hwn⟩; have n1_ := Aside0.mk (LnS_eq hwn HS3.out); have n2_ := it_eq hwn HIT3.out; clear HS3 HIT3 z0 z1 z2 z3 hwn; have HS3 := n1_; have HIT3 := Aside0.mk n2_; have z0 : w6.cell? ⟨it, 0, none⟩ = some (.int .i32 f0) := (blk_cell n2_ 0).trans rfl; have z1 : w6.cell? ⟨it, 1, none⟩ = some (.int .i64 f1) := (blk_cell n2_ 1).trans rfl; have z2 : w6.cell? ⟨it, 2, none⟩ = some (.int .i64 f2) := (blk_cell n2_ 2).trans rfl; have z3 : w6.cell? ⟨it, 3, none⟩ = some (.int .i64 f3) := (blk_cell n2_ 3).trans rfl; clear n1_ n2_) | (go_at_call 26; (with_reducible refine (SI _).mono ?_); rintro e w6 ⟨rfl, hwn⟩; have n1_ := Aside0.mk (LnS_eq hwn HS3.out); have n2_ := it_eq hwn HIT3.out; clear HS3 HIT3 z0 z1 z2 z3 hwn; have HS3 := n1_; have HIT3 := Aside0.mk n2_; have z0 : w6.cell? ⟨it, 0, none⟩ = some (.int .i32 f0) := (blk_cell n2_ 0).trans rfl; have z1 : w6.cell? ⟨it, 1, none⟩ = some (.int .i64 f1) := (blk_cell n2_ 1).trans rfl; have z2 : w6.cell? ⟨it, 2, none⟩ = some (.int .i64 f2) := (blk_cell n2_ 2).trans rfl; have z3 : w6.cell? ⟨it, 3, none⟩ = some (.int .i64 f3) := (blk_cell n2_ 3).trans rfl; clear n1_ n2_))
          have hs := HS3.out
          have hne : i ≠ ip := by have := HI.out.1; omega
          have k4 : w6.cell? ⟨g + 1 + 1 + 1 + 1 + 1, 0, none⟩ = some (.slice (some ⟨g + 1 + 1 + 1 + 1, 0, none⟩) (l0.length + 1) (l0.length + 1)) := hs.c4.cell
          have cr : w6.cell? ⟨g + 1 + 1 + 1 + 1, i.toNat, none⟩ = some (.int .i64 sr) := by have := (hs.cellR i hi0 hi2).1; rw [rd_set_ne _ _ _ _ hi0 hip0 hne, HE2.out.2.2.2] at this; exact this
          obtain ⟨cr1, zr1⟩ : (∃ x, w6.cell? ⟨g + 1 + 1 + 1 + 1, ip.toNat, none⟩ = some (.int .i64 x)) ∧ w6.frozen? ⟨g + 1 + 1 + 1 + 1, ip.toNat, none⟩ = false := ⟨⟨_, (hs.cellR ip hip0 hip1).1⟩, (hs.cellR ip hip0 hip1).2⟩
          obtain ⟨xr, cr1⟩ := cr1
          have hs7 := hs.setR ip sr
          have KK : (w6.setCell ⟨g + 1 + 1 + 1 + 1, ip.toNat, none⟩ (.int .i64 sr)).drew.cell? ⟨g + 1 + 1 + 1 + 1 + 1, 0, none⟩ = some (.slice (some ⟨g + 1 + 1 + 1 + 1, 0, none⟩) (l0.length + 1) (l0.length + 1)) ∧ (w6.setCell ⟨g + 1 + 1 + 1 + 1, ip.toNat, none⟩ (.int .i64 sr)).drew.cell? ⟨g + 1 + 1 + 1 + 1, i.toNat, none⟩ = some (.int .i64 sr) := ⟨hs7.c4.cell, by have := (hs7.cellR i hi0 hi2).1; rw [rd_set_ne _ _ _ _ hi0 hip0 hne, rd_set_ne _ _ _ _ hi0 hip0 hne, HE2.out.2.2.2] at this; exact this⟩
          have HKK := Aside0.mk KK
          have HS7 := Aside0.mk (hs7.drewN 1)
          clear hs hs7 KK hne HS3 HIT3 z0 z1 z2 z3
          go_region_held3 (fun w' => w'.cell? ⟨g + 1 + 1 + 1 + 1 + 1, 0, none⟩ = some (.slice (some ⟨g + 1 + 1 + 1 + 1, 0, none⟩) (l0.length + 1) (l0.length + 1)) ∧ w'.cell? ⟨g + 1 + 1 + 1 + 1, i.toNat, none⟩ = some (.int .i64 sr)) (first | exact ⟨k4, cr⟩ | exact HKK.out) (fail)
          go_wp2
          obtain ⟨rfl, rfl⟩ := HG.out
          go_roundw
          case rel =>
            refine ⟨ip, by omega, by have := HI.out.1; omega, rfl, ⟨?_⟩⟩
            have h := HS7.out
            rw [show (R.set ip.toNat ip).set ip.toNat sr = partTo (sR l0) l0.length ip.toNat from by rw [List.set_set, ← HD.out.2, HE2.out.2.1]; first | rfl | simp, show B.set ip.toNat sb = partTo (sB l0) l0.length ip.toNat from by rw [← HD.out.1, HE2.out.1]; first | rfl | simp] at h
            exact h
          case measure => have := HI.out.1; simp [intOf]; omega
        | false =>
          go_wp2_with (first | (go_at_call 25; (with_reducible refine (BL _).mono ?_); rintro e w6 ⟨rfl, hwn⟩; have n1_ := Aside0.mk (LnS_eq hwn HS3.out); have n2_ := it_eq hwn HIT3.out; clear HS3 HIT3 z0 z1 z2 z3 hwn; have HS3 := n1_; have HIT3 := Aside0.mk n2_; have z0 : w6.cell? ⟨it, 0, none⟩ = some (.int .i32 f0) := (blk_cell n2_ 0).trans rfl; have z1 : w6.cell? ⟨it, 1, none⟩ = some (.int .i64 f1) := (blk_cell n2_ 1).trans rfl; have z2 : w6.cell? ⟨it, 2, none⟩ = some (.int .i64 f2) := (blk_cell n2_ 2).trans rfl; have z3 : w6.cell? ⟨it, 3, none⟩ = some (.int .i64 f3) := (blk_cell n2_ 3).trans rfl; clear n1_ n2_) | (go_at_call 26; (with_reducible refine (SI _).mono ?_); rintro e w6 ⟨rfl, hwn⟩; have n1_ := Aside0.mk (LnS_eq hwn HS3.out); have n2_ := it_eq hwn HIT3.out; clear HS3 HIT3 z0 z1 z2 z3 hwn; have HS3 := n1_; have HIT3 := Aside0.mk n2_; have z0 : w6.cell? ⟨it, 0, none⟩ = some (.int .i32 f0) := (blk_cell n2_ 0).trans rfl; have z1 : w6.cell? ⟨it, 1, none⟩ = some (.int .i64 f1) := (blk_cell n2_ 1).trans rfl; have z2 : w6.cell? ⟨it, 2, none⟩ = some (.int .i64 f2) := (blk_cell n2_ 2).trans rfl; have z3 : w6.cell? ⟨it, 3, none⟩ = some (.int .i64 f3) := (blk_cell n2_ 3).trans rfl; clear n1_ n2_))
          obtain ⟨rfl, rfl⟩ := HG.out
          go_roundw
          case rel =>
            refine ⟨ip, by omega, by have := HI.out.1; omega, rfl, ⟨?_⟩⟩
            have h := HS3.out
            rw [show R.set ip.toNat ip = partTo (sR l0) l0.length ip.toNat from by rw [← HD.out.2, HE2.out.2.1]; congr 1; exact HI.out.1, show B.set ip.toNat sb = partTo (sB l0) l0.length ip.toNat from by rw [← HD.out.1, HE2.out.1]; first | rfl | simp] at h
            exact h
          case measure => have := HI.out.1; simp [intOf]; omega
    · obtain rfl : i = l0.length := by omega
      have bl : decide ((l0.length : Int) < (l0.length : Int)) = false := by simp
      have BRI := fun W => br_in A0 l0.length c0 W
      go_wp2_with (go_at_call 29; (with_reducible refine (BRI _).mono ?_); rintro e w' ⟨rfl, rfl⟩)
      obtain ⟨W9, hW9⟩ : ∃ W9, W9 = ((((((wr.alloc (.cells #[.func (.func 27) #[] #[.pointer (some ⟨w1.heap.size + 1, 0, none⟩), .pointer (some ⟨w1.heap.size + 1 + 1 + 1, 0, none⟩), .pointer (some ⟨w1.heap.size + 1 + 1 + 1 + 1 + 1, 0, none⟩), .pointer (some ⟨w.heap.size, 0, none⟩)]] 50)).alloc (.cells #[.int .i64 0] 3)).alloc (.cells #[.slice (some ⟨wr.heap.size + 1, 0, none⟩) 1 1] 31)).alloc (.cells #[.int .i64 0] 3)).alloc (.cells #[.int .i64 (-1)] 3)).alloc (.cells #[.func (.func 28) #[] #[.pointer (some ⟨wr.heap.size + 1 + 1 + 1 + 1, 0, none⟩), .pointer (some ⟨wr.heap.size + 1 + 1 + 1, 0, none⟩), .pointer (some ⟨wr.heap.size, 0, none⟩), .pointer (some ⟨wr.heap.size + 1 + 1, 0, none⟩)]] 51)).alloc (.cells #[.slice A0 l0.length c0] 22) := ⟨_, rfl⟩
      rw [← hW9]
      obtain ⟨hSt, bS, hBw⟩ := BrSt_start wr (.func (.func 27) #[] #[.pointer (some ⟨w1.heap.size + 1, 0, none⟩), .pointer (some ⟨w1.heap.size + 1 + 1 + 1, 0, none⟩), .pointer (some ⟨w1.heap.size + 1 + 1 + 1 + 1 + 1, 0, none⟩), .pointer (some ⟨w.heap.size, 0, none⟩)]) (.slice A0 l0.length c0) trivial
      rw [← hW9] at hSt bS hBw
      have hs := HS.out
      rw [Int.toNat_natCast] at hs
      have hFx : BrFix (wr.alloc (.cells #[.func (.func 27) #[] #[.pointer (some ⟨w1.heap.size + 1, 0, none⟩), .pointer (some ⟨w1.heap.size + 1 + 1 + 1, 0, none⟩), .pointer (some ⟨w1.heap.size + 1 + 1 + 1 + 1 + 1, 0, none⟩), .pointer (some ⟨w.heap.size, 0, none⟩)]] 50)) (wr.heap.size + 1) wr.heap.size (w1.heap.size + 1) (w1.heap.size + 1 + 1 + 1) (w1.heap.size + 1 + 1 + 1 + 1 + 1) w.heap.size w1.heap.size (w1.heap.size + 1 + 1) (w1.heap.size + 1 + 1 + 1 + 1) l0.length (partTo (sA l0) l0.length l0.length) (partTo (sB l0) l0.length l0.length) (partTo (sR l0) l0.length l0.length) a1 :=
        ⟨hs.c2.alloc _, hs.c3.alloc _, hs.c4.alloc _, hs.c5.alloc _, Boxed.new wr 50 _, Kd.C_alloc hs.cA _, Kd.C_alloc hs.cB _, Kd.C_alloc hs.cR _, by simp, sums_ok HOK.out HLN.out, HLN.out⟩
      have HFX := Aside0.mk hFx
      have hB9 : Below w.heap.size w W9 := below_then hs.keep hs.keep.size hBw
      have hws := hs.keep.size
      have HKP : Aside0 (Below w.heap.size w (wr.alloc (.cells #[.func (.func 27) #[] #[.pointer (some ⟨w1.heap.size + 1, 0, none⟩), .pointer (some ⟨w1.heap.size + 1 + 1 + 1, 0, none⟩), .pointer (some ⟨w1.heap.size + 1 + 1 + 1 + 1 + 1, 0, none⟩), .pointer (some ⟨w.heap.size, 0, none⟩)]] 50))) := ⟨below_alloc hs.keep _⟩
      have hsz : W9.heap.size = wr.heap.size + 1 + 6 := by rw [hW9]; simp
      clear hFx hs HS hW9 hBw BRI
      refine (wpIn_wide (n := 3)).1 ?_
      refine wpIn_rangeFunc_ownG (F := Fence.wide) (n := 3) rfl (by decide) (gf := 35) (lb := #[.pointer (some ⟨wr.heap.size + 1 + 1 + 1 + 1 + 1 + 1, 0, none⟩)]) rfl trivial (enters_of Try.func35 (by kernel_rfl) rfl)
        (br_stops 2 (by decide) (wr.heap.size + 1 + 1 + 1 + 1 + 1 + 1) c0 A0 l0 w W9 HR0.out (by have := HLN.out; omega) hB9 bS) (fun h k => KpB.trans h k) (KpB_b (by omega) (by omega)) (Below.refl _ _) (fun _ => rfl)
        (BrI (wr.alloc (.cells #[.func (.func 27) #[] #[.pointer (some ⟨w1.heap.size + 1, 0, none⟩), .pointer (some ⟨w1.heap.size + 1 + 1 + 1, 0, none⟩), .pointer (some ⟨w1.heap.size + 1 + 1 + 1 + 1 + 1, 0, none⟩), .pointer (some ⟨w.heap.size, 0, none⟩)]] 50)) (wr.heap.size + 1) wr.heap.size l0 a1) (fun _ _ _ => False) (BrI_own _ _ _ _ _ W9.heap.size (by omega)) (fun _ _ _ _ _ hs _ _ => hs) ⟨_, hSt⟩
        (fun x => { tmps := #[Value.slice A0 l0.length c0, Value.int IntKind.i64 a1, undef, Value.pointer (some { block := w.heap.size, off := 0 }), Value.slice none 0 0, Value.int IntKind.i64 0, Value.int IntKind.i64 0, Value.pointer (some { block := w1.heap.size + 1, off := 0 }), Value.pointer (some { block := w1.heap.size + 1 + 1 + 1, off := 0 }), Value.pointer (some { block := w1.heap.size + 1 + 1 + 1 + 1 + 1, off := 0 }), u10, u11, Value.pointer (some { block := wr.heap.size, off := 0 }), Value.pointer (some { block := wr.heap.size + 1 + 1, off := 0 }), Value.pointer (some { block := wr.heap.size + 1 + 1 + 1, off := 0 }), Value.pointer (some { block := wr.heap.size + 1 + 1 + 1 + 1, off := 0 }), Value.pointer (some { block := wr.heap.size + 1 + 1 + 1 + 1 + 1, off := 0 }), Value.int IntKind.i64 x.1.1, Value.bool x.1.2, Value.slice A0 l0.length c0, Value.int IntKind.i64 0, Value.int IntKind.i64 0, Value.bool false, undef, Value.int IntKind.i64 a1, Value.bool false, Value.bool false, Value.int IntKind.i64 a1, Value.bool false, Value.bool false, Value.slice A0 l0.length c0, Value.int IntKind.i64 ↑l0.length, Value.int IntKind.i64 (↑l0.length + 1), Value.slice (some { block := w1.heap.size, off := 0 }) (l0.length + 1) (l0.length + 1), Value.slice A0 l0.length c0, Value.int IntKind.i64 ↑l0.length, Value.int IntKind.i64 (↑l0.length + 1), Value.slice (some { block := w1.heap.size + 1 + 1, off := 0 }) (l0.length + 1) (l0.length + 1), Value.slice A0 l0.length c0, Value.int IntKind.i64 ↑l0.length, Value.int IntKind.i64 (↑l0.length + 1), Value.slice (some { block := w1.heap.size + 1 + 1 + 1 + 1, off := 0 }) (l0.length + 1) (l0.length + 1), Value.slice A0 l0.length c0, Value.int IntKind.i64 ↑l0.length, Value.int IntKind.i64 ↑l0.length, Value.bool false, u46, u47, u48, u49, u50, u51, u52, u53, u54, u55, u56, u57, u58, u59, u60, u61, u62, u63, u64, u65, u66, u67, u68, u69, u70, u71, u72, u73, u74, u75, u76, u77, u78, u79, u80, u81, u82, u83, u84, u85, u86, u87, u88, u89, u90, u91, u92, u93, u94, u95, u96, u97, u98, u99, u100, u101, u102, u103, u104, u105, Value.func (Fn.func 27) #[] #[Value.pointer (some { block := w1.heap.size + 1, off := 0 }), Value.pointer (some { block := w1.heap.size + 1 + 1 + 1, off := 0 }), Value.pointer (some { block := w1.heap.size + 1 + 1 + 1 + 1 + 1, off := 0 }), Value.pointer (some { block := w.heap.size, off := 0 })], Value.slice (some { block := wr.heap.size + 1, off := 0 }) 1 1, Value.func (Fn.func 28) #[] #[Value.pointer (some { block := wr.heap.size + 1 + 1 + 1 + 1, off := 0 }), Value.pointer (some { block := wr.heap.size + 1 + 1 + 1, off := 0 }), Value.pointer (some { block := wr.heap.size, off := 0 }), Value.pointer (some { block := wr.heap.size + 1 + 1, off := 0 })], Value.slice A0 l0.length c0, Value.func (Fn.func 35) #[] #[Value.pointer (some { block := wr.heap.size + 1 + 1 + 1 + 1 + 1 + 1, off := 0 })], Value.int IntKind.i64 x.1.1, Value.bool x.1.2, undef, undef, undef, undef, undef, undef, undef, undef, undef, undef, undef, undef, undef, undef, undef, undef, undef, undef, undef, undef], defers := [] }) ?assign ?body ?done ?stop
      case assign =>
        intro l x W K hK
        dsimp only [encBr]
        gi_wp2
        exact hK
      case body =>
        rintro l pre x W ⟨vo, h⟩ hlt
        have hb := brRun_in l0 a1 pre
        have ST := step_c HFX.out h x.1.1 x.1.2 (by have := x.2; omega) (by have := x.2; omega) hb.1 hb.2.1 hb.2.2.1 hb.2.2.2.1 (by have := hb.2.2.2.2; have := HLN.out; omega)
        have cT : W.cell? ⟨wr.heap.size + 1 + 1 + 1 + 1 + 1, 0, none⟩ = some (.func (.func 28) #[] #[.pointer (some ⟨wr.heap.size + 1 + 1 + 1 + 1, 0, none⟩), .pointer (some ⟨wr.heap.size + 1 + 1 + 1, 0, none⟩), .pointer (some ⟨wr.heap.size, 0, none⟩), .pointer (some ⟨wr.heap.size + 1 + 1, 0, none⟩)]) := h.cT.cell
        have H := Aside0.mk h
        have STA := Aside0.mk ST
        clear h ST hb
        gi_wp2
        refine ⟨trivial, ?_⟩
        refine (CallsIn.inRound l (callsIn_wide.2 STA.out)).mono ?_
        rintro e w' ⟨rfl, vo', h', hk'⟩
        gi_wp2
        exact ⟨hk'.2.2.from _, ⟨hk'.1.mono (by omega), hk'.2.1⟩, vo', by rw [brRun_snoc]; exact h'⟩
      case done =>
        rintro D ys W hD rfl ⟨vo, h⟩ hK
        have hbn := brRun_in l0 a1 (brTo l0 l0.length)
        have hbl := brTo_length l0 l0.length
        have HBR : Aside0 (brLines l0 a1 = if (brRun l0 a1 (brTo l0 l0.length)).1 < (brRun l0 a1 (brTo l0 l0.length)).2.1 ∧ brFit (partTo (sA l0) l0.length l0.length) (partTo (sB l0) l0.length l0.length) (partTo (sR l0) l0.length l0.length) a1 (brRun l0 a1 (brTo l0 l0.length)).1 l0.length = false then (brRun l0 a1 (brTo l0 l0.length)).2.2 ++ [(brRun l0 a1 (brTo l0 l0.length)).2.1] else (brRun l0 a1 (brTo l0 l0.length)).2.2) := ⟨rfl⟩
        generalize (brRun l0 a1 (brTo l0 l0.length)).2.2 = out at h hbn HBR
        generalize (brRun l0 a1 (brTo l0 l0.length)).2.1 = last at h hbn HBR
        generalize (brRun l0 a1 (brTo l0 l0.length)).1 = s at h hbn HBR
        have HH := Aside0.mk h
        have HD := Aside0.mk hK
        have HLO := Aside0.mk (show out.length + 1 < 17592186044416 by have := hbn.2.2.2.2; have := HLN.out; omega)
        have cL : W.cell? ⟨wr.heap.size + 1 + 1 + 1 + 1, 0, none⟩ = some (.int .i64 last) := h.cL.cell
        have cS : W.cell? ⟨wr.heap.size + 1 + 1 + 1, 0, none⟩ = some (.int .i64 s) := h.cS.cell
        have cO : W.cell? ⟨wr.heap.size + 1 + 1, 0, none⟩ = some vo := h.cO.cell
        have hkp := h.keep
        have hkq : Below (wr.alloc (.cells #[.func (.func 27) #[] #[.pointer (some ⟨w1.heap.size + 1, 0, none⟩), .pointer (some ⟨w1.heap.size + 1 + 1 + 1, 0, none⟩), .pointer (some ⟨w1.heap.size + 1 + 1 + 1 + 1 + 1, 0, none⟩), .pointer (some ⟨w.heap.size, 0, none⟩)]] 50)).heap.size (wr.alloc (.cells #[.func (.func 27) #[] #[.pointer (some ⟨w1.heap.size + 1, 0, none⟩), .pointer (some ⟨w1.heap.size + 1 + 1 + 1, 0, none⟩), .pointer (some ⟨w1.heap.size + 1 + 1 + 1 + 1 + 1, 0, none⟩), .pointer (some ⟨w.heap.size, 0, none⟩)]] 50)) W := by rw [World.size_alloc]; exact hkp
        have cF := (hkq.cell (World.block_lt_of_cell? _ _ HFX.out.cF.cell)).trans HFX.out.cF.cell
        obtain ⟨bf, hbf⟩ : ∃ b, brFit (partTo (sA l0) l0.length l0.length) (partTo (sB l0) l0.length l0.length) (partTo (sR l0) l0.length l0.length) a1 s l0.length = b := ⟨_, rfl⟩
        have FT := HFX.out.calls hkp s l0.length hbn.1 hbn.2.1 (by omega) (by omega)
        rw [hbf] at FT
        clear h hkp hkq hbn hbl hK
        by_cases hsl : s < last
        · have g1 : decide (s < last) = true := decide_eq_true hsl
          cases bf with
          | false =>
            go_wp2_with (first | (go_at_call 27; (with_reducible refine FT.mono ?_); rintro e w' ⟨rfl, ⟨m1, rfl⟩⟩) | ((with_reducible refine gate_builtin (b := .append) (xs := #[.tmp 128, .tmp 130]) rfl ?_); at_builtin; refine Kd.R_append (Kd.int .i64) (w0 := (wr.alloc (.cells #[.func (.func 27) #[] #[.pointer (some ⟨w1.heap.size + 1, 0, none⟩), .pointer (some ⟨w1.heap.size + 1 + 1 + 1, 0, none⟩), .pointer (some ⟨w1.heap.size + 1 + 1 + 1 + 1 + 1, 0, none⟩), .pointer (some ⟨w.heap.size, 0, none⟩)]] 50))) (wr.heap.size + 1) rfl (.tmp 128) (.tmp 130) 31 3 (.int .i64 0) 8 rfl Try.underlying31 info3 rfl (by decide) (by omega) vo out last [.int .i64 last] (fun k => k = wr.heap.size + 1 ∨ wr.heap.size + 1 + 5 < k) (fun _ => False) rfl rfl ?aP (fun _ hk => hk.elim) ?aF ?aO ?aB ?aS ?aL ?_; (case aP => exact rfl); (case aB => exact (HH.out.drewN m1).keep); (case aF => exact (fun j hk => .inr (Nat.lt_of_lt_of_le (HH.out.drewN m1).big hk))); (case aO => exact (HH.out.drewN m1).o); (case aS => exact Nat.le_of_lt (by have := (HH.out.drewN m1).big; omega)); (case aL => have := HLO.out; omega); intro v150 w10 ho hb hg hat; obtain ⟨Ax, cx, ex⟩ := Kd.R_slice ho; obtain ⟨nx, hnx⟩ : ∃ nx, nx = (out ++ [last]).length := ⟨_, rfl⟩; rw [← hnx] at ex; clear hnx; subst ex; obtain ⟨⟨hS, hK⟩, hc1, hf1, hc2, hf2, hc3, hf3⟩ := (HH.out.drewN m1).put ho hb hg; have HS2 := Aside0.mk hS; have HD2 := Aside0.mk (hK.2.2.same D _ HD.out rfl); clear hS hK ho hb hg hat))
            refine ⟨by simp, .inl ⟨_, _, rfl, run_takeDeferred HD2.out, ?_⟩⟩
            refine ⟨_, results_tmp2 rfl _ _ _, _, rfl, ?_, ?_⟩
            · rw [HBR.out, if_pos ⟨hsl, hbf⟩]
              exact Kd.R_mono (Kd.R_lower (R_from (HS2.out).o (grownBy_putObj' _ D (.deferred none)) (fun r e => by cases e; exact ⟨_, HD2.out, rfl⟩)) (by omega)) (fun _ _ => trivial)
            · exact (HKP.out.trans ((HS2.out).keep.mono (by omega))).trans (belowK_b (w := w) (Nat.le_refl _) _ D _ _ (by omega) HD2.out rfl rfl)
          | true =>
            go_wp2_with (go_at_call 27; (with_reducible refine FT.mono ?_); rintro e w' ⟨rfl, ⟨m1, rfl⟩⟩)
            refine ⟨by simp, .inl ⟨_, _, rfl, run_takeDeferred HD.out, ?_⟩⟩
            refine ⟨_, results_tmp2 rfl _ _ _, _, rfl, ?_, ?_⟩
            · rw [HBR.out, if_neg (fun h => by rw [hbf] at h; exact absurd h.2 (by decide))]
              exact Kd.R_mono (Kd.R_lower (R_from (HH.out.drewN m1).o (grownBy_putObj' _ D (.deferred none)) (fun r e => by cases e; exact ⟨_, HD.out, rfl⟩)) (by omega)) (fun _ _ => trivial)
            · exact (HKP.out.trans ((HH.out.drewN m1).keep.mono (by omega))).trans (belowK_b (w := w) (Nat.le_refl _) _ D _ _ (by omega) HD.out rfl rfl)
        · have g1 : decide (s < last) = false := decide_eq_false hsl
          go_wp2
          refine ⟨by simp, .inl ⟨_, _, rfl, run_takeDeferred HD.out, ?_⟩⟩
          refine ⟨_, results_tmp2 rfl _ _ _, _, rfl, ?_, ?_⟩
          · rw [HBR.out, if_neg (fun h => by have := h.1; omega)]
            exact Kd.R_mono (Kd.R_lower (R_from (HH.out).o (grownBy_putObj' _ D (.deferred none)) (fun r e => by cases e; exact ⟨_, HD.out, rfl⟩)) (by omega)) (fun _ _ => trivial)
          · exact (HKP.out.trans ((HH.out).keep.mono (by omega))).trans (belowK_b (w := w) (Nat.le_refl _) _ D _ _ (by omega) HD.out rfl rfl)
      case stop =>
        rintro D c pre W _ _ h _
        exact h.elim
end Go.Proofs.Ythckihfkhmoafaa.X
