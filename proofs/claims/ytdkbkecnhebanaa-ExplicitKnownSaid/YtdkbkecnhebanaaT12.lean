import Derived.Test.YtdkbkecnhebanaaT10
import Derived.Test.YtdkbkecnhebanaaT7
import Derived.Deep.OwnRows
/-! Rows of numbers, each a block known whole. -/
namespace Go.Proofs.Ytdkbkecnhebanaa.X
open Go.RowKit Go.Proofs.YtdkbkecnhebanaaW.PrintWords Go.Proofs.YtdkbkecnhebanaaW.PrintLast Go.Proofs.YtdkbkecnhebanaaW.PrintMore
set_option linter.unusedVariables false
set_option linter.unusedSimpArgs false
def RwB (w : World) (g e : Nat) (xs : List Int) : Prop := w.heap[g]? = some (.cells (nums .u8 xs).toArray e (0, 0))
theorem made_nums (n : Nat) : madeCells #[Value.int .u8 0] n = (nums .u8 (List.replicate n 0)).toArray := by
  unfold madeCells nums
  rw [List.map_replicate]
  apply Array.ext
  · simp
  · intro i h1 h2
    simp [Nat.mod_one]
theorem RwB.cell {w : World} {g e : Nat} {xs : List Int} (h : RwB w g e xs) (i : Int) (h0 : 0 ≤ i) (hi : i < xs.length) : w.cell? ⟨g, i.toNat, none⟩ = some (.int .u8 (rd xs i)) := by
  obtain ⟨n, rfl⟩ := Int.eq_ofNat_of_zero_le h0
  have hn : n < xs.length := by omega
  rw [blk_cell h, E.rd_get hn]
  simp [nums, hn]
theorem RwB.set {w : World} {g e : Nat} {xs : List Int} (h : RwB w g e xs) (i : Int) (v : Int) : RwB (w.setCell ⟨g, i.toNat, none⟩ (.int .u8 v)) g e (xs.set i.toNat v) := by
  have := blk_set h i.toNat (.int .u8 v)
  unfold RwB
  rw [this]
  congr 2
  simp [nums, List.map_set]
theorem RwB.far {w : World} {g e : Nat} {xs : List Int} (h : RwB w g e xs) {p : Addr} (hp : g ≠ p.block) (u : Value) : RwB (w.setCell p u) g e xs := blk_far h hp u
theorem RwB.grown {w w1 : World} {g e : Nat} {xs : List Int} {r : Option Nat} (h : RwB w g e xs) (hg : w.grownBy w1 r) (hne : some g ≠ r) : RwB w1 g e xs := blk_grown h hg hne
theorem RwB.toR {w : World} {g e base : Nat} {xs : List Int} {ok : Nat → Prop} (h : RwB w g e xs) (hb : base ≤ g) (hx : xs.length ≤ 1000000) (hok : ok g) : Kd.R (Kd.int .u8) e w base ok (.slice (some ⟨g, 0, none⟩) xs.length xs.length) xs := by
  refine Kd.R_of_own ⟨by simp [encs], .inr ⟨g, xs.length, _, rfl, hb, h, Nat.le_refl _, by unfold maxLen; omega, by simp [nums], ?_⟩⟩ (fun k hk => ?_)
  · simp [nums, encs, List.take_of_length_le]
  · have : g = k := by simpa [Value.ownBlock] using hk
    exact this ▸ hok
theorem info5' : (Try.prog.info? 5).map (fun i => (i.zero, i.size, i.bytes)) = some (some (.int .u8 0), 1, 1) := by kernel_rfl
theorem made_two (w : World) (n e e' : Nat) : RwB ((w.alloc (.cells (madeCells #[Value.int .u8 0] n) e)).alloc (.cells (madeCells #[Value.int .u8 0] n) e')).drew w.heap.size e (List.replicate n 0) ∧
    RwB ((w.alloc (.cells (madeCells #[Value.int .u8 0] n) e)).alloc (.cells (madeCells #[Value.int .u8 0] n) e')).drew (w.heap.size + 1) e' (List.replicate n 0) ∧
    Below w.heap.size w ((w.alloc (.cells (madeCells #[Value.int .u8 0] n) e)).alloc (.cells (madeCells #[Value.int .u8 0] n) e')).drew := by
  unfold RwB
  rw [← made_nums]
  exact ⟨heap_alloc2_old w _ _, heap_alloc2_new w _ _, below_drew1 (below_alloc (below_alloc (Below.refl _ _) _) _)⟩
/-- What holds in a round of explicit.Levels. -/
structure LvK (w : World) (A0 : Option Addr) (c0 : Nat) (l : List Int) (gl gc ga g : Nat) (Am : Option Addr) (cm : Nat) (a : Sk) (xs1 xs2 : List Int) (wr : World) : Prop where
  r1 : RwB wr gl 5 xs1
  r2 : RwB wr gc 26 xs2
  al : wr.heap[ga]? = some (.cells #[.slice A0 l.length c0, .slice Am (mtOf l).length cm] 40 (0, 0))
  st : Holds wr g a
  mt : Kd.R (Kd.int .i64) 3 wr w.heap.size (fun _ => True) (.slice Am (mtOf l).length cm) (mtOf l)
  bl : Below w.heap.size w wr
def LvG (w : World) (gl gc ga g : Nat) : Prop := w.heap.size ≤ gl ∧ w.heap.size ≤ gc ∧ w.heap.size ≤ ga ∧ w.heap.size ≤ g
theorem st0_at381 : st0.cells[381]? = some (.int .i64 0) := by kernel_rfl
theorem st0_at382 : st0.cells[382]? = some (.int .i64 0) := by kernel_rfl
theorem st0_at383 : st0.cells[383]? = some (.int .i64 0) := by kernel_rfl
theorem st0_at384 : st0.cells[384]? = some (.int .i64 0) := by kernel_rfl
theorem st0_at1 : st0.cells[1]? = some (.int .u8 0) := by kernel_rfl
theorem st0_at2 : st0.cells[2]? = some (.bool false) := by kernel_rfl
theorem RwB.below {w w1 : World} {g e : Nat} {xs : List Int} (h : RwB w g e xs) (hb : Below w.heap.size w w1) : RwB w1 g e xs := (hb.block g (blk_lt h)).trans h
section
variable {w : World} {A0 : Option Addr} {c0 : Nat} {l : List Int} {gl gc ga g : Nat} {Am : Option Addr} {cm : Nat} {a a1 : Sk} {xs1 xs2 : List Int} {wr w1 : World}
theorem LvK.below (h : LvK w A0 c0 l gl gc ga g Am cm a xs1 xs2 wr) (hb : Below wr.heap.size wr w1) : LvK w A0 c0 l gl gc ga g Am cm a xs1 xs2 w1 :=
  ⟨h.r1.below hb, h.r2.below hb, (hb.block _ (blk_lt h.al)).trans h.al, h.st.below hb, Kd.R_below h.mt hb, below_step h.bl hb⟩
theorem LvK.drawn (h : LvK w A0 c0 l gl gc ga g Am cm a xs1 xs2 wr) (n : Nat) : LvK w A0 c0 l gl gc ga g Am cm a xs1 xs2 (wr.drewN n) := h.below (pw_below_drewN (Below.refl _ _) n)
theorem LvK.alloc (h : LvK w A0 c0 l gl gc ga g Am cm a xs1 xs2 wr) (o : Obj) : LvK w A0 c0 l gl gc ga g Am cm a xs1 xs2 (wr.alloc o) := h.below (below_alloc (Below.refl _ _) o)
theorem below_grown {w wr w1 : World} {g : Nat} (h : Below w.heap.size w wr) (hg : wr.grownBy w1 (some g)) (hle : w.heap.size ≤ g) : Below w.heap.size w w1 :=
  h.grown hg h.size (fun k hk => by injection hk with hk; omega)
theorem LvK.grown (h : LvK w A0 c0 l gl gc ga g Am cm a xs1 xs2 wr) (hG : LvG w gl gc ga g) (hg : wr.grownBy w1 (some g)) (hs : Holds w1 g a1) : LvK w A0 c0 l gl gc ga g Am cm a1 xs1 xs2 w1 := by
  obtain ⟨C, hb, hC⟩ := h.st
  have n1 := blk_ne h.r1 hb (by decide)
  have n2 := blk_ne h.r2 hb (by decide)
  have n3 := blk_ne h.al hb (by decide)
  refine ⟨h.r1.grown hg (fun e => n1 (by injection e)), h.r2.grown hg (fun e => n2 (by injection e)), blk_grown h.al hg (fun e => n3 (by injection e)), hs, ?_, below_grown h.bl hg hG.2.2.2⟩
  exact Kd.R_mono (Kd.R_grown (Kd.R_types h.mt hb (by decide)) hg (fun k hk e => hk.2 (by injection e))) (fun _ _ => trivial)
theorem LvK.set1 (h : LvK w A0 c0 l gl gc ga g Am cm a xs1 xs2 wr) (hG : LvG w gl gc ga g) (i v : Int) : LvK w A0 c0 l gl gc ga g Am cm a (xs1.set i.toNat v) xs2 (wr.setCell ⟨gl, i.toNat, none⟩ (.int .u8 v)) := by
  obtain ⟨C, hb, hC⟩ := h.st
  have n1 := blk_ne h.r1 hb (by decide)
  have n2 := blk_ne h.r1 h.r2 (by decide)
  have n3 := blk_ne h.r1 h.al (by decide)
  exact ⟨h.r1.set i v, h.r2.far (fun e => n2 e.symm) _, blk_far h.al (fun e => n3 e.symm) _, ⟨C, blk_far hb (fun e => n1 e.symm) _, hC⟩, Kd.R_set h.mt h.r1 (by decide) _ _, below_set h.bl hG.1⟩
theorem LvK.set2 (h : LvK w A0 c0 l gl gc ga g Am cm a xs1 xs2 wr) (hG : LvG w gl gc ga g) (i v : Int) : LvK w A0 c0 l gl gc ga g Am cm a xs1 (xs2.set i.toNat v) (wr.setCell ⟨gc, i.toNat, none⟩ (.int .u8 v)) := by
  obtain ⟨C, hb, hC⟩ := h.st
  have n1 := blk_ne h.r2 hb (by decide)
  have n2 := blk_ne h.r1 h.r2 (by decide)
  have n3 := blk_ne h.r2 h.al (by decide)
  exact ⟨h.r1.far n2 _, h.r2.set i v, blk_far h.al (fun e => n3 e.symm) _, ⟨C, blk_far hb (fun e => n1 e.symm) _, hC⟩, Kd.R_set h.mt h.r2 (by decide) _ _, below_set h.bl hG.2.1⟩
theorem below_setRow {w : World} (Z C : Array Value) : Below w.heap.size w ((w.alloc (.cells Z 47)).setRow w.heap.size C) := by
  refine ⟨rfl, rfl, rfl, by simp, fun i hi => ?_⟩
  rw [setRow_other _ _ _ _ (by omega), Below.heap_alloc _ _ _ hi]
end
theorem c0_holds {w : World} {g : Nat} {base : Int} (h : w.heap[g]? = some (.cells (C0 base) 47 (0, 0))) : Holds w g (newA base) := by
  refine ⟨_, h, c0_size base, by show 1 ≤ 127; omega, ?_, ?_, ?_, ?_, ?_, ?_, ?_, trivial⟩
  · unfold C0; rw [Array.getElem?_setIfInBounds_ne (by omega)]; exact st0_at381
  · unfold C0; rw [Array.getElem?_setIfInBounds_ne (by omega)]; exact st0_at382
  · unfold C0; rw [Array.getElem?_setIfInBounds_ne (by omega)]; exact st0_at383
  · unfold C0; rw [Array.getElem?_setIfInBounds_ne (by omega)]; exact st0_at384
  · unfold C0; exact Array.getElem?_setIfInBounds_self_of_lt (by rw [st0_size]; decide)
  · unfold C0; show (Array.setIfInBounds _ 0 _)[1]? = _; rw [Array.getElem?_setIfInBounds_ne (by omega)]; exact st0_at1
  · unfold C0; show (Array.setIfInBounds _ 0 _)[2]? = _; rw [Array.getElem?_setIfInBounds_ne (by omega)]; exact st0_at2
theorem lv_row {f : Int × Int → Int} {ys : List (Int × Int)} {n : Nat} {i v : Int} (h0 : 0 ≤ i) (hi : i < n) (hy : ys.length = i.toNat) : (ys.map f ++ List.replicate (n - i.toNat) 0).set i.toNat v = ys.map f ++ v :: List.replicate (n - (i + 1).toNat) 0 := by
  rw [show n - i.toNat = (n - (i + 1).toNat) + 1 by omega, List.replicate_succ, List.set_append_right _ _ (by simp; omega)]
  simp [hy]
theorem lv_row2 {f : Int × Int → Int} {ys : List (Int × Int)} {n : Nat} {i u v : Int} (h0 : 0 ≤ i) (hi : i < n) (hy : ys.length = i.toNat) : ((ys.map f ++ List.replicate (n - i.toNat) 0).set i.toNat u).set i.toNat v = ys.map f ++ v :: List.replicate (n - (i + 1).toNat) 0 := by
  rw [lv_row h0 hi hy, List.set_append_right _ _ (by simp; omega)]
  simp [hy]
theorem lv_row3 {f : Int × Int → Int} {ys : List (Int × Int)} {n : Nat} {i : Int} {o : Int × Int} : (ys ++ [o]).map f ++ List.replicate (n - (i + 1).toNat) 0 = ys.map f ++ f o :: List.replicate (n - (i + 1).toNat) 0 := by simp
theorem lv_next {l : List Int} {base i bf : Int} {a : Sk} {ys R : List (Int × Int)} (h0 : 0 ≤ i) (hi : i < l.length) (h : ys ++ runL base (l.drop i.toNat) a bf = R) :
    (ys ++ [outL bf (topA (stA base a (rd l i))) (rd l i)]) ++ runL base (l.drop (i + 1).toNat) (takeA (stA base a (rd l i)) (rd l i) (dirI (dirS true (l.drop (i + 1).toNat) 0))) (outL bf (topA (stA base a (rd l i))) (rd l i)).1 = R := by
  rw [E.rd_drop h0 hi] at h
  rw [← h, List.append_assoc]
  rfl
theorem removed_f (c : Int) : explicit_removed.f c = some (remC c) := by
  unfold explicit_removed.f remC
  by_cases q1 : c ≥ 15
  · rw [if_pos q1]
    by_cases q2 : c ≤ 19
    · rw [if_pos q2, decide_eq_true ⟨q1, q2⟩]; rfl
    · rw [if_neg q2, decide_eq_false (fun q => q2 q.2)]
      simp only [Bool.false_or]
      congr 1
  · rw [if_neg q1, decide_eq_false (fun q => q1 q.1)]
    simp only [Bool.false_or]
    congr 1
theorem mt_out (l : List Int) (hl : l.length ≤ 1000000) : ∃ k, explicit_Match.f k l = some (mtOf l) := E.out (explicit_Match_ev l hl)
end Go.Proofs.Ytdkbkecnhebanaa.X
