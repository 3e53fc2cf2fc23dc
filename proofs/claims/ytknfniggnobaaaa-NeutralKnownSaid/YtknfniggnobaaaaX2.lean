-- by xprint.py: the kit's printer over texts of this session
import Derived.Test.YtknfniggnobaaaaX0
import Derived.Test.YtknfniggnobaaaaX1
namespace Go.Proofs.Ytknfniggnobaaaa.X
open Go.RowKit Go.Proofs.YtknfniggnobaaaaW.PrintWords Go.Proofs.YtknfniggnobaaaaW.PrintLast Go.Proofs.YtknfniggnobaaaaW.PrintMore
attribute [local go_sem] max2_int min2_int max_two min_two max_three min_three max_four min_four   -- for this text's walks alone
set_option linter.unusedVariables false
set_option linter.unusedSimpArgs false

/-! ### neutral_Resolve: function 12 (a text of ours) -/
def nIs (c : Int) : Bool := decide (11 ≤ c ∧ c ≤ 14 ∨ 20 ≤ c ∧ c ≤ 23)
def nDir (c : Int) : Int := if c = 1 ∨ c = 2 then c else if c = 4 ∨ c = 7 then 2 else 0
def nEdge (c : Int) : Int := if c = 2 then 2 else 1
def nStep (c d : Int) : Int := if c = 10 then d else if nIs c then d else nDir c
def nBehind (e : Int) : List Int → Int
  | [] => e
  | c :: l => nStep c (nBehind e l)
def nRes (side e : Int) : Int → List Int → List Int
  | _, [] => []
  | d, c :: l => if c = 10 then 10 :: nRes side e d l else if nIs c then (if d = nBehind e l ∧ d ≠ 0 then d else side) :: nRes side e d l else c :: nRes side e (nDir c) l
def neutral_Resolve.f (l0 : List Int) (a1 a2 a3 : Int) : Option (List Int) :=
  if l0.length < 140737488355328 ∧ 0 ≤ a1 ∧ a1 ≤ 255 then some (nRes (if a1 % 2 = 1 then 2 else 1) (nEdge a3) (nEdge a2) l0) else none
section
attribute [local go_sem] Oper.semAt_some
theorem neutral_is_some (c : Int) : neutral_is.f c = some (nIs c) := by
  unfold neutral_is.f nIs
  by_cases h1 : 11 ≤ c <;> by_cases h2 : c ≤ 14 <;> by_cases h3 : 20 ≤ c <;> simp [h1, h2, h3] <;> omega
theorem neutral_edge_some (c : Int) : neutral_edge.f c = some (nEdge c) := by
  unfold neutral_edge.f nEdge
  split <;> simp_all
theorem neutral_direction_some (c : Int) : neutral_direction.f 2 c = some (nDir c) := by
  unfold neutral_direction.f nDir
  by_cases h1 : c = 1
  · simp [h1, neutral_direction.j0]
  by_cases h2 : c = 2
  · simp [h2, neutral_direction.j0]
  by_cases h4 : c = 4
  · simp [h4, neutral_direction.j0]
  by_cases h7 : c = 7
  · simp [h7, neutral_direction.j0]
  simp [h1, h2, h4, h7, neutral_direction.j0]
theorem is_c (c : Int) (w : World) : Calls Try.prog 21 #[.int .u8 c] w fun e w' => e = .returned (.bool (nIs c)) ∧ Drawn0 w w' := neutral_is.calls c (nIs c) w (neutral_is_some c)
theorem edge_c (c : Int) (w : World) : Calls Try.prog 19 #[.int .u8 c] w fun e w' => e = .returned (.int .u8 (nEdge c)) ∧ Drawn0 w w' := neutral_edge.calls c (nEdge c) w (neutral_edge_some c)
theorem dir_c (c : Int) (w : World) : Calls Try.prog 22 #[.int .u8 c] w fun e w' => e = .returned (.int .u8 (nDir c)) ∧ Drawn0 w w' := neutral_direction.calls 2 c (nDir c) w (neutral_direction_some c)

def bwSt (l : List Int) (e : Int) (pre : List (BwIx l)) : List Int × Int := pre.foldl (fun s x => (s.1.set x.1.toNat s.2, nStep (rd l x.1) s.2)) (List.replicate l.length 0, e)
theorem bwSt_snoc (l : List Int) (e : Int) (pre : List (BwIx l)) (x : BwIx l) : bwSt l e (pre ++ [x]) = ((bwSt l e pre).1.set x.1.toNat (bwSt l e pre).2, nStep (rd l x.1) (bwSt l e pre).2) := by simp [bwSt]
theorem bwSt_len (l : List Int) (e : Int) (pre : List (BwIx l)) : (bwSt l e pre).1.length = l.length := by
  unfold bwSt
  suffices h : ∀ (s : List Int × Int), s.1.length = l.length → (pre.foldl (fun s x => (s.1.set x.1.toNat s.2, nStep (rd l x.1) s.2)) s).1.length = l.length from h _ (by simp)
  induction pre with
  | nil => intro s h; exact h
  | cons x pre ih => intro s h; exact ih _ (by simp [h])
theorem drop_rd (l : List Int) (i : Int) (h0 : 0 ≤ i) (h1 : i < l.length) : l.drop i.toNat = rd l i :: l.drop (i + 1).toNat := by
  obtain ⟨n, rfl⟩ := Int.eq_ofNat_of_zero_le h0
  have hn : n < l.length := by omega
  rw [show ((n : Int) + 1).toNat = n + 1 by omega, Int.toNat_natCast, List.drop_eq_getElem_cons hn]
  simp [rd, hn]
theorem rd_set (l : List Int) (i j v : Int) (h0 : 0 ≤ i) (h1 : i < l.length) (hj : 0 ≤ j) : rd (l.set i.toNat v) j = if j = i then v else rd l j := by
  obtain ⟨n, rfl⟩ := Int.eq_ofNat_of_zero_le h0
  obtain ⟨m, rfl⟩ := Int.eq_ofNat_of_zero_le hj
  simp only [rd, Int.toNat_natCast, List.getD_eq_getElem?_getD, List.getElem?_set]
  by_cases e : n = m
  · subst e; rw [if_pos rfl, if_pos rfl, if_pos (by omega)]; rfl
  · rw [if_neg e, if_neg (by omega)]
theorem bwSt_at (l : List Int) (e : Int) (m : Nat) : ∀ i : Int, -1 ≤ i → i ≤ (l.length : Int) - 1 → ((l.length : Int) - 1 - i).toNat = m →
    (bwSt l e (bwTo l i)).2 = nBehind e (l.drop (i + 1).toNat) ∧ ∀ j : Int, i < j → j < l.length → rd (bwSt l e (bwTo l i)).1 j = nBehind e (l.drop (j + 1).toNat) := by
  induction m with
  | zero =>
    intro i h1 h2 h3
    obtain rfl : i = (l.length : Int) - 1 := by omega
    rw [bwTo_nil]
    refine ⟨?_, fun j h4 h5 => by omega⟩
    rw [show ((l.length : Int) - 1 + 1).toNat = l.length by omega]
    simp [bwSt, nBehind]
  | succ m ih =>
    intro i h1 h2 h3
    obtain ⟨q1, q2⟩ := ih (i + 1) (by omega) (by omega) (by omega)
    have hs := bwTo_succ l (i + 1) (by omega) (by omega)
    rw [show i + 1 - 1 = i by omega] at hs
    rw [hs, bwSt_snoc]
    refine ⟨?_, fun j h4 h5 => ?_⟩
    · rw [drop_rd l (i + 1) (by omega) (by omega), nBehind, ← q1]
    · show rd (List.set _ _ _) j = _
      rw [rd_set _ _ _ _ (by show 0 ≤ i + 1; omega) (by rw [bwSt_len]; show i + 1 < _; omega) (by omega)]
      by_cases e : j = i + 1
      · rw [if_pos e, q1, e]
      · rw [if_neg e]; exact q2 j (by omega) h5
theorem size_drewN0 (w : World) (m : Nat) : (w.drewN m).heap.size = w.heap.size := rfl
def Res12 (w : World) (r : List Int) (e : Ending) (w' : World) : Prop := ∃ v0_ : Value, e = .returned (v0_) ∧ Kd.R (Kd.int .u8) 23 w' w.heap.size (fun _ => True) v0_ r ∧ Below w.heap.size w w'
/-- What stands between two rounds of the loop backward. -/
def Bw12 (w w1 : World) (l0 : List Int) (e3 : Int) (vo : Value) (pre : List (BwIx l0)) (W : World) : Prop :=
  Kd.R (Kd.int .u8) 23 W w.heap.size (fun k => k < w1.heap.size) vo l0 ∧ Kd.R (Kd.int .u8) 23 W w.heap.size (fun k => k = w1.heap.size) (.slice (some ⟨w1.heap.size, 0, none⟩) l0.length l0.length) (bwSt l0 e3 pre).1 ∧
  Boxed W (w1.heap.size + 1) 22 (.slice (some ⟨w1.heap.size, 0, none⟩) l0.length l0.length) ∧ Boxed W (w1.heap.size + 1 + 1) 23 (.int .u8 (bwSt l0 e3 pre).2) ∧ Below w.heap.size w W
theorem notcells_of_typed {W : World} {r e : Nat} {cells : Array Value} {o : Obj} (h : W.heap[r]? = some (.cells cells e (0, 0))) (ho : W.heap[r]? = some o) (hc : o.isCells = false) : False := by
  rw [h] at ho
  cases ho
  simp [Obj.isCells] at hc
theorem R_from {W W' : World} {base : Nat} {ok : Nat → Prop} {v : Value} {xs : List Int} {row : Option Nat} (h : Kd.R (Kd.int .u8) 23 W base ok v xs) (hg : W.grownBy W' row) (hr : ∀ r, row = some r → ∃ o : Obj, W.heap[r]? = some o ∧ o.isCells = false) : Kd.R (Kd.int .u8) 23 W' base ok v xs := by
  refine Kd.R_grown2 h rfl hg (fun k e e2 => ?_)
  obtain ⟨o, ho, hc⟩ := hr k e
  obtain ⟨inner, hown⟩ := Kd.R_own h
  obtain ⟨cells, hcs⟩ := own_typed hown k e2.symm
  exact notcells_of_typed hcs ho hc
theorem Boxed_from {W W' : World} {B t : Nat} {v : Value} {row : Option Nat} (h : Boxed W B t v) (hg : W.grownBy W' row) (hr : ∀ r, row = some r → ∃ o : Obj, W.heap[r]? = some o ∧ o.isCells = false) : Boxed W' B t v := by
  refine h.kept hg (fun e => ?_)
  obtain ⟨o, ho, hc⟩ := hr B e.symm
  exact notcells_of_typed h ho hc
theorem Bw12_own (w w1 : World) (l0 : List Int) (e3 : Int) (vo : Value) (B : Nat) (hB : w.heap.size ≤ B) : OwnFrom B (Bw12 w w1 l0 e3 vo) := by
  rintro pre W W' row ⟨h1, h2, h3, h4, h5⟩ hg hr
  refine ⟨R_from h1 hg (fun r e => (hr r e).2), R_from h2 hg (fun r e => (hr r e).2), Boxed_from h3 hg (fun r e => (hr r e).2), Boxed_from h4 hg (fun r e => (hr r e).2), h5.grown hg h5.size (fun k e => by have := (hr k e).1; omega)⟩
theorem Bw12_drewN {w w1 : World} {l0 : List Int} {e3 : Int} {vo : Value} {pre : List (BwIx l0)} {W : World} (h : Bw12 w w1 l0 e3 vo pre W) (m : Nat) : Bw12 w w1 l0 e3 vo pre (W.drewN m) := by
  obtain ⟨a, b, c, d, e⟩ := h
  exact ⟨Kd.R_drewN a m, Kd.R_drewN b m, c, d, pw_below_drewN e m⟩
theorem KpB.drewN {n₀ Bs : Nat} {A B : World} (h : KpB n₀ Bs A B) (m : Nat) : KpB n₀ Bs A (B.drewN m) := ⟨pw_below_drewN h.1 m, h.2⟩
theorem KeepsFrom_drewN {n : Nat} {A B : World} (h : KeepsFrom n A B) (m : Nat) : KeepsFrom n A (B.drewN m) := ⟨h.size, h.same⟩
/-- What stands between two rounds of the loop forward. -/
def Fw12 (w w1 : World) (l0 : List Int) (e3 sd d0 : Int) (vo : Value) (bl : List Int) (D : Nat) (k : Int) (W : World) : Prop :=
  ∃ (dn : List Int) (d : Int), (dn.length : Int) = k ∧ Kd.R (Kd.int .u8) 23 W w.heap.size (fun k => k < w1.heap.size) vo (dn ++ l0.drop k.toNat) ∧ Kd.R (Kd.int .u8) 23 W w.heap.size (fun k => k = w1.heap.size) (.slice (some ⟨w1.heap.size, 0, none⟩) l0.length l0.length) bl ∧
  Boxed W (w1.heap.size + 1) 22 (.slice (some ⟨w1.heap.size, 0, none⟩) l0.length l0.length) ∧ Boxed W (w1.heap.size + 1 + 1) 23 (.int .u8 d) ∧ Below w.heap.size w W ∧ W.heap[D]? = some (.deferred (some [])) ∧
  dn ++ nRes sd e3 d (l0.drop k.toNat) = nRes sd e3 d0 l0
theorem Fw12_drewN {w w1 : World} {l0 : List Int} {e3 sd d0 : Int} {vo : Value} {bl : List Int} {D : Nat} {k : Int} {W : World} (h : Fw12 w w1 l0 e3 sd d0 vo bl D k W) (m : Nat) : Fw12 w w1 l0 e3 sd d0 vo bl D k (W.drewN m) := by
  obtain ⟨dn, d, a1, a, b, c, d, e, f, g⟩ := h
  exact ⟨dn, _, a1, Kd.R_drewN a m, Kd.R_drewN b m, c, d, pw_below_drewN e m, f, g⟩
theorem idx41_0 (x y : Int) (w : World) : (Instr.index 41 (.agg #[.int .u8 x, .int .u8 y]) (.int .u8 0)).run Try.prog w = .ok (.int .u8 x) w := by kernel_rfl
theorem idx41_1 (x y : Int) (w : World) : (Instr.index 41 (.agg #[.int .u8 x, .int .u8 y]) (.int .u8 1)).run Try.prog w = .ok (.int .u8 y) w := by kernel_rfl
theorem and1 (a : Int) (h0 : 0 ≤ a) (h1 : a ≤ 255) : bits .and .u8 a 1 = a % 2 := by
  have := bits_mask .u8 8 (by decide) wraps_u8 1 (by decide) a h0 (by omega)
  simpa using this
theorem Boxed_far {W : World} {B t : Nat} {v : Value} (h : Boxed W B t v) {p : Addr} (hp : B ≠ p.block) (u : Value) : Boxed (W.setCell p u) B t v := (Below.heap_setCell W p u B hp).trans h
/-- One round's stores. -/
theorem bw_put {w w1 W : World} {l0 : List Int} {vo : Value} {s : List Int × Int} {i : Int} (hw : w.heap.size ≤ w1.heap.size)
    (h1 : Kd.R (Kd.int .u8) 23 W w.heap.size (fun k => k < w1.heap.size) vo l0) (h2 : Kd.R (Kd.int .u8) 23 W w.heap.size (fun k => k = w1.heap.size) (.slice (some ⟨w1.heap.size, 0, none⟩) l0.length l0.length) s.1)
    (h3 : Boxed W (w1.heap.size + 1) 22 (.slice (some ⟨w1.heap.size, 0, none⟩) l0.length l0.length)) (h4 : Boxed W (w1.heap.size + 1 + 1) 23 (.int .u8 s.2)) (h5 : Below w.heap.size w W) (v : Int) :
    (Kd.R (Kd.int .u8) 23 (W.setCell ⟨w1.heap.size, i.toNat, none⟩ (.int .u8 v)) w.heap.size (fun k => k < w1.heap.size) vo l0 ∧ Kd.R (Kd.int .u8) 23 (W.setCell ⟨w1.heap.size, i.toNat, none⟩ (.int .u8 v)) w.heap.size (fun k => k = w1.heap.size) (.slice (some ⟨w1.heap.size, 0, none⟩) l0.length l0.length) (s.1.set i.toNat v) ∧
    Boxed (W.setCell ⟨w1.heap.size, i.toNat, none⟩ (.int .u8 v)) (w1.heap.size + 1) 22 (.slice (some ⟨w1.heap.size, 0, none⟩) l0.length l0.length) ∧ Boxed (W.setCell ⟨w1.heap.size, i.toNat, none⟩ (.int .u8 v)) (w1.heap.size + 1 + 1) 23 (.int .u8 s.2)) ∧ Below w.heap.size w (W.setCell ⟨w1.heap.size, i.toNat, none⟩ (.int .u8 v)) := by
  refine ⟨⟨Kd.R_far h1 (fun k hk => Nat.ne_of_lt hk) _, (Kd.R_putg h2 i v).1, Boxed_far h3 (by simp) _, Boxed_far h4 (by simp; omega) _⟩, h5.setCell (by exact hw) _⟩
theorem bw_put2 {w w1 W : World} {l0 : List Int} {vo : Value} {s : List Int × Int} (hw : w.heap.size ≤ w1.heap.size)
    (h1 : Kd.R (Kd.int .u8) 23 W w.heap.size (fun k => k < w1.heap.size) vo l0) (h2 : Kd.R (Kd.int .u8) 23 W w.heap.size (fun k => k = w1.heap.size) (.slice (some ⟨w1.heap.size, 0, none⟩) l0.length l0.length) s.1)
    (h3 : Boxed W (w1.heap.size + 1) 22 (.slice (some ⟨w1.heap.size, 0, none⟩) l0.length l0.length)) (h4 : Boxed W (w1.heap.size + 1 + 1) 23 (.int .u8 s.2)) (h5 : Below w.heap.size w W) (v : Int) :
    (Kd.R (Kd.int .u8) 23 (W.setCell ⟨w1.heap.size + 1 + 1, 0, none⟩ (.int .u8 v)) w.heap.size (fun k => k < w1.heap.size) vo l0 ∧ Kd.R (Kd.int .u8) 23 (W.setCell ⟨w1.heap.size + 1 + 1, 0, none⟩ (.int .u8 v)) w.heap.size (fun k => k = w1.heap.size) (.slice (some ⟨w1.heap.size, 0, none⟩) l0.length l0.length) s.1 ∧
    Boxed (W.setCell ⟨w1.heap.size + 1 + 1, 0, none⟩ (.int .u8 v)) (w1.heap.size + 1) 22 (.slice (some ⟨w1.heap.size, 0, none⟩) l0.length l0.length) ∧ Boxed (W.setCell ⟨w1.heap.size + 1 + 1, 0, none⟩ (.int .u8 v)) (w1.heap.size + 1 + 1) 23 (.int .u8 v)) ∧ Below w.heap.size w (W.setCell ⟨w1.heap.size + 1 + 1, 0, none⟩ (.int .u8 v)) := by
  refine ⟨⟨Kd.R_far h1 (fun k hk => by dsimp at hk ⊢; omega) _, Kd.R_far h2 (fun k hk => by dsimp at hk ⊢; omega) _, Boxed_far h3 (by simp) _, h4.set _⟩, h5.setCell (by dsimp; omega) _⟩
theorem set_mid (dn rest : List Int) (c v k : Int) (h : (dn.length : Int) = k) : (dn ++ c :: rest).set k.toNat v = (dn ++ [v]) ++ rest := by
  subst h
  simp
section
variable {w w1 W : World} {l0 dn bl : List Int} {e3 sd d0 d : Int} {vo : Value} {D : Nat} {k : Int}
theorem Fw12_ten (hk0 : 0 ≤ k) (hlt : k < l0.length) (hc : rd l0 k = 10) (q0 : (dn.length : Int) = k) (q1 : Kd.R (Kd.int .u8) 23 W w.heap.size (fun k => k < w1.heap.size) vo (dn ++ l0.drop k.toNat)) (q2 : Kd.R (Kd.int .u8) 23 W w.heap.size (fun k => k = w1.heap.size) (.slice (some ⟨w1.heap.size, 0, none⟩) l0.length l0.length) bl)
    (q3 : Boxed W (w1.heap.size + 1) 22 (.slice (some ⟨w1.heap.size, 0, none⟩) l0.length l0.length)) (q4 : Boxed W (w1.heap.size + 1 + 1) 23 (.int .u8 d)) (q5 : Below w.heap.size w W) (q6 : W.heap[D]? = some (.deferred (some [])))
    (q7 : dn ++ nRes sd e3 d (l0.drop k.toNat) = nRes sd e3 d0 l0) : Fw12 w w1 l0 e3 sd d0 vo bl D (k + 1) W := by
  rw [drop_rd l0 k hk0 hlt, hc] at q1 q7
  refine ⟨dn ++ [10], d, by simp; omega, by simpa using q1, q2, q3, q4, q5, q6, ?_⟩
  rw [nRes, if_pos rfl] at q7
  simpa using q7
theorem Fw12_dir (hws : w.heap.size ≤ w1.heap.size) (hD : w1.heap.size + 4 ≤ D) (hk0 : 0 ≤ k) (hlt : k < l0.length) (hc : rd l0 k ≠ 10) (hi : nIs (rd l0 k) = false) (q0 : (dn.length : Int) = k) (q1 : Kd.R (Kd.int .u8) 23 W w.heap.size (fun k => k < w1.heap.size) vo (dn ++ l0.drop k.toNat)) (q2 : Kd.R (Kd.int .u8) 23 W w.heap.size (fun k => k = w1.heap.size) (.slice (some ⟨w1.heap.size, 0, none⟩) l0.length l0.length) bl)
    (q3 : Boxed W (w1.heap.size + 1) 22 (.slice (some ⟨w1.heap.size, 0, none⟩) l0.length l0.length)) (q4 : Boxed W (w1.heap.size + 1 + 1) 23 (.int .u8 d)) (q5 : Below w.heap.size w W) (q6 : W.heap[D]? = some (.deferred (some [])))
    (q7 : dn ++ nRes sd e3 d (l0.drop k.toNat) = nRes sd e3 d0 l0) (m : Nat) : Fw12 w w1 l0 e3 sd d0 vo bl D (k + 1) ((W.drewN m).setCell ⟨w1.heap.size + 1 + 1, 0, none⟩ (.int .u8 (nDir (rd l0 k)))) := by
  rw [drop_rd l0 k hk0 hlt] at q1 q7
  refine ⟨dn ++ [rd l0 k], nDir (rd l0 k), by simp; omega, Kd.R_far (Kd.R_drewN (by simpa using q1) m) (fun k hk => by dsimp at hk ⊢; omega) _, Kd.R_far (Kd.R_drewN q2 m) (fun k hk => by dsimp at hk ⊢; omega) _, Boxed_far (W := W.drewN m) q3 (by simp) _, Boxed.set (W := W.drewN m) _ q4, (pw_below_drewN q5 m).setCell (by dsimp; omega) _, (Below.heap_setCell (W.drewN m) _ _ D (by dsimp; omega)).trans q6, ?_⟩
  rw [nRes, if_neg hc, hi] at q7
  simpa using q7
theorem Fw12_put (hws : w.heap.size ≤ w1.heap.size) (hD : w1.heap.size + 4 ≤ D) (hk0 : 0 ≤ k) (hlt : k < l0.length) (hc : rd l0 k ≠ 10) (hi : nIs (rd l0 k) = true) (q0 : (dn.length : Int) = k) {g cap : Nat} (q1 : Kd.R (Kd.int .u8) 23 W w.heap.size (fun k => k < w1.heap.size) (.slice (some ⟨g, 0, none⟩) l0.length cap) (dn ++ l0.drop k.toNat)) (q2 : Kd.R (Kd.int .u8) 23 W w.heap.size (fun k => k = w1.heap.size) (.slice (some ⟨w1.heap.size, 0, none⟩) l0.length l0.length) bl)
    (q3 : Boxed W (w1.heap.size + 1) 22 (.slice (some ⟨w1.heap.size, 0, none⟩) l0.length l0.length)) (q4 : Boxed W (w1.heap.size + 1 + 1) 23 (.int .u8 d)) (q5 : Below w.heap.size w W) (q6 : W.heap[D]? = some (.deferred (some [])))
    (q7 : dn ++ nRes sd e3 d (l0.drop k.toNat) = nRes sd e3 d0 l0) (v : Int) (hv : v = if d = nBehind e3 (l0.drop (k + 1).toNat) ∧ d ≠ 0 then d else sd) (m : Nat) : Fw12 w w1 l0 e3 sd d0 (.slice (some ⟨g, 0, none⟩) l0.length cap) bl D (k + 1) ((W.drewN m).setCell ⟨g, k.toNat, none⟩ (.int .u8 v)) := by
  have hg := (Kd.R_bound q1).1 g (by simp [Value.ownBlock])
  have hr := (Kd.R_putg (Kd.R_drewN q1 m) k v).1
  rw [drop_rd l0 k hk0 hlt] at hr q7
  rw [set_mid _ _ _ _ _ q0] at hr
  refine ⟨dn ++ [v], d, by simp; omega, hr, Kd.R_far (Kd.R_drewN q2 m) (fun k hk => by dsimp at hk ⊢; omega) _, Boxed_far (W := W.drewN m) q3 (by dsimp; omega) _, Boxed_far (W := W.drewN m) q4 (by dsimp; omega) _, (pw_below_drewN q5 m).setCell (by dsimp; omega) _, (Below.heap_setCell (W.drewN m) _ _ D (by dsimp; omega)).trans q6, ?_⟩
  rw [nRes, if_neg hc, if_pos hi, ← hv] at q7
  simpa using q7
end
set_option maxHeartbeats 8000000 in
set_option maxRecDepth 100000 in
theorem neutral_Resolve.calls (A0 : Option Addr) (c0 : Nat) (l0 : List Int) (a1 : Int) (a2 : Int) (a3 : Int) (r : List Int) (w : World) (hr0 : Kd.C (Kd.int .u8) w A0 l0.length l0) (hc0 : l0.length ≤ c0) (h : neutral_Resolve.f l0 a1 a2 a3 = some r) :
    Calls Try.prog 12 #[.slice A0 l0.length c0, .int .u8 a1, .int .u8 a2, .int .u8 a3] w (Res12 w r) := by
  have HR0 := Aside0.mk hr0
  have HC0 := Aside0.mk hc0
  clear hr0 hc0
  have HB := Aside0.mk (Below.refl w.heap.size w)
  unfold neutral_Resolve.f at h
  by_cases c2 : l0.length < 140737488355328 ∧ 0 ≤ a1 ∧ a1 ≤ 255
  case neg => rw [if_neg c2] at h; exact absurd h (by simp)
  rw [if_pos c2] at h
  obtain ⟨c2, ha0, ha1⟩ := c2
  obtain ⟨sd, hsd⟩ : ∃ sd : Int, sd = if a1 % 2 = 1 then 2 else 1 := ⟨_, rfl⟩
  rw [← hsd] at h
  have Hsd := Aside0.mk hsd
  clear hsd
  obtain rfl := Option.some.inj h
  clear h
  have LMc2 := Aside0.mk c2
  have hlen : l0.length ≤ 9223372036854775807 := by omega
  have HCL := Aside0.mk (show api_Class_18.f l0 = some l0 from if_pos c2)
  have hmk := print_make (P := Try.prog) 22 23 .u8 1 Try.underlying22 info23 (by decide) l0.length (by omega)
  clear c2
  refine (callsIn_wide (n := 3)).1 ?_
  refine callsIn_of_wp_marks Try.func12 rfl trivial ?_ rfl
  refine wpIn_wide.2 ?_
  simp only [Try.ntmps12, List.size_toArray, List.length_cons, List.length_nil, Nat.reduceAdd, Nat.reduceSub, Array.replicate_succ, Array.replicate_zero, List.push_toArray, List.append_toArray, List.nil_append, List.cons_append]
  go_wp2_with (first | (go_at_call 18; (with_reducible refine (api_Class_18.calls _ _ l0 _ _ HR0.out HC0.out HCL.out).mono ?_); rintro e w1 ⟨vo, rfl, hO, hB⟩; have n0_ := Aside0.mk hB; have n1_ := Aside0.mk hO; clear HB hO hB; have HB := n0_; have HO := n1_; clear n0_ n1_) | (go_at_call 19; (with_reducible refine (edge_c _ _).mono ?_); rintro e w' ⟨rfl, ⟨m2, rfl⟩⟩) | (go_at_call 20; (with_reducible refine (bw_in _ _ _ _).mono ?_); rintro e w' ⟨rfl, rfl⟩))
  clear hmk
  obtain ⟨W0, hW0⟩ : ∃ W0, W0 = ((((w1.alloc (.cells (madeCells #[.int .u8 0] l0.length) 23)).alloc (.cells #[.slice (some ⟨w1.heap.size, 0, none⟩) l0.length l0.length] 22)).drewN m2).alloc (.cells #[.int .u8 (nEdge a3)] 23)).alloc (.cells #[.slice A0 l0.length c0] 22) := ⟨_, rfl⟩
  rw [← hW0]
  have hsz : W0.heap.size = w1.heap.size + 4 := by rw [hW0]; simp
  have bM : Kd.R (Kd.int .u8) 23 W0 w.heap.size (fun k => k = w1.heap.size) (.slice (some ⟨w1.heap.size, 0, none⟩) l0.length l0.length) (List.replicate l0.length 0) := by
    rw [hW0]
    refine Kd.R_alloc (Kd.R_alloc (Kd.R_drewN (Kd.R_alloc ?_ _) _) _) _
    exact Kd.R_of_own (own_made' w1 w.heap.size 23 .u8 l0.length HB.out.size hlen) (by intro k hk; simp [Value.ownBlock] at hk; exact hk.symm)
  have hO0 : Kd.R (Kd.int .u8) 23 W0 w.heap.size (fun k => k < w1.heap.size) vo l0 := by
    rw [hW0]
    refine Kd.R_alloc (Kd.R_alloc (Kd.R_drewN (Kd.R_alloc (Kd.R_alloc ?_ _) _) _) _) _
    exact Kd.R_mono (Kd.R_bound HO.out) (fun k hk => hk.2.2.1)
  have bB : Boxed W0 (w1.heap.size + 1) 22 (.slice (some ⟨w1.heap.size, 0, none⟩) l0.length l0.length) := by
    have h := Boxed.new (w1.alloc (.cells (madeCells #[.int .u8 0] l0.length) 23)) 22 (.slice (some ⟨w1.heap.size, 0, none⟩) l0.length l0.length)
    rw [World.size_alloc] at h
    rw [hW0]
    exact Boxed.alloc (Boxed.alloc h _) _
  have bD : Boxed W0 (w1.heap.size + 1 + 1) 23 (.int .u8 (nEdge a3)) := by
    have h := Boxed.new (((w1.alloc (.cells (madeCells #[.int .u8 0] l0.length) 23)).alloc (.cells #[.slice (some ⟨w1.heap.size, 0, none⟩) l0.length l0.length] 22)).drewN m2) 23 (.int .u8 (nEdge a3))
    simp only [size_drewN0, World.size_alloc] at h
    rw [hW0]
    exact Boxed.alloc h _
  have bS : Boxed W0 (w1.heap.size + 1 + 1 + 1) 22 (.slice A0 l0.length c0) := by
    have h := Boxed.new ((((w1.alloc (.cells (madeCells #[.int .u8 0] l0.length) 23)).alloc (.cells #[.slice (some ⟨w1.heap.size, 0, none⟩) l0.length l0.length] 22)).drewN m2).alloc (.cells #[.int .u8 (nEdge a3)] 23)) 22 (.slice A0 l0.length c0)
    simp only [size_drewN0, World.size_alloc] at h
    rw [hW0]
    exact h
  have hB0 : Below w.heap.size w W0 := by
    rw [hW0]
    exact below_alloc (below_alloc (pw_below_drewN (below_alloc (below_alloc HB.out _) _) _) _) _
  clear hW0
  have hws := HB.out.size
  refine (wpIn_wide (n := 3)).1 ?_
  refine wpIn_rangeFunc_ownG (F := Fence.wide) (n := 3) rfl (by decide) (gf := 26) (lb := #[.pointer (some ⟨w1.heap.size + 1 + 1 + 1, 0, none⟩)]) rfl trivial (enters_of Try.func26 (by kernel_rfl) rfl)
    (bw_stops Fence.wide 2 trivial rfl (by decide) (w1.heap.size + 1 + 1 + 1) c0 A0 l0 w W0 HR0.out LMc2.out hB0 bS) (fun h k => KpB.trans h k) (KpB_b (by omega) (by omega)) (Below.refl _ _) (fun _ => rfl)
    (Bw12 w w1 l0 (nEdge a3) vo) (fun _ _ _ => False)
    (Bw12_own w w1 l0 (nEdge a3) vo W0.heap.size (by omega))
    (fun _ _ _ _ _ hs _ _ => hs)
    ⟨hO0, bM, bB, bD, hB0⟩
    (fun x => { tmps := #[.slice A0 l0.length c0, .int .u8 a1, .int .u8 a2, .int .u8 a3, undef, undef, undef, undef, .slice none 0 0, vo, .pointer (some ⟨w1.heap.size + 1, 0, none⟩), .pointer (some ⟨w1.heap.size + 1 + 1, 0, none⟩), .int .i64 x.1, .int .u8 (rd l0 x.1), undef, undef, .slice A0 l0.length c0, vo, .slice A0 l0.length c0, .int .i64 ↑l0.length, .slice (some ⟨w1.heap.size, 0, none⟩) l0.length l0.length, .int .u8 a3, .int .u8 (nEdge a3), .slice A0 l0.length c0, .func (.func 26) #[] #[.pointer (some ⟨w1.heap.size + 1 + 1 + 1, 0, none⟩)], .int .i64 x.1, .int .u8 (rd l0 x.1), undef, undef, undef, undef, undef, undef, undef, undef, undef, undef, undef, undef, undef, undef, undef, undef, undef, undef, undef, undef, undef, undef, undef, undef, undef, undef, undef, undef, undef, undef, undef, undef, undef, undef, undef, undef, undef, undef, undef, undef, undef, undef, undef, undef, undef, undef, undef, undef, undef, undef, undef, undef, undef, undef, undef], defers := [] }) ?assign ?body ?done ?stop
  case assign =>
    intro l x W K hK
    dsimp only [encBw]
    gi_wp2
    exact hK
  case body =>
    rintro l pre x W ⟨h1, h2, h3, h4, h5⟩ hlt
    have HS := Aside0.mk (bwSt_snoc l0 (nEdge a3) pre x)
    have hsl : (bwSt l0 (nEdge a3) pre).1.length = l0.length := bwSt_len _ _ _
    generalize bwSt l0 (nEdge a3) pre = st at HS h2 h4 hsl
    have hc3 := h3.cell
    have hc4 := h4.cell
    have hf4 := h4.frozen
    obtain ⟨i, hi0, hi1⟩ := x
    dsimp only at HS
    obtain ⟨hcM, hfM⟩ := Kd.R_celln (0 : Int) h2 i hi0 (by omega)
    have HP := Aside0.mk (bw_put (i := i) hws h1 h2 h3 h4 h5 st.2)
    have hKf := fun (v : Value) => (KeepsOthers.setCell W ⟨w1.heap.size, i.toNat, none⟩ v).from W0.heap.size
    have hKp : ∀ (v : Value), KpB w.heap.size (w1.heap.size + 1 + 1 + 1) W (W.setCell ⟨w1.heap.size, i.toNat, none⟩ v) := fun v => ⟨(Below.refl _ W).setCell (p := ⟨w1.heap.size, i.toNat, none⟩) hws v, Below.heap_setCell W _ v _ (by dsimp; omega)⟩
    have hKp2 : ∀ (W2 : World) (v : Value), KpB w.heap.size (w1.heap.size + 1 + 1 + 1) W2 (W2.setCell ⟨w1.heap.size + 1 + 1, 0, none⟩ v) := fun W2 v => ⟨(Below.refl _ W2).setCell (p := ⟨w1.heap.size + 1 + 1, 0, none⟩) (by dsimp; omega) v, Below.heap_setCell W2 _ v _ (by dsimp; omega)⟩
    have HKf := Aside0.mk hKf
    have HKp := Aside0.mk hKp
    have HKp2 := Aside0.mk hKp2
    clear hKf hKp hKp2
    by_cases e10 : rd l0 i = 10
    · have b1 : (rd l0 i != 10) = false := by rw [e10]; rfl
      gi_wp2
      refine ⟨trivial, ?_⟩
      gi_wp2
      refine ⟨HKf.out _, HKp.out _, ?_⟩
      rw [Bw12, HS.out]
      obtain ⟨⟨p1, p2, p3, p4⟩, p5⟩ := HP.out
      exact ⟨p1, p2, p3, by simpa [nStep, e10] using p4, p5⟩
    · have b1 : (rd l0 i != 10) = true := bne_iff_ne.mpr e10
      by_cases eis : nIs (rd l0 i) = true
      · gi_wp2_with (refine ⟨trivial, ?_⟩; gi_at_call 21; refine (CallsIn.inRound l (callsIn_wide.2 (is_c _ _))).mono ?_; rintro e w' ⟨rfl, ⟨m3, rfl⟩⟩)
        refine ⟨KeepsFrom_drewN (HKf.out _) _, (HKp.out _).drewN _, Bw12_drewN ?_ _⟩
        rw [Bw12, HS.out]
        obtain ⟨⟨p1, p2, p3, p4⟩, p5⟩ := HP.out
        exact ⟨p1, p2, p3, by simpa [nStep, e10, eis] using p4, p5⟩
      · have eis := Bool.eq_false_iff.mpr eis
        gi_wp2_with (first | (refine ⟨trivial, ?_⟩; gi_at_call 21; refine (CallsIn.inRound l (callsIn_wide.2 (is_c _ _))).mono ?_; rintro e w' ⟨rfl, ⟨m3, rfl⟩⟩) | (refine ⟨trivial, ?_⟩; gi_at_call 22; refine (CallsIn.inRound l (callsIn_wide.2 (dir_c _ _))).mono ?_; rintro e w' ⟨rfl, ⟨m4, rfl⟩⟩))
        refine ⟨(KeepsFrom_drewN (HKf.out _) _).trans ((KeepsOthers.setCell _ _ _).from _), ((HKp.out _).drewN _).trans (HKp2.out _ _), ?_⟩
        rw [Bw12, HS.out]
        obtain ⟨⟨p1, p2, p3, p4⟩, p5⟩ := HP.out
        have hq := bw_put2 (s := (st.1.set i.toNat st.2, st.2)) (W := (W.setCell ⟨w1.heap.size, i.toNat, none⟩ (.int .u8 st.2)).drewN (m3 + m4)) hws (Kd.R_drewN p1 _) (Kd.R_drewN p2 _) p3 p4 (pw_below_drewN p5 _) (nDir (rd l0 i))
        exact ⟨hq.1.1, hq.1.2.1, hq.1.2.2.1, by simpa [nStep, e10, eis] using hq.1.2.2.2, hq.2⟩
  case done =>
    rintro D ys W hD rfl ⟨h1, h2, h3, h4, h5⟩ hK
    obtain ⟨bl, Hbl⟩ : ∃ bl, Aside0 (bl = (bwSt l0 (nEdge a3) (bwTo l0 (-1))).1) := ⟨_, ⟨rfl⟩⟩
    rw [← Hbl.out] at h2
    have HBA := Aside0.mk (bwSt_at l0 (nEdge a3) _ (-1) (by omega) (by omega) rfl).2
    rw [← Hbl.out] at HBA
    have hbl : bl.length = l0.length := by rw [Hbl.out]; exact bwSt_len _ _ _
    clear Hbl
    generalize (bwSt l0 (nEdge a3) (bwTo l0 (-1))).2 = dd at h4
    have hc4 := h4.cell
    have hf4 := h4.frozen
    have Hws := Aside0.mk hws
    have HsZ := Aside0.mk hsz
    have H0 : Aside0 (∀ m, Fw12 w w1 l0 (nEdge a3) sd (nEdge a2) vo bl D 0 ((W.drewN m).setCell ⟨w1.heap.size + 1 + 1, 0, none⟩ (.int .u8 (nEdge a2)))) := by
      refine ⟨fun m => ?_⟩
      obtain ⟨⟨p1, p2, p3, p4⟩, p5⟩ := bw_put2 (s := (bl, dd)) (W := W.drewN m) hws (Kd.R_drewN h1 m) (Kd.R_drewN h2 m) h3 h4 (pw_below_drewN h5 m) (nEdge a2)
      exact ⟨[], nEdge a2, rfl, p1, p2, p3, p4, p5, (Below.heap_setCell (W.drewN m) _ _ D (by dsimp; omega)).trans hK, rfl⟩
    clear hB0 bS bD bB hO0 bM
    go_wp2_with (go_at_call 19; (with_reducible refine (edge_c _ _).mono ?_); rintro e w' ⟨rfl, ⟨m5, rfl⟩⟩)
    clear hc4 hf4
    go_loopw [44] (fun v44 wr => ∃ k : Int, 0 ≤ k ∧ k ≤ l0.length ∧ v44 = .int .i64 k ∧ Aside0 (Fw12 w w1 l0 (nEdge a3) sd (nEdge a2) vo bl D k wr)) (fun v44 _ => l0.length - (intOf v44).toNat)
    case atStart => exact ⟨0, by omega, by omega, rfl, ⟨H0.out _⟩⟩
    case round =>
      clear H0 h1 h2 h3 h4 h5 hK
      obtain ⟨k, hk0, hk1, rfl, HF⟩ := hrel
      obtain ⟨dn, d, q0, q1, q2, q3, q4, q5, q6, q7⟩ := HF.out
      clear HF
      by_cases hlt : k < (l0.length : Int)
      · have b1 : decide (k < (l0.length : Int)) = true := decide_eq_true hlt
        obtain ⟨ad1, e1, hx1⟩ := Kd.at_int HR0.out k hk0 hlt
        subst e1
        replace hx1 := (q5.cell (World.block_lt_of_cell? w _ hx1)).trans hx1
        have hdrop := drop_rd l0 k hk0 hlt
        have hol : (dn ++ l0.drop k.toNat).length = l0.length := by rw [List.length_append, List.length_drop]; omega
        obtain ⟨inner, ho⟩ := Kd.R_own q1
        obtain ⟨g, cap, rfl, _, _⟩ := ho.form (by omega)
        clear ho
        rw [hol] at q1
        rw [hol]
        obtain ⟨hcO, hfO⟩ := Kd.R_celln (0 : Int) q1 k hk0 hlt
        obtain ⟨hcM0, hfM⟩ := Kd.R_celln (0 : Int) q2 k hk0 hlt
        have hcM : wr.cell? ⟨w1.heap.size, k.toNat, none⟩ = some (.int .u8 (rd bl k)) := hcM0
        clear hcM0
        have hc3 := q3.cell
        have hc4 := q4.cell
        have hf4 := q4.frozen
        have hDD : w1.heap.size + 4 ≤ D := by omega
        have HB2 := Aside0.mk (HBA.out k (by omega) hlt)
        by_cases e10 : rd l0 k = 10
        · have b10 : (rd l0 k == 10) = true := beq_iff_eq.mpr e10
          have HF := Aside0.mk (Fw12_ten hk0 hlt e10 q0 q1 q2 q3 q4 q5 q6 q7)
          rw [e10] at hx1
          go_wp2
          go_roundw
          case rel => exact ⟨k + 1, by omega, by omega, by go_num, HF⟩
          case measure => simp [intOf]; omega
        · have b10 : (rd l0 k == 10) = false := beq_eq_false_iff_ne.mpr e10
          by_cases eis : nIs (rd l0 k) = true
          · by_cases hd : d = nBehind (nEdge a3) (l0.drop (k + 1).toNat) ∧ d ≠ 0
            · have HF := Aside0.mk (Fw12_put hws hDD hk0 hlt e10 eis q0 q1 q2 q3 q4 q5 q6 q7 d (by rw [if_pos hd]))
              have hdb : (d == rd bl k) = true := by rw [HB2.out]; exact beq_iff_eq.mpr hd.1
              have hd0 : (d != 0) = true := bne_iff_ne.mpr hd.2
              clear hd
              go_wp2_with (go_at_call 21; (with_reducible refine (is_c _ _).mono ?_); rintro e w' ⟨rfl, ⟨m6, rfl⟩⟩)
              go_quiet (fail)
              go_wp2
              go_roundw
              case rel => exact ⟨k + 1, by omega, by omega, by go_num, ⟨HF.out _⟩⟩
              case measure => simp [intOf]; omega
            · have HF := Aside0.mk (Fw12_put hws hDD hk0 hlt e10 eis q0 q1 q2 q3 q4 q5 q6 q7 sd (by rw [if_neg hd]))
              by_cases hd1 : d = nBehind (nEdge a3) (l0.drop (k + 1).toNat)
              · have hdb : (d == rd bl k) = true := by rw [HB2.out]; exact beq_iff_eq.mpr hd1
                have hd0 : (d != 0) = false := by by_cases h0 : d = 0; · simp [h0]
                                                  · exact absurd ⟨hd1, h0⟩ hd
                clear hd hd1
                by_cases hodd : a1 % 2 = 1
                · obtain rfl : sd = 2 := by rw [Hsd.out, if_pos hodd]
                  have hb1 : bits .and .u8 a1 1 = 1 := by rw [and1 a1 ha0 ha1]; exact hodd
                  have hix := idx41_1
                  clear hodd
                  go_wp2_with (go_at_call 21; (with_reducible refine (is_c _ _).mono ?_); rintro e w' ⟨rfl, ⟨m6, rfl⟩⟩)
                  go_quiet (fail)
                  go_wp2
                  go_roundw
                  case rel => exact ⟨k + 1, by omega, by omega, by go_num, ⟨HF.out _⟩⟩
                  case measure => simp [intOf]; omega
                · obtain rfl : sd = 1 := by rw [Hsd.out, if_neg hodd]
                  have hb1 : bits .and .u8 a1 1 = 0 := by rw [and1 a1 ha0 ha1]; omega
                  have hix := idx41_0
                  clear hodd
                  go_wp2_with (go_at_call 21; (with_reducible refine (is_c _ _).mono ?_); rintro e w' ⟨rfl, ⟨m6, rfl⟩⟩)
                  go_quiet (fail)
                  go_wp2
                  go_roundw
                  case rel => exact ⟨k + 1, by omega, by omega, by go_num, ⟨HF.out _⟩⟩
                  case measure => simp [intOf]; omega
              · have hdb : (d == rd bl k) = false := by rw [HB2.out]; exact beq_eq_false_iff_ne.mpr hd1
                clear hd hd1
                by_cases hodd : a1 % 2 = 1
                · obtain rfl : sd = 2 := by rw [Hsd.out, if_pos hodd]
                  have hb1 : bits .and .u8 a1 1 = 1 := by rw [and1 a1 ha0 ha1]; exact hodd
                  have hix := idx41_1
                  clear hodd
                  go_wp2_with (go_at_call 21; (with_reducible refine (is_c _ _).mono ?_); rintro e w' ⟨rfl, ⟨m6, rfl⟩⟩)
                  go_quiet (fail)
                  go_wp2
                  go_roundw
                  case rel => exact ⟨k + 1, by omega, by omega, by go_num, ⟨HF.out _⟩⟩
                  case measure => simp [intOf]; omega
                · obtain rfl : sd = 1 := by rw [Hsd.out, if_neg hodd]
                  have hb1 : bits .and .u8 a1 1 = 0 := by rw [and1 a1 ha0 ha1]; omega
                  have hix := idx41_0
                  clear hodd
                  go_wp2_with (go_at_call 21; (with_reducible refine (is_c _ _).mono ?_); rintro e w' ⟨rfl, ⟨m6, rfl⟩⟩)
                  go_quiet (fail)
                  go_wp2
                  go_roundw
                  case rel => exact ⟨k + 1, by omega, by omega, by go_num, ⟨HF.out _⟩⟩
                  case measure => simp [intOf]; omega
          · have eis := Bool.eq_false_iff.mpr eis
            have HF := Aside0.mk (Fw12_dir hws hDD hk0 hlt e10 eis q0 q1 q2 q3 q4 q5 q6 q7)
            go_wp2_with (first | (go_at_call 21; (with_reducible refine (is_c _ _).mono ?_); rintro e w' ⟨rfl, ⟨m6, rfl⟩⟩) | (go_at_call 22; (with_reducible refine (dir_c _ _).mono ?_); rintro e w' ⟨rfl, ⟨m7, rfl⟩⟩))
            go_roundw
            case rel => exact ⟨k + 1, by omega, by omega, by go_num, ⟨HF.out _⟩⟩
            case measure => simp [intOf]; omega
      · obtain rfl : k = l0.length := by omega
        have b1 : decide ((l0.length : Int) < (l0.length : Int)) = false := by simp
        rw [show ((l0.length : Int)).toNat = l0.length from by omega, List.drop_length] at q1 q7
        rw [List.append_nil] at q1
        rw [nRes, List.append_nil] at q7
        rw [q7] at q1
        have Q1 := Aside0.mk q1
        have Q5 := Aside0.mk q5
        have Q6 := Aside0.mk q6
        clear q0 q1 q2 q3 q4 q5 q6 q7
        go_wp2
        refine ⟨by simp, .inl ⟨_, _, rfl, run_takeDeferred Q6.out, ?_⟩⟩
        refine ⟨_, results_tmp rfl _ _ _, _, rfl, ?_, ?_⟩
        · exact Kd.R_mono (R_from Q1.out (grownBy_putObj' wr D (.deferred none)) (fun r e => by cases e; exact ⟨_, Q6.out, rfl⟩)) (fun _ _ => trivial)
        · exact Q5.out.trans (belowK_b (w := w) (Nat.le_refl _) wr D _ _ (by have := Hws.out; have := HsZ.out; omega) Q6.out rfl rfl)
  case stop =>
    rintro D c pre W _ _ h _
    exact h.elim
end

/-! ### neutral_more: function 25 (a text of ours) -/
def nMore0 (c : Int) : Int := if c = 2 then 1 else if c = 1 then 0 else if c = 4 ∨ c = 7 then 2 else 0
def nMore1 (c : Int) : Int := if c = 2 then 0 else if c = 1 then 1 else if c = 4 ∨ c = 7 then 1 else 0
def PairB (x y : Int) (w : World) (e : Ending) (w' : World) : Prop := e = .returned (.agg #[.int .u8 x, .int .u8 y]) ∧ Below w.heap.size w w'
set_option maxHeartbeats 2000000 in
set_option maxRecDepth 100000 in
theorem neutral_more_calls (c : Int) (w : World) : Calls Try.prog 25 #[.int .u8 c] w (PairB (nMore0 c) (nMore1 c) w) := by
  have hu42 := Try.underlying42
  by_cases h2 : c = 2
  · subst h2
    go_enter Try.func25, Try.ntmps25
    go_wp2
    refine bodyPost_ret (v := .agg #[.int .u8 1, .int .u8 0]) (by simp [results, Try.results25, go_sem]) rfl ?_
    exact ⟨rfl, (Below.refl _ _).alloc (Nat.le_refl _) _⟩
  by_cases h1 : c = 1
  · subst h1
    go_enter Try.func25, Try.ntmps25
    go_wp2
    refine bodyPost_ret (v := .agg #[.int .u8 0, .int .u8 1]) (by simp [results, Try.results25, go_sem]) rfl ?_
    exact ⟨rfl, (Below.refl _ _).alloc (Nat.le_refl _) _⟩
  by_cases h4 : c = 4
  · subst h4
    go_enter Try.func25, Try.ntmps25
    go_wp2
    refine bodyPost_ret (v := .agg #[.int .u8 2, .int .u8 1]) (by simp [results, Try.results25, go_sem]) rfl ?_
    exact ⟨rfl, (Below.refl _ _).alloc (Nat.le_refl _) _⟩
  by_cases h7 : c = 7
  · subst h7
    go_enter Try.func25, Try.ntmps25
    go_wp2
    refine bodyPost_ret (v := .agg #[.int .u8 2, .int .u8 1]) (by simp [results, Try.results25, go_sem]) rfl ?_
    exact ⟨rfl, (Below.refl _ _).alloc (Nat.le_refl _) _⟩
  have e0 : nMore0 c = 0 := by simp [nMore0, h2, h1, h4, h7]
  have e1 : nMore1 c = 0 := by simp [nMore1, h2, h1, h4, h7]
  rw [e0, e1]
  clear e0 e1
  have b2 : (c == 2) = false := beq_eq_false_iff_ne.mpr h2
  have b1 : (c == 1) = false := beq_eq_false_iff_ne.mpr h1
  have b4 : (c == 4) = false := beq_eq_false_iff_ne.mpr h4
  have b7 : (c == 7) = false := beq_eq_false_iff_ne.mpr h7
  go_enter Try.func25, Try.ntmps25
  go_wp2
  refine bodyPost_ret (v := .agg #[.int .u8 0, .int .u8 0]) (by simp [results, Try.results25, go_sem]) rfl ?_
  exact ⟨rfl, (Below.refl _ _).alloc (Nat.le_refl _) _⟩

theorem idx42_0 (x y : Int) (w : World) : (Instr.index 42 (.agg #[.int .u8 x, .int .u8 y]) (.int .u8 0)).run Try.prog w = .ok (.int .u8 x) w := by kernel_rfl
theorem idx42_1 (x y : Int) (w : World) : (Instr.index 42 (.agg #[.int .u8 x, .int .u8 y]) (.int .u8 1)).run Try.prog w = .ok (.int .u8 y) w := by kernel_rfl
theorem and1' (a : Int) (h0 : 0 ≤ a) (h1 : a ≤ 255) : bits .and .u8 a 1 = a % 2 := by
  have := bits_mask .u8 8 (by decide) wraps_u8 1 (by decide) a h0 (by omega)
  simpa using this

-- NOT PRINTED: function 25 (neutral_more)

/-! ### neutral_Levels: function 14 (a text of ours) -/
def nMore (c a : Int) : Int := if a % 2 = 1 then nMore1 c else nMore0 c
def nLev (a : Int) (l : List Int) : List Int := l.map fun c => (a + nMore c a) % 256
def neutral_Levels.f (l0 : List Int) (a1 : Int) : Option (List Int) :=
  if l0.length < 140737488355328 ∧ 0 ≤ a1 ∧ a1 ≤ 255 then some (nLev a1 l0) else none
theorem nLev_snoc (a : Int) (l : List Int) (k : Int) (h0 : 0 ≤ k) (h : k < l.length) : nLev a (l.take (k + 1).toNat) = nLev a (l.take k.toNat) ++ [(a + nMore (rd l k) a) % 256] := by
  obtain ⟨n, rfl⟩ := Int.eq_ofNat_of_zero_le h0
  have hn : n < l.length := by omega
  have e : ((n : Int) + 1).toNat = n + 1 := by omega
  rw [e, List.take_succ_eq_append_getElem hn, nLev, nLev, List.map_append, List.map_singleton]
  congr 3
  simp [rd, hn]
set_option maxHeartbeats 4000000 in
set_option maxRecDepth 100000 in
theorem neutral_Levels.calls (A0 : Option Addr) (c0 : Nat) (l0 : List Int) (a1 : Int) (r : List Int) (w : World) (hr0 : Kd.C (Kd.int .u8) w A0 l0.length l0) (hc0 : l0.length ≤ c0) (h : neutral_Levels.f l0 a1 = some r) :
    Calls Try.prog 14 #[.slice A0 l0.length c0, .int .u8 a1] w fun e w' => ∃ v0_ : Value, e = .returned (v0_) ∧ Kd.R (Kd.int .u8) 5 w' w.heap.size (fun _ => True) v0_ r ∧ Below w.heap.size w w' := by
  have HR0 := Aside0.mk hr0
  have HC0 := Aside0.mk hc0
  clear hr0 hc0
  have HB := Aside0.mk (Below.refl w.heap.size w)
  unfold neutral_Levels.f at h
  by_cases c2 : l0.length < 140737488355328 ∧ 0 ≤ a1 ∧ a1 ≤ 255
  case neg => rw [if_neg c2] at h; exact absurd h (by simp)
  rw [if_pos c2] at h
  obtain rfl := Option.some.inj h
  clear h
  obtain ⟨c2, ha0, ha1⟩ := c2
  have LMc2 := Aside0.mk c2
  have Hand := Aside0.mk (and1' a1 ha0 ha1)
  have hlen : l0.length ≤ 9223372036854775807 := by omega
  clear c2
  go_enter Try.func14, Try.ntmps14
  go_wp2
  go_loopw [5, 10] (fun v5 v10 w' => ∃ k : Int, 0 ≤ k ∧ k ≤ l0.length ∧ v10 = .int .i64 k ∧ Aside0 (Kd.R (Kd.int .u8) 5 w' w.heap.size (fun _ => True) v5 (nLev a1 (l0.take k.toNat))) ∧ Aside0 (Below w.heap.size w w')) (fun _ v10 _ => l0.length - (intOf v10).toNat)
  case atStart => exact ⟨0, by omega, by omega, rfl, ⟨Kd.R_nil _ _ _ _ _⟩, HB⟩
  case round =>
    obtain ⟨k, hk0, hk1, rfl, HO, HB⟩ := hrel
    by_cases hlt : k < (l0.length : Int)
    · have b1 : decide (k < (l0.length : Int)) = true := decide_eq_true hlt
      obtain ⟨ad1, e1, hx1⟩ := Kd.at_int HR0.out k hk0 hlt
      subst e1
      replace hx1 := (HB.out.cell (World.block_lt_of_cell? w _ hx1)).trans hx1
      by_cases hodd : a1 % 2 = 1
      · have HS := Aside0.mk (nLev_snoc a1 l0 k hk0 hlt)
        rw [show nMore (rd l0 k) a1 = nMore1 (rd l0 k) from by simp [nMore, hodd]] at HS
        have hb1 : bits .and .u8 a1 1 = 1 := by rw [Hand.out]; omega
        have hix := idx42_1
        go_wp2_with (first | (go_at_call 25; (with_reducible refine (neutral_more_calls _ _).mono ?_); rintro e w' ⟨rfl, hb⟩; have n0_ := Aside0.mk (below_step HB.out hb); have n1_ := Aside0.mk (Kd.R_below HO.out hb); clear HB HO hx1 hb; have HB := n0_; have HO := n1_; clear n0_ n1_) | ((with_reducible refine gate_builtin (b := .append) (xs := #[.tmp 14, .tmp 22]) rfl ?_); at_builtin; refine Kd.R_append (Kd.int .u8) (w0 := w) w.heap.size rfl (.tmp 14) (.tmp 22) 29 5 (.int .u8 0) 1 rfl Try.underlying29 info5 rfl (by decide) (by omega) u5 (nLev a1 (l0.take k.toNat)) ((a1 + nMore1 (rd l0 k)) % 256) [.int .u8 ((a1 + nMore1 (rd l0 k)) % 256)] (fun _ => True) (fun _ => False) rfl rfl ?aP (fun _ hk => hk.elim) ?aF ?aO ?aB ?aS ?aL ?_; (case aP => exact rfl); (case aB => exact (by repeat (first | (with_reducible first | exact HB.out | apply below_alloc | apply pw_below_drewN | apply below_drew1) | exact HB.out))); (case aF => exact (fun _ _ => trivial)); (case aO => exact (by (with_reducible repeat (first | apply Kd.R_alloc | apply Kd.R_drewN | apply Kd.R_drew)); exact HO.out)); (case aS => exact (below_size (by repeat (first | (with_reducible first | exact HB.out | apply below_alloc | apply pw_below_drewN | apply below_drew1) | exact HB.out)))); (case aL => have := LMc2.out; rw [nLev, List.length_map, List.length_take]; omega); intro v118 w15 ho hb hg hat; have n0_ := Aside0.mk (hb); have n1_ := Aside0.mk (ho); clear HB; clear HO; have HB := n0_; have HO119 := n1_; clear n0_ n1_; clear ho hb hg hat))
        go_roundw
        case rel => exact ⟨k + 1, by omega, by omega, by go_num, ⟨by rw [HS.out]; exact HO119.out⟩, HB⟩
        case measure => simp [intOf]; omega
      · have HS := Aside0.mk (nLev_snoc a1 l0 k hk0 hlt)
        rw [show nMore (rd l0 k) a1 = nMore0 (rd l0 k) from by simp [nMore, hodd]] at HS
        have hb1 : bits .and .u8 a1 1 = 0 := by rw [Hand.out]; omega
        have hix := idx42_0
        go_wp2_with (first | (go_at_call 25; (with_reducible refine (neutral_more_calls _ _).mono ?_); rintro e w' ⟨rfl, hb⟩; have n0_ := Aside0.mk (below_step HB.out hb); have n1_ := Aside0.mk (Kd.R_below HO.out hb); clear HB HO hx1 hb; have HB := n0_; have HO := n1_; clear n0_ n1_) | ((with_reducible refine gate_builtin (b := .append) (xs := #[.tmp 14, .tmp 22]) rfl ?_); at_builtin; refine Kd.R_append (Kd.int .u8) (w0 := w) w.heap.size rfl (.tmp 14) (.tmp 22) 29 5 (.int .u8 0) 1 rfl Try.underlying29 info5 rfl (by decide) (by omega) u5 (nLev a1 (l0.take k.toNat)) ((a1 + nMore0 (rd l0 k)) % 256) [.int .u8 ((a1 + nMore0 (rd l0 k)) % 256)] (fun _ => True) (fun _ => False) rfl rfl ?aP (fun _ hk => hk.elim) ?aF ?aO ?aB ?aS ?aL ?_; (case aP => exact rfl); (case aB => exact (by repeat (first | (with_reducible first | exact HB.out | apply below_alloc | apply pw_below_drewN | apply below_drew1) | exact HB.out))); (case aF => exact (fun _ _ => trivial)); (case aO => exact (by (with_reducible repeat (first | apply Kd.R_alloc | apply Kd.R_drewN | apply Kd.R_drew)); exact HO.out)); (case aS => exact (below_size (by repeat (first | (with_reducible first | exact HB.out | apply below_alloc | apply pw_below_drewN | apply below_drew1) | exact HB.out)))); (case aL => have := LMc2.out; rw [nLev, List.length_map, List.length_take]; omega); intro v118 w15 ho hb hg hat; have n0_ := Aside0.mk (hb); have n1_ := Aside0.mk (ho); clear HB; clear HO; have HB := n0_; have HO119 := n1_; clear n0_ n1_; clear ho hb hg hat))
        go_roundw
        case rel => exact ⟨k + 1, by omega, by omega, by go_num, ⟨by rw [HS.out]; exact HO119.out⟩, HB⟩
        case measure => simp [intOf]; omega
    · obtain rfl : k = l0.length := by omega
      have HT : Aside0 (List.take (l0.length : Int).toNat l0 = l0) := ⟨by simp⟩
      rw [HT.out] at HO
      go_wp2
      go_ret
      exact ⟨_, rfl, HO.out, HB.out⟩

/-! ### selvedgelaw18_works: function 9 -/
def selvedgelaw18_works.f (k : Nat)  : Option (Bool) := (neutral_Resolve.f (([1, 14, 2, 14, 4, 13, 1] : List Int)) 0 1 1).bind fun t106 => ((selvedgelaw18_is.f k t106 (([1, 1, 2, 2, 4, 1, 1] : List Int))).bind fun t112 => (if t112 = true then ((neutral_Levels.f t106 0).bind fun t113 => (some ((strOfNums t113).toList == ([0, 0, 1, 1, 2, 0, 0] : List UInt8)))) else (some false)))
theorem selvedgelaw18_works.mono : ∀ k, LeO (selvedgelaw18_works.f k ) (selvedgelaw18_works.f (k + 1) ) := by
 intro  k
 unfold selvedgelaw18_works.f
 repeat' first
   | (with_reducible exact selvedgelaw18_is.mono _ _ _)
   | (with_reducible exact LeO.refl _)
   | (with_reducible exact LeO.none _)
   | (with_reducible refine LeO.ite ?_ ?_)
   | (with_reducible refine LeO.bind ?_ (fun _ => ?_))
   | exact selvedgelaw18_is.mono _ _ _
   | exact LeO.none _
   | refine LeO.ite ?_ ?_
   | refine LeO.bind ?_ (fun _ => ?_)
set_option maxHeartbeats 8000000 in
set_option maxRecDepth 100000 in
theorem selvedgelaw18_works.calls (k : Nat)  (r : Bool) (w : World) (h : selvedgelaw18_works.f k  = some r) :
  Calls Try.prog 9 #[] w fun e w' => e = .returned (.bool r) ∧ Below w.heap.size w w' := by
 have HB := Aside0.mk (Below.refl w.heap.size w)
 have H : ((neutral_Resolve.f (([1, 14, 2, 14, 4, 13, 1] : List Int)) 0 1 1).bind fun t106 => ((selvedgelaw18_is.f k t106 (([1, 1, 2, 2, 4, 1, 1] : List Int))).bind fun t112 => (if t112 = true then ((neutral_Levels.f t106 0).bind fun t113 => (some ((strOfNums t113).toList == ([0, 0, 1, 1, 2, 0, 0] : List UInt8)))) else (some false)))) = some r := h
 clear h
 obtain ⟨y103, hy103⟩ : ∃ y_ : List Int, y_ = (([1, 14, 2, 14, 4, 13, 1] : List Int)) := ⟨_, rfl⟩
 replace H : ((neutral_Resolve.f y103 0 1 1).bind fun t106 => ((selvedgelaw18_is.f k t106 (([1, 1, 2, 2, 4, 1, 1] : List Int))).bind fun t112 => (if t112 = true then ((neutral_Levels.f t106 0).bind fun t113 => (some ((strOfNums t113).toList == ([0, 0, 1, 1, 2, 0, 0] : List UInt8)))) else (some false)))) = some r := by first | (rw [hy103]; with_reducible exact H) | (have H2_ := (Option.bind_some _ _).symm.trans H; rw [hy103]; with_reducible exact H2_) | (have H2_ := (Option.bind_some _ _).symm.trans H; with_reducible exact H2_) | with_reducible exact H | (rw [hy103]; exact H) | exact H
 have Ny103 := Aside0.mk hy103
 clear hy103
 replace H := Option.bind_eq_some_iff.mp H
 obtain ⟨t106, A10, H⟩ := H
 replace H : ((selvedgelaw18_is.f k t106 (([1, 1, 2, 2, 4, 1, 1] : List Int))).bind fun t112 => (if t112 = true then ((neutral_Levels.f t106 0).bind fun t113 => (some ((strOfNums t113).toList == ([0, 0, 1, 1, 2, 0, 0] : List UInt8)))) else (some false))) = some r := H
 have A1 := Aside0.mk A10
 clear A10
 obtain ⟨y109, hy109⟩ : ∃ y_ : List Int, y_ = (([1, 1, 2, 2, 4, 1, 1] : List Int)) := ⟨_, rfl⟩
 replace H : ((selvedgelaw18_is.f k t106 y109).bind fun t112 => (if t112 = true then ((neutral_Levels.f t106 0).bind fun t113 => (some ((strOfNums t113).toList == ([0, 0, 1, 1, 2, 0, 0] : List UInt8)))) else (some false))) = some r := by first | (rw [hy109]; with_reducible exact H) | (have H2_ := (Option.bind_some _ _).symm.trans H; rw [hy109]; with_reducible exact H2_) | (have H2_ := (Option.bind_some _ _).symm.trans H; with_reducible exact H2_) | with_reducible exact H | (rw [hy109]; exact H) | exact H
 have Ny109 := Aside0.mk hy109
 clear hy109
 replace H := Option.bind_eq_some_iff.mp H
 obtain ⟨t112, A20, H⟩ := H
 replace H : (if t112 = true then ((neutral_Levels.f t106 0).bind fun t113 => (some ((strOfNums t113).toList == ([0, 0, 1, 1, 2, 0, 0] : List UInt8)))) else (some false)) = some r := H
 have A2 := Aside0.mk A20
 clear A20
 by_cases c3 : t112 = true
 ·subst c3
  have H1 : ((neutral_Levels.f t106 0).bind fun t113 => (some ((strOfNums t113).toList == ([0, 0, 1, 1, 2, 0, 0] : List UInt8)))) = some r := by rw [if_pos rfl] at H; exact H
  clear H
  have H := H1
  clear H1
  replace H := Option.bind_eq_some_iff.mp H
  obtain ⟨t113, A40, H⟩ := H
  replace H : (some ((strOfNums t113).toList == ([0, 0, 1, 1, 2, 0, 0] : List UInt8))) = some r := H
  have A4 := Aside0.mk A40
  clear A40
  obtain rfl := Option.some.inj H
  go_enter Try.func9, Try.ntmps9
  go_wp2_with (first | ((with_reducible refine gate_dst (N := 2) rfl ?_); refine Kd.R_lit (Kd.int .u8) _ 23 ?hg (N := 2) ?hd (xs := ([1, 14, 2, 14, 4, 13, 1] : List Int)) (inner := [.int .u8 1, .int .u8 14, .int .u8 2, .int .u8 14, .int .u8 4, .int .u8 13, .int .u8 1]) (ok := fun _ => True) (okp := fun _ => True) ?hr ?hp (fun _ hk => hk) trivial (Below.refl _ _) (Nat.le_refl _) (by simp) ?_; (case hd => rfl); (case hg => rfl); (case hr => first | (go_simp; done) | (go_simp; rfl)); (case hp => exact (Reps.one (show Kd.M (Kd.int .u8) _ _ _ 1 [.int .u8 1] from rfl) (Reps.one (show Kd.M (Kd.int .u8) _ _ _ 14 [.int .u8 14] from rfl) (Reps.one (show Kd.M (Kd.int .u8) _ _ _ 2 [.int .u8 2] from rfl) (Reps.one (show Kd.M (Kd.int .u8) _ _ _ 14 [.int .u8 14] from rfl) (Reps.one (show Kd.M (Kd.int .u8) _ _ _ 4 [.int .u8 4] from rfl) (Reps.one (show Kd.M (Kd.int .u8) _ _ _ 13 [.int .u8 13] from rfl) (Reps.one (show Kd.M (Kd.int .u8) _ _ _ 1 [.int .u8 1] from rfl) (Reps.none _ _))))))))); intro v104 w5 ho6 hb hg_ hnew_; clear hg_ hnew_; (first | rw [← Ny103.out] at ho6 | (simp only [Int.reduceToNat] at ho6; rw [← Ny103.out] at ho6)); have n0_ := Aside0.mk (Kd.R_lower ho6 (below_size (mvB HB))); have n1_ := Aside0.mk (below_step (mvB HB) hb); clear HB; have HO105 := n0_; have HB := n1_; clear n0_ n1_; clear hb ho6; obtain ⟨Ao7, co7, eo7⟩ := Kd.R_slice HO105.out; subst eo7) | ((with_reducible refine gate_callee (f := 12) rfl ?_); refine goesL_ (some 3) rfl rfl Try.func12 (by kernel_rfl) rfl #[.slice Ao7 y103.length co7, .int .u8 0, .int .u8 1, .int .u8 1] rfl (by (try simp only [List.map_toArray, List.map_cons, List.map_nil]); first | done | rfl | (simp only [List.length_drop, List.length_take]; rfl)) ?_; (with_reducible refine (neutral_Resolve.calls _ _ y103 0 1 1 t106 _ ?side1 ?side2 A1.out).mono ?_); (case side1 => repeat (first | exact (Kd.R_reads' HO105.out).2.2 | (with_reducible refine Kd.C_alloc ?_ _) | (with_reducible refine Kd.C_drewN ?_ _) | (with_reducible refine Kd.C_drew ?_))); (case side2 => exact (Kd.R_reads' HO105.out).2.1); rintro e w8 ⟨v107, rfl, ho0, hb⟩; refine ⟨_, rfl, ?_⟩; have n0_ := Aside0.mk (Kd.R_elder' (mvR HO105) (Kd.R_base ho0) hb); have n1_ := Aside0.mk (Kd.R_lower (Kd.R_new' ho0 (Kd.R_lt (mvR HO105))) (below_size (mvB HB))); have n2_ := Aside0.mk (below_step (mvB HB) hb); clear HO105; clear HB; have HO105 := n0_; have HO108 := n1_; have HB := n2_; clear n0_ n1_ n2_; (try clear hb); (try clear hb2); (try clear hk); (try clear hi); (try clear ho0)) | ((with_reducible refine gate_dst (N := 5) rfl ?_); refine Kd.R_lit (Kd.int .u8) _ 23 ?hg (N := 5) ?hd (xs := ([1, 1, 2, 2, 4, 1, 1] : List Int)) (inner := [.int .u8 1, .int .u8 1, .int .u8 2, .int .u8 2, .int .u8 4, .int .u8 1, .int .u8 1]) (ok := fun _ => True) (okp := fun _ => True) ?hr ?hp (fun _ hk => hk) trivial (Below.refl _ _) (Nat.le_refl _) (by simp) ?_; (case hd => rfl); (case hg => rfl); (case hr => first | (go_simp; done) | (go_simp; rfl)); (case hp => exact (Reps.one (show Kd.M (Kd.int .u8) _ _ _ 1 [.int .u8 1] from rfl) (Reps.one (show Kd.M (Kd.int .u8) _ _ _ 1 [.int .u8 1] from rfl) (Reps.one (show Kd.M (Kd.int .u8) _ _ _ 2 [.int .u8 2] from rfl) (Reps.one (show Kd.M (Kd.int .u8) _ _ _ 2 [.int .u8 2] from rfl) (Reps.one (show Kd.M (Kd.int .u8) _ _ _ 4 [.int .u8 4] from rfl) (Reps.one (show Kd.M (Kd.int .u8) _ _ _ 1 [.int .u8 1] from rfl) (Reps.one (show Kd.M (Kd.int .u8) _ _ _ 1 [.int .u8 1] from rfl) (Reps.none _ _))))))))); intro v110 w9 ho10 hb hg_ hnew_; clear hg_ hnew_; (first | rw [← Ny109.out] at ho10 | (simp only [Int.reduceToNat] at ho10; rw [← Ny109.out] at ho10)); have n0_ := Aside0.mk (Kd.R_elder' (mvR HO105) (Kd.R_base ho10) hb); have n1_ := Aside0.mk (Kd.R_elder' (mvR HO108) (Kd.R_base ho10) hb); have n2_ := Aside0.mk (Kd.R_lower (Kd.R_new' (Kd.R_new' ho10 (Kd.R_lt (mvR HO105))) (Kd.R_lt (mvR HO108))) (below_size (mvB HB))); have n3_ := Aside0.mk (below_step (mvB HB) hb); clear HO105; clear HO108; clear HB; have HO105 := n0_; have HO108 := n1_; have HO111 := n2_; have HB := n3_; clear n0_ n1_ n2_ n3_; clear hb ho10; obtain ⟨Ao11, co11, eo11⟩ := Kd.R_slice HO108.out; subst eo11; obtain ⟨Ao12, co12, eo12⟩ := Kd.R_slice HO111.out; subst eo12) | ((with_reducible refine gate_callee (f := 11) rfl ?_); refine goesL_ (some 6) rfl rfl Try.func11 (by kernel_rfl) rfl #[.slice Ao11 t106.length co11, .slice Ao12 y109.length co12] rfl (by (try simp only [List.map_toArray, List.map_cons, List.map_nil]); first | done | rfl | (simp only [List.length_drop, List.length_take]; rfl)) ?_; (with_reducible refine (selvedgelaw18_is.calls k _ _ t106 _ _ y109 true _ ?side1 ?side2 ?side3 ?side4 A2.out).mono ?_); (case side1 => repeat (first | exact (Kd.R_reads' HO108.out).2.2 | (with_reducible refine Kd.C_alloc ?_ _) | (with_reducible refine Kd.C_drewN ?_ _) | (with_reducible refine Kd.C_drew ?_))); (case side2 => exact (Kd.R_reads' HO108.out).2.1); (case side3 => repeat (first | exact (Kd.R_reads' HO111.out).2.2 | (with_reducible refine Kd.C_alloc ?_ _) | (with_reducible refine Kd.C_drewN ?_ _) | (with_reducible refine Kd.C_drew ?_))); (case side4 => exact (Kd.R_reads' HO111.out).2.1); rintro e w' ⟨rfl, ⟨nd, rfl⟩⟩; refine ⟨_, rfl, ?_⟩) | (go_at_call 14; (with_reducible refine (neutral_Levels.calls _ _ t106 0 t113 _ ?side1 ?side2 A4.out).mono ?_); (case side1 => repeat (first | exact (Kd.R_reads' HO108.out).2.2 | (with_reducible refine Kd.C_alloc ?_ _) | (with_reducible refine Kd.C_drewN ?_ _) | (with_reducible refine Kd.C_drew ?_))); (case side2 => exact (Kd.R_reads' HO108.out).2.1); rintro e w13 ⟨v114, rfl, ho0, hb⟩; have n0_ := Aside0.mk (Kd.R_below (mvR HO105) hb); have n1_ := Aside0.mk (Kd.R_below (mvR HO108) hb); have n2_ := Aside0.mk (Kd.R_below (mvR HO111) hb); have n3_ := Aside0.mk (Kd.R_lower ho0 (below_size (mvB HB))); have n4_ := Aside0.mk (below_step (mvB HB) hb); clear HO105; clear HO108; clear HO111; clear HB; have HO105 := n0_; have HO108 := n1_; have HO111 := n2_; have HO115 := n3_; have HB := n4_; clear n0_ n1_ n2_ n3_ n4_; (try clear hb); (try clear hb2); (try clear hk); (try clear hi); (try clear ho0); have hcv14 := own_string (P := Try.prog) Try.underlying29 Try.underlying5 Try.underlying9 (Kd.own_of_R HO115.out)))
  go_ret
  exact ⟨by first | rfl | (simp [errW_none, errW_some] <;> rfl) | (simp [*, errW_none, errW_some] <;> rfl), mvB HB⟩
 ·replace c3 := Bool.eq_false_iff.mpr c3
  subst c3
  have H1 : (some false) = some r := by rw [if_neg (show ¬ (false = true) by decide)] at H; exact H
  clear H
  have H := H1
  clear H1
  obtain rfl := Option.some.inj H
  go_enter Try.func9, Try.ntmps9
  go_wp2_with (first | ((with_reducible refine gate_dst (N := 2) rfl ?_); refine Kd.R_lit (Kd.int .u8) _ 23 ?hg (N := 2) ?hd (xs := ([1, 14, 2, 14, 4, 13, 1] : List Int)) (inner := [.int .u8 1, .int .u8 14, .int .u8 2, .int .u8 14, .int .u8 4, .int .u8 13, .int .u8 1]) (ok := fun _ => True) (okp := fun _ => True) ?hr ?hp (fun _ hk => hk) trivial (Below.refl _ _) (Nat.le_refl _) (by simp) ?_; (case hd => rfl); (case hg => rfl); (case hr => first | (go_simp; done) | (go_simp; rfl)); (case hp => exact (Reps.one (show Kd.M (Kd.int .u8) _ _ _ 1 [.int .u8 1] from rfl) (Reps.one (show Kd.M (Kd.int .u8) _ _ _ 14 [.int .u8 14] from rfl) (Reps.one (show Kd.M (Kd.int .u8) _ _ _ 2 [.int .u8 2] from rfl) (Reps.one (show Kd.M (Kd.int .u8) _ _ _ 14 [.int .u8 14] from rfl) (Reps.one (show Kd.M (Kd.int .u8) _ _ _ 4 [.int .u8 4] from rfl) (Reps.one (show Kd.M (Kd.int .u8) _ _ _ 13 [.int .u8 13] from rfl) (Reps.one (show Kd.M (Kd.int .u8) _ _ _ 1 [.int .u8 1] from rfl) (Reps.none _ _))))))))); intro v104 w15 ho16 hb hg_ hnew_; clear hg_ hnew_; (first | rw [← Ny103.out] at ho16 | (simp only [Int.reduceToNat] at ho16; rw [← Ny103.out] at ho16)); have n0_ := Aside0.mk (Kd.R_lower ho16 (below_size (mvB HB))); have n1_ := Aside0.mk (below_step (mvB HB) hb); clear HB; have HO105 := n0_; have HB := n1_; clear n0_ n1_; clear hb ho16; obtain ⟨Ao17, co17, eo17⟩ := Kd.R_slice HO105.out; subst eo17) | ((with_reducible refine gate_callee (f := 12) rfl ?_); refine goesL_ (some 3) rfl rfl Try.func12 (by kernel_rfl) rfl #[.slice Ao17 y103.length co17, .int .u8 0, .int .u8 1, .int .u8 1] rfl (by (try simp only [List.map_toArray, List.map_cons, List.map_nil]); first | done | rfl | (simp only [List.length_drop, List.length_take]; rfl)) ?_; (with_reducible refine (neutral_Resolve.calls _ _ y103 0 1 1 t106 _ ?side1 ?side2 A1.out).mono ?_); (case side1 => repeat (first | exact (Kd.R_reads' HO105.out).2.2 | (with_reducible refine Kd.C_alloc ?_ _) | (with_reducible refine Kd.C_drewN ?_ _) | (with_reducible refine Kd.C_drew ?_))); (case side2 => exact (Kd.R_reads' HO105.out).2.1); rintro e w18 ⟨v107, rfl, ho0, hb⟩; refine ⟨_, rfl, ?_⟩; have n0_ := Aside0.mk (Kd.R_elder' (mvR HO105) (Kd.R_base ho0) hb); have n1_ := Aside0.mk (Kd.R_lower (Kd.R_new' ho0 (Kd.R_lt (mvR HO105))) (below_size (mvB HB))); have n2_ := Aside0.mk (below_step (mvB HB) hb); clear HO105; clear HB; have HO105 := n0_; have HO108 := n1_; have HB := n2_; clear n0_ n1_ n2_; (try clear hb); (try clear hb2); (try clear hk); (try clear hi); (try clear ho0)) | ((with_reducible refine gate_dst (N := 5) rfl ?_); refine Kd.R_lit (Kd.int .u8) _ 23 ?hg (N := 5) ?hd (xs := ([1, 1, 2, 2, 4, 1, 1] : List Int)) (inner := [.int .u8 1, .int .u8 1, .int .u8 2, .int .u8 2, .int .u8 4, .int .u8 1, .int .u8 1]) (ok := fun _ => True) (okp := fun _ => True) ?hr ?hp (fun _ hk => hk) trivial (Below.refl _ _) (Nat.le_refl _) (by simp) ?_; (case hd => rfl); (case hg => rfl); (case hr => first | (go_simp; done) | (go_simp; rfl)); (case hp => exact (Reps.one (show Kd.M (Kd.int .u8) _ _ _ 1 [.int .u8 1] from rfl) (Reps.one (show Kd.M (Kd.int .u8) _ _ _ 1 [.int .u8 1] from rfl) (Reps.one (show Kd.M (Kd.int .u8) _ _ _ 2 [.int .u8 2] from rfl) (Reps.one (show Kd.M (Kd.int .u8) _ _ _ 2 [.int .u8 2] from rfl) (Reps.one (show Kd.M (Kd.int .u8) _ _ _ 4 [.int .u8 4] from rfl) (Reps.one (show Kd.M (Kd.int .u8) _ _ _ 1 [.int .u8 1] from rfl) (Reps.one (show Kd.M (Kd.int .u8) _ _ _ 1 [.int .u8 1] from rfl) (Reps.none _ _))))))))); intro v110 w19 ho20 hb hg_ hnew_; clear hg_ hnew_; (first | rw [← Ny109.out] at ho20 | (simp only [Int.reduceToNat] at ho20; rw [← Ny109.out] at ho20)); have n0_ := Aside0.mk (Kd.R_elder' (mvR HO105) (Kd.R_base ho20) hb); have n1_ := Aside0.mk (Kd.R_elder' (mvR HO108) (Kd.R_base ho20) hb); have n2_ := Aside0.mk (Kd.R_lower (Kd.R_new' (Kd.R_new' ho20 (Kd.R_lt (mvR HO105))) (Kd.R_lt (mvR HO108))) (below_size (mvB HB))); have n3_ := Aside0.mk (below_step (mvB HB) hb); clear HO105; clear HO108; clear HB; have HO105 := n0_; have HO108 := n1_; have HO111 := n2_; have HB := n3_; clear n0_ n1_ n2_ n3_; clear hb ho20; obtain ⟨Ao21, co21, eo21⟩ := Kd.R_slice HO108.out; subst eo21; obtain ⟨Ao22, co22, eo22⟩ := Kd.R_slice HO111.out; subst eo22) | ((with_reducible refine gate_callee (f := 11) rfl ?_); refine goesL_ (some 6) rfl rfl Try.func11 (by kernel_rfl) rfl #[.slice Ao21 t106.length co21, .slice Ao22 y109.length co22] rfl (by (try simp only [List.map_toArray, List.map_cons, List.map_nil]); first | done | rfl | (simp only [List.length_drop, List.length_take]; rfl)) ?_; (with_reducible refine (selvedgelaw18_is.calls k _ _ t106 _ _ y109 false _ ?side1 ?side2 ?side3 ?side4 A2.out).mono ?_); (case side1 => repeat (first | exact (Kd.R_reads' HO108.out).2.2 | (with_reducible refine Kd.C_alloc ?_ _) | (with_reducible refine Kd.C_drewN ?_ _) | (with_reducible refine Kd.C_drew ?_))); (case side2 => exact (Kd.R_reads' HO108.out).2.1); (case side3 => repeat (first | exact (Kd.R_reads' HO111.out).2.2 | (with_reducible refine Kd.C_alloc ?_ _) | (with_reducible refine Kd.C_drewN ?_ _) | (with_reducible refine Kd.C_drew ?_))); (case side4 => exact (Kd.R_reads' HO111.out).2.1); rintro e w' ⟨rfl, ⟨nd, rfl⟩⟩; refine ⟨_, rfl, ?_⟩))
  go_ret
  exact ⟨by first | rfl | (simp [errW_none, errW_some] <;> rfl) | (simp [*, errW_none, errW_some] <;> rfl), mvB HB⟩

/-! ### selvedgelaw18_own: function 10 -/
def selvedgelaw18_own.f (l0 : List Int) : Option (List Int) := if ([] : List Int).length + l0.length < 140737488355328 then (some (([] : List Int) ++ l0)) else (none)
set_option maxHeartbeats 8000000 in
set_option maxRecDepth 100000 in
theorem selvedgelaw18_own.calls (A0 : Option Addr) (c0 : Nat) (l0 : List Int) (r : List Int) (w : World) (hr0 : Kd.C (Kd.int .u8) w A0 l0.length l0) (hc0 : l0.length ≤ c0) (h : selvedgelaw18_own.f l0 = some r) :
  Calls Try.prog 10 #[.slice A0 l0.length c0] w fun e w' => ∃ v0_ : Value, e = .returned (v0_) ∧ Kd.R (Kd.int .u8) 23 w' w.heap.size (fun _ => True) v0_ r ∧ Below w.heap.size w w' := by
 have HR0 := Aside0.mk hr0
 have HC0 := Aside0.mk hc0
 clear hr0 hc0
 have HB := Aside0.mk (Below.refl w.heap.size w)
 have H : (if ([] : List Int).length + l0.length < 140737488355328 then (some (([] : List Int) ++ l0)) else (none)) = some r := h
 clear h
 by_cases c2 : ([] : List Int).length + l0.length < 140737488355328
 ·rw [if_pos c2] at H
  have LMc2 := Aside0.mk c2
  clear c2
  obtain ⟨y116, hy116⟩ : ∃ y_ : List Int, y_ = (([] : List Int) ++ l0) := ⟨_, rfl⟩
  replace H : (some y116) = some r := by first | (rw [hy116]; with_reducible exact H) | (have H2_ := (Option.bind_some _ _).symm.trans H; rw [hy116]; with_reducible exact H2_) | (have H2_ := (Option.bind_some _ _).symm.trans H; with_reducible exact H2_) | with_reducible exact H | (rw [hy116]; exact H) | exact H
  have Ny116 := Aside0.mk hy116
  clear hy116
  obtain rfl := Option.some.inj H
  go_enter Try.func10, Try.ntmps10
  go_wp2_with (first | ((with_reducible refine gate_builtin (b := .append) (xs := #[.tmp 4, .tmp 5]) rfl ?_); at_builtin; refine Kd.R_append_rows (Kd.int .u8) (w0 := w) w.heap.size rfl (.tmp 4) (.tmp 5) 22 23 (.int .u8 0) 1 rfl Try.underlying22 info23 rfl (by decide) (by omega) (.slice none 0 0) ([] : List Int) l0 _ _ _ (fun _ => True) (fun _ => False) rfl rfl ?aO ?aR (fun _ _ h => h) (fun _ h => h.elim) ?aF ?aB ?aS ?aL ?_; (case aR => repeat (first | exact HR0.out | (with_reducible refine Kd.C_alloc ?_ _) | (with_reducible refine Kd.C_drewN ?_ _) | (with_reducible refine Kd.C_drew ?_))); (case aB => exact (mvB HB)); (case aF => exact (fun _ _ => trivial)); (case aO => exact ((Kd.R_nil _ _ _ _ (fun _ => True)))); (case aS => exact (below_size (mvB HB))); (case aL => have := LMc2.out; omega); intro v117 w3 ho hb hg hat; rw [← Ny116.out] at ho; have n0_ := Aside0.mk (hb); have n1_ := Aside0.mk (ho); clear HB; have HB := n0_; have HO118 := n1_; clear n0_ n1_; clear ho hb hg hat))
  go_ret
  exact ⟨_, by first | rfl | (simp [errW_none, errW_some] <;> rfl) | (simp [*, errW_none, errW_some] <;> rfl), mvR HO118, mvB HB⟩
 ·rw [if_neg c2] at H
  exact absurd H (by simp)

/-! ### selvedgeref18_Neutral: function 17 -/
def selvedgeref18_Neutral.f (a0 : Int) : Option (Bool) := if a0 ≥ 11 then (if a0 ≤ 14 then (some true) else (if a0 ≥ 20 then (some (decide (a0 ≤ 23))) else (some false))) else (if a0 ≥ 20 then (some (decide (a0 ≤ 23))) else (some false))
set_option maxHeartbeats 8000000 in
set_option maxRecDepth 100000 in
theorem selvedgeref18_Neutral.calls (a0 : Int) (r : Bool) (w : World) (h : selvedgeref18_Neutral.f a0 = some r) :
  Calls Try.prog 17 #[.int .u8 a0] w fun e w' => e = .returned (.bool r) ∧ Drawn0 w w' := by
 have H : (if a0 ≥ 11 then (if a0 ≤ 14 then (some true) else (if a0 ≥ 20 then (some (decide (a0 ≤ 23))) else (some false))) else (if a0 ≥ 20 then (some (decide (a0 ≤ 23))) else (some false))) = some r := h
 clear h
 by_cases c2 : a0 ≥ 11
 ·rw [if_pos c2] at H
  have c2b0 : decide (11 ≤ a0) = true := decide_eq_true c2
  clear c2
  by_cases c3 : a0 ≤ 14
  ·rw [if_pos c3] at H
   have c3b0 : decide (a0 ≤ 14) = true := decide_eq_true c3
   clear c3
   obtain rfl := Option.some.inj H
   go_enter Try.func17, Try.ntmps17
   go_wp2
   go_ret
   exact ⟨by first | rfl | (simp; done) | (simp [*]; done), by repeat (first | exact Drawn0.refl _ | apply Drawn0.step)⟩
  ·rw [if_neg c3] at H
   have c3b0 : decide (a0 ≤ 14) = false := decide_eq_false c3
   clear c3
   by_cases c4 : a0 ≥ 20
   ·rw [if_pos c4] at H
    have c4b0 : decide (20 ≤ a0) = true := decide_eq_true c4
    clear c4
    obtain rfl := Option.some.inj H
    go_enter Try.func17, Try.ntmps17
    go_wp2
    go_ret
    exact ⟨by first | rfl | (simp; done) | (simp [*]; done), by repeat (first | exact Drawn0.refl _ | apply Drawn0.step)⟩
   ·rw [if_neg c4] at H
    have c4b0 : decide (20 ≤ a0) = false := decide_eq_false c4
    clear c4
    obtain rfl := Option.some.inj H
    go_enter Try.func17, Try.ntmps17
    go_wp2
    go_ret
    exact ⟨by first | rfl | (simp; done) | (simp [*]; done), by repeat (first | exact Drawn0.refl _ | apply Drawn0.step)⟩
 ·rw [if_neg c2] at H
  have c2b0 : decide (11 ≤ a0) = false := decide_eq_false c2
  clear c2
  by_cases c5 : a0 ≥ 20
  ·rw [if_pos c5] at H
   have c5b0 : decide (20 ≤ a0) = true := decide_eq_true c5
   clear c5
   obtain rfl := Option.some.inj H
   go_enter Try.func17, Try.ntmps17
   go_wp2
   go_ret
   exact ⟨by first | rfl | (simp; done) | (simp [*]; done), by repeat (first | exact Drawn0.refl _ | apply Drawn0.step)⟩
  ·rw [if_neg c5] at H
   have c5b0 : decide (20 ≤ a0) = false := decide_eq_false c5
   clear c5
   obtain rfl := Option.some.inj H
   go_enter Try.func17, Try.ntmps17
   go_wp2
   go_ret
   exact ⟨by first | rfl | (simp; done) | (simp [*]; done), by repeat (first | exact Drawn0.refl _ | apply Drawn0.step)⟩

/-! ### selvedgeref18_ends: function 23 -/
def selvedgeref18_ends.f (a0 : Int) : Option (Int) := if a0 = 2 then (some 2) else (some 1)
set_option maxHeartbeats 8000000 in
set_option maxRecDepth 100000 in
theorem selvedgeref18_ends.calls (a0 : Int) (r : Int) (w : World) (h : selvedgeref18_ends.f a0 = some r) :
  Calls Try.prog 23 #[.int .u8 a0] w fun e w' => e = .returned (.int .u8 r) ∧ Drawn0 w w' := by
 have H : (if a0 = 2 then (some 2) else (some 1)) = some r := h
 clear h
 by_cases c2 : a0 = 2
 ·rw [if_pos c2] at H
  have c2b0 : (a0 == 2) = true := beq_iff_eq.mpr c2
  have c2b1 : (a0 != 2) = false := bne_eq_false_iff_eq.mpr c2
  clear c2
  obtain rfl := Option.some.inj H
  go_enter Try.func23, Try.ntmps23
  go_wp2
  go_ret
  exact ⟨by first | rfl | (simp; done) | (simp [*]; done), by repeat (first | exact Drawn0.refl _ | apply Drawn0.step)⟩
 ·rw [if_neg c2] at H
  have c2b0 : (a0 == 2) = false := beq_eq_false_iff_ne.mpr c2
  have c2b1 : (a0 != 2) = true := bne_iff_ne.mpr c2
  obtain rfl := Option.some.inj H
  go_enter Try.func23, Try.ntmps23
  go_wp2
  go_ret
  exact ⟨by first | rfl | (simp; done) | (simp [*]; done), by repeat (first | exact Drawn0.refl _ | apply Drawn0.step)⟩

/-! ### selvedgeref18_direction: function 24 -/
def selvedgeref18_direction.f (a0 : Int) : Option (Int) := if a0 = 1 then (some 1) else (if a0 = 2 then (some 2) else (if a0 = 4 then (some 2) else (if a0 = 7 then (some 2) else (some 0))))
set_option maxHeartbeats 8000000 in
set_option maxRecDepth 100000 in
theorem selvedgeref18_direction.calls (a0 : Int) (r : Int) (w : World) (h : selvedgeref18_direction.f a0 = some r) :
  Calls Try.prog 24 #[.int .u8 a0] w fun e w' => e = .returned (.int .u8 r) ∧ Drawn0 w w' := by
 have H : (if a0 = 1 then (some 1) else (if a0 = 2 then (some 2) else (if a0 = 4 then (some 2) else (if a0 = 7 then (some 2) else (some 0))))) = some r := h
 clear h
 by_cases c2 : a0 = 1
 ·rw [if_pos c2] at H
  have c2b0 : (a0 == 1) = true := beq_iff_eq.mpr c2
  have c2b1 : (a0 != 1) = false := bne_eq_false_iff_eq.mpr c2
  clear c2
  obtain rfl := Option.some.inj H
  go_enter Try.func24, Try.ntmps24
  go_wp2
  go_ret
  exact ⟨by first | rfl | (simp; done) | (simp [*]; done), by repeat (first | exact Drawn0.refl _ | apply Drawn0.step)⟩
 ·rw [if_neg c2] at H
  have c2b0 : (a0 == 1) = false := beq_eq_false_iff_ne.mpr c2
  have c2b1 : (a0 != 1) = true := bne_iff_ne.mpr c2
  by_cases c3 : a0 = 2
  ·rw [if_pos c3] at H
   have c3b0 : (a0 == 2) = true := beq_iff_eq.mpr c3
   have c3b1 : (a0 != 2) = false := bne_eq_false_iff_eq.mpr c3
   clear c3
   obtain rfl := Option.some.inj H
   go_enter Try.func24, Try.ntmps24
   go_wp2
   go_ret
   exact ⟨by first | rfl | (simp; done) | (simp [*]; done), by repeat (first | exact Drawn0.refl _ | apply Drawn0.step)⟩
  ·rw [if_neg c3] at H
   have c3b0 : (a0 == 2) = false := beq_eq_false_iff_ne.mpr c3
   have c3b1 : (a0 != 2) = true := bne_iff_ne.mpr c3
   by_cases c4 : a0 = 4
   ·rw [if_pos c4] at H
    have c4b0 : (a0 == 4) = true := beq_iff_eq.mpr c4
    have c4b1 : (a0 != 4) = false := bne_eq_false_iff_eq.mpr c4
    clear c4
    obtain rfl := Option.some.inj H
    go_enter Try.func24, Try.ntmps24
    go_wp2
    go_ret
    exact ⟨by first | rfl | (simp; done) | (simp [*]; done), by repeat (first | exact Drawn0.refl _ | apply Drawn0.step)⟩
   ·rw [if_neg c4] at H
    have c4b0 : (a0 == 4) = false := beq_eq_false_iff_ne.mpr c4
    have c4b1 : (a0 != 4) = true := bne_iff_ne.mpr c4
    by_cases c5 : a0 = 7
    ·rw [if_pos c5] at H
     have c5b0 : (a0 == 7) = true := beq_iff_eq.mpr c5
     have c5b1 : (a0 != 7) = false := bne_eq_false_iff_eq.mpr c5
     clear c5
     obtain rfl := Option.some.inj H
     go_enter Try.func24, Try.ntmps24
     go_wp2
     go_ret
     exact ⟨by first | rfl | (simp; done) | (simp [*]; done), by repeat (first | exact Drawn0.refl _ | apply Drawn0.step)⟩
    ·rw [if_neg c5] at H
     have c5b0 : (a0 == 7) = false := beq_eq_false_iff_ne.mpr c5
     have c5b1 : (a0 != 7) = true := bne_iff_ne.mpr c5
     obtain rfl := Option.some.inj H
     go_enter Try.func24, Try.ntmps24
     go_wp2
     go_ret
     exact ⟨by first | rfl | (simp; done) | (simp [*]; done), by repeat (first | exact Drawn0.refl _ | apply Drawn0.step)⟩

end Go.Proofs.Ytknfniggnobaaaa.X
