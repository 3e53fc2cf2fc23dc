import Derived.Test.YtnpcfiahmadkjaaX0
import Derived.Outline
namespace Go.Proofs.Ytnpcfiahmadkjaa.X
open Go.RowKit Go.Proofs.YtnpcfiahmadkjaaW.PrintWords Go.Proofs.YtnpcfiahmadkjaaW.PrintLast Go.Proofs.YtnpcfiahmadkjaaW.PrintMore
attribute [local go_sem] max2_int min2_int max_two min_two max_three min_three max_four min_four   -- for this text's walks alone
set_option linter.unusedVariables false
set_option linter.unusedSimpArgs false

/-- The row under way: its cells at block g, what is resolved, and where it is. -/
structure WRow (base : Nat) (W : World) (g : Nat) (vo vp : Value) (out pl : List Int) (b n : Int) : Prop where
  cell : W.heap[g]? = some (.cells #[vo, vp, .int .u8 b, .int .u8 n] 36 (0, 0))
  o : Kd.R (Kd.int .u8) 23 W base (fun _ => True) vo out
  p : Kd.R (Kd.int .i64) 3 W base (fun _ => True) vp pl
  hb : base ≤ g
theorem WRow.drewN {base : Nat} {W : World} {g : Nat} {vo vp : Value} {out pl : List Int} {b n : Int} (h : WRow base W g vo vp out pl b n) (m : Nat) : WRow base (W.drewN m) g vo vp out pl b n := ⟨h.cell, Kd.R_drewN h.o m, Kd.R_drewN h.p m, h.hb⟩
theorem WRow.c {base : Nat} {W : World} {g : Nat} {vo vp : Value} {out pl : List Int} {b n : Int} (h : WRow base W g vo vp out pl b n) :
    W.cell? ⟨g, 0, none⟩ = some vo ∧ W.cell? ⟨g, 1, none⟩ = some vp ∧ W.cell? ⟨g, 2, none⟩ = some (.int .u8 b) ∧ W.cell? ⟨g, 3, none⟩ = some (.int .u8 n) := by
  simp [World.cell?, h.cell]
theorem WRow.drew {base : Nat} {W : World} {g : Nat} {vo vp : Value} {out pl : List Int} {b n : Int} (h : WRow base W g vo vp out pl b n) : WRow base W.drew g vo vp out pl b n := ⟨h.cell, Kd.R_drew h.o, Kd.R_drew h.p, h.hb⟩
theorem grownBy_drew {W W' : World} {row : Option Nat} (h : W.grownBy W' row) : W.grownBy W'.drew row := ⟨h.os, h.tape, h.output, h.size, h.block⟩
theorem grownBy_drewN {W W' : World} {row : Option Nat} (h : W.grownBy W' row) (m : Nat) : W.grownBy (W'.drewN m) row := ⟨h.os, h.tape, h.output, h.size, h.block⟩
theorem ne_typed {W : World} {g k t e : Nat} {cs cs' : Array Value} (h : W.heap[g]? = some (.cells cs t (0, 0))) (h' : W.heap[k]? = some (.cells cs' e (0, 0))) (hne : t ≠ e) : g ≠ k := by
  rintro rfl
  rw [h] at h'
  injection h' with h'
  injection h' with _ ht
  exact hne ht
theorem R_typed {k : IntKind} {e : Nat} {W : World} {base : Nat} {ok : Nat → Prop} {v : Value} {xs : List Int} (h : Kd.R (Kd.int k) e W base ok v xs) (g : Nat) (hg : v.ownBlock = some g) : base ≤ g ∧ ∃ cs, W.heap[g]? = some (.cells cs e (0, 0)) := by
  obtain ⟨inner, ho⟩ := Kd.R_own h
  exact ⟨own_base ho g hg, own_typed ho g hg⟩
theorem WRow.setO {base : Nat} {W : World} {g go co : Nat} {vp : Value} {out pl : List Int} {b n : Int} (h : WRow base W g (.slice (some ⟨go, 0, none⟩) out.length co) vp out pl b n) (i c : Int) :
    WRow base (W.setCell ⟨go, i.toNat, none⟩ (.int .u8 c)) g (.slice (some ⟨go, 0, none⟩) out.length co) vp (out.set i.toNat c) pl b n ∧ W.grownBy (W.setCell ⟨go, i.toNat, none⟩ (.int .u8 c)) (some go) := by
  obtain ⟨hr, hg⟩ := Kd.R_putg h.o i c
  obtain ⟨hbo, cs, hcs⟩ := R_typed h.o go rfl
  have hne := ne_typed h.cell hcs (by decide)
  refine ⟨⟨(Below.heap_setCell W _ _ g (by exact hne)).trans h.cell, hr, Kd.R_grown2 h.p rfl hg (fun k hk e => ?_), h.hb⟩, hg⟩
  injection hk with hk
  subst hk
  obtain ⟨_, cs', hcs'⟩ := R_typed h.p _ e.symm
  exact ne_typed hcs hcs' (by decide) rfl
theorem WRow.setF {base : Nat} {W : World} {g : Nat} {vo vp : Value} {out pl : List Int} {b n : Int} (h : WRow base W g vo vp out pl b n) (v : Int) :
    (WRow base (W.setCell ⟨g, 2, none⟩ (.int .u8 v)) g vo vp out pl v n ∧ W.grownBy (W.setCell ⟨g, 2, none⟩ (.int .u8 v)) (some g)) ∧ (WRow base (W.setCell ⟨g, 3, none⟩ (.int .u8 v)) g vo vp out pl b v ∧ W.grownBy (W.setCell ⟨g, 3, none⟩ (.int .u8 v)) (some g)) := by
  refine ⟨⟨⟨by simpa using blk_set h.cell 2 (.int .u8 v), Kd.R_set h.o h.cell (by simp [Kd.int, Kd.scalar]) _ _, Kd.R_set h.p h.cell (by simp [Kd.int, Kd.scalar]) _ _, h.hb⟩, ?_⟩, ⟨⟨by simpa using blk_set h.cell 3 (.int .u8 v), Kd.R_set h.o h.cell (by simp [Kd.int, Kd.scalar]) _ _, Kd.R_set h.p h.cell (by simp [Kd.int, Kd.scalar]) _ _, h.hb⟩, ?_⟩⟩
  · exact ⟨rfl, rfl, rfl, by simp [World.setCell], fun i hi hne => Below.heap_setCell W _ _ i (fun e => hne (by rw [e]))⟩
  · exact ⟨rfl, rfl, rfl, by simp [World.setCell], fun i hi hne => Below.heap_setCell W _ _ i (fun e => hne (by rw [e]))⟩
/-- What a call leaves that writes one class of the row. -/
def WPut (base : Nat) (W : World) (g : Nat) (vo vp : Value) (out pl : List Int) (b n : Int) (e : Ending) (w' : World) : Prop := e = .returned (.tuple #[]) ∧ WRow base w' g vo vp out pl b n ∧ ∃ go, vo.ownBlock = some go ∧ W.grownBy w' (some go)
def atv (out pl : List Int) (k : Int) : Int := if k < 0 then 10 else if (pl.length : Int) ≤ k then 10 else rd out (rd pl k)
set_option maxHeartbeats 1000000 in
set_option maxRecDepth 100000 in
theorem at_c {base : Nat} {W : World} {g : Nat} {vo vp : Value} {out pl : List Int} {b n : Int} (h : WRow base W g vo vp out pl b n) (k : Int) (hk : 0 ≤ k → k < pl.length → 0 ≤ rd pl k ∧ rd pl k < out.length) :
    Calls Try.prog 16 #[.pointer (some ⟨g, 0, none⟩), .int .i64 k] W fun e w' => e = .returned (.int .u8 (atv out pl k)) ∧ Drawn0 W w' := by
  obtain ⟨h0, h1, _, _⟩ := h.c
  have hu := Try.underlying36
  by_cases c0 : k < 0
  · have b0 : decide (k < 0) = true := decide_eq_true c0
    rw [atv, if_pos c0]
    go_enter Try.func16, Try.ntmps16
    go_wp2
    go_ret
    exact ⟨rfl, Drawn0.refl _⟩
  have b0 : decide (k < 0) = false := decide_eq_false c0
  rw [atv, if_neg c0]
  obtain ⟨Ap, cp, rfl, hcp, hrp⟩ := Kd.R_reads h.p
  by_cases c1 : (pl.length : Int) ≤ k
  · have b1 : decide ((pl.length : Int) ≤ k) = true := decide_eq_true c1
    rw [if_pos c1]
    go_enter Try.func16, Try.ntmps16
    go_wp2
    go_ret
    exact ⟨rfl, Drawn0.refl _⟩
  have b1 : decide ((pl.length : Int) ≤ k) = false := decide_eq_false c1
  rw [if_neg c1]
  obtain ⟨q0, q1⟩ := hk (by omega) (by omega)
  obtain ⟨Ao, co, rfl, hco, hro⟩ := Kd.R_reads h.o
  obtain ⟨ad1, rfl, hx1⟩ := Kd.at_int hrp k (by omega) (by omega)
  obtain ⟨ad2, rfl, hx2⟩ := Kd.at_int hro (rd pl k) q0 q1
  have r0 : 0 ≤ k := by omega
  have r1 : k < (pl.length : Int) := by omega
  clear c0 c1
  go_enter Try.func16, Try.ntmps16
  go_wp2
  go_quiet (fail)
  go_wp2
  go_ret
  exact ⟨rfl, (Drawn0.refl _).step _⟩
set_option maxHeartbeats 1000000 in
set_option maxRecDepth 100000 in
theorem put_c {base : Nat} {W : World} {g bx : Nat} {vo vp : Value} {out pl : List Int} {b n : Int} (h : WRow base W g vo vp out pl b n) (hbx : W.cell? ⟨bx, 0, none⟩ = some (.pointer (some ⟨g, 0, none⟩))) (k c : Int) (k0 : 0 ≤ k) (k1 : k < pl.length) (q0 : 0 ≤ rd pl k) (q1 : rd pl k < out.length) :
    Calls Try.prog 15 #[.int .i64 k, .int .u8 c, .pointer (some ⟨bx, 0, none⟩)] W (WPut base W g vo vp (out.set (rd pl k).toNat c) pl b n) := by
  obtain ⟨h0, h1, _, _⟩ := h.c
  have hu := Try.underlying36
  obtain ⟨Ap, cp, rfl, hcp, hrp⟩ := Kd.R_reads h.p
  obtain ⟨ad1, rfl, hx1⟩ := Kd.at_int hrp k k0 k1
  obtain ⟨inner, ho⟩ := Kd.R_own h.o
  obtain ⟨go, co, rfl, _, _⟩ := ho.form (by omega)
  clear ho
  obtain ⟨hcO, hfO⟩ := Kd.R_celln (0 : Int) h.o (rd pl k) q0 q1
  obtain ⟨hs, hg⟩ := h.setO (rd pl k) c
  have HS := Aside0.mk hs
  have HG := Aside0.mk hg
  clear hs hg h
  go_enter Try.func15, Try.ntmps15
  go_wp2
  go_region
  go_end0
  exact ⟨rfl, HS.out.drew, go, rfl, grownBy_drew HG.out⟩

end Go.Proofs.Ytnpcfiahmadkjaa.X
