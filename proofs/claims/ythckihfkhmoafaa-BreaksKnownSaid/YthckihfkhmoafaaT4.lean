import Derived.Test.YthckihfkhmoafaaT3
namespace Go.Proofs.Ythckihfkhmoafaa.X
open Go.RowKit Go.Proofs.YthckihfkhmoafaaW.PrintWords Go.Proofs.YthckihfkhmoafaaW.PrintLast Go.Proofs.YthckihfkhmoafaaW.PrintMore
attribute [local go_sem] max2_int min2_int max_two min_two max_three min_three max_four min_four   -- for this text's walks alone
set_option linter.unusedVariables false
set_option linter.unusedSimpArgs false

/-- What a step of the lines' loop keeps: all below N, the iterator's box, and whatever is no cells. -/
def BrKp (N : Nat) (W W' : World) : Prop := Below N W W' ∧ W'.heap[N + 5]? = W.heap[N + 5]? ∧ KeepsOthers W W'
theorem BrKp.refl (N : Nat) (W : World) : BrKp N W W := ⟨Below.refl _ _, rfl, KeepsOthers.refl _⟩
theorem BrKp.trans {N : Nat} {A B C : World} (h : BrKp N A B) (k : BrKp N B C) : BrKp N A C := ⟨h.1.trans k.1, k.2.1.trans h.2.1, h.2.2.trans k.2.2⟩
theorem BrKp.drewN {N : Nat} {A B : World} (h : BrKp N A B) (m : Nat) : BrKp N A (B.drewN m) := ⟨pw_below_drewN h.1 m, h.2.1, ⟨h.2.2.size, h.2.2.same⟩⟩
theorem BrKp.set {N : Nat} {A B : World} (h : BrKp N A B) (j : Nat) (hj : N ≤ j) (hj2 : j ≠ N + 5) (v : Value) : BrKp N A (B.setCell ⟨j, 0, none⟩ v) :=
  ⟨h.1.setCell hj v, (Below.heap_setCell _ _ _ _ (fun e => hj2 e.symm)).trans h.2.1, h.2.2.trans (KeepsOthers.setCell _ _ _)⟩
/-- The lines under way: in W0 what stays; out is told by vo; s, last in their boxes. -/
structure BrSt (W0 : World) (N pF : Nat) (vo : Value) (out : List Int) (s last : Int) (W : World) : Prop where
  keep : Below N W0 W
  o : Kd.R (Kd.int .i64) 3 W N (fun k => k = N ∨ N + 5 < k) vo out
  cO : Boxed W (N + 1) 31 vo
  cS : Boxed W (N + 2) 3 (.int .i64 s)
  cL : Boxed W (N + 3) 3 (.int .i64 last)
  cT : Boxed W (N + 4) 51 (.func (.func 28) #[] #[.pointer (some ⟨N + 3, 0, none⟩), .pointer (some ⟨N + 2, 0, none⟩), .pointer (some ⟨pF, 0, none⟩), .pointer (some ⟨N + 1, 0, none⟩)])
  big : N + 5 < W.heap.size
section
variable {W0 W : World} {N pF : Nat} {vo : Value} {out : List Int} {s last : Int}
theorem BrSt.drewN (h : BrSt W0 N pF vo out s last W) (m : Nat) : BrSt W0 N pF vo out s last (W.drewN m) :=
  ⟨pw_below_drewN h.keep m, Kd.R_drewN h.o m, h.cO, h.cS, h.cL, h.cT, h.big⟩
theorem Boxed_far {W : World} {B t : Nat} {v : Value} (h : Boxed W B t v) {p : Addr} (hp : B ≠ p.block) (u : Value) : Boxed (W.setCell p u) B t v := (Below.heap_setCell W p u B hp).trans h
theorem BrSt.setS (h : BrSt W0 N pF vo out s last W) (v : Int) : BrSt W0 N pF vo out v last (W.setCell ⟨N + 2, 0, none⟩ (.int .i64 v)) :=
  ⟨h.keep.setCell (by dsimp; omega) _, Kd.R_far h.o (fun k hk => by dsimp at hk ⊢; omega) _, Boxed_far h.cO (by dsimp; omega) _, h.cS.set _, Boxed_far h.cL (by dsimp; omega) _, Boxed_far h.cT (by dsimp; omega) _, by have := h.big; simp [World.setCell]; omega⟩
theorem BrSt.setL (h : BrSt W0 N pF vo out s last W) (v : Int) : BrSt W0 N pF vo out s v (W.setCell ⟨N + 3, 0, none⟩ (.int .i64 v)) :=
  ⟨h.keep.setCell (by dsimp; omega) _, Kd.R_far h.o (fun k hk => by dsimp at hk ⊢; omega) _, Boxed_far h.cO (by dsimp; omega) _, Boxed_far h.cS (by dsimp; omega) _, h.cL.set _, Boxed_far h.cT (by dsimp; omega) _, by have := h.big; simp [World.setCell]; omega⟩
/-- Behind an append: the new value is in hand, and goes into its box. -/
theorem BrSt.put {w1 : World} {v1 : Value} {out1 : List Int} (h : BrSt W0 N pF vo out s last W) (ho : Kd.R (Kd.int .i64) 3 w1 N (fun k => k = N ∨ N + 5 < k) v1 out1) (hb : Below N W0 w1) (hg : W.grownBy w1 vo.ownBlock) :
    (BrSt W0 N pF v1 out1 s last (w1.setCell ⟨N + 1, 0, none⟩ v1) ∧ BrKp N W (w1.setCell ⟨N + 1, 0, none⟩ v1)) ∧ w1.cell? ⟨N + 1, 0, none⟩ = some vo ∧ w1.frozen? ⟨N + 1, 0, none⟩ = false ∧ w1.cell? ⟨N + 2, 0, none⟩ = some (.int .i64 s) ∧ w1.frozen? ⟨N + 2, 0, none⟩ = false ∧ w1.cell? ⟨N + 3, 0, none⟩ = some (.int .i64 last) ∧ w1.frozen? ⟨N + 3, 0, none⟩ = false := by
  have hne : ∀ j, N + 1 ≤ j → j ≤ N + 5 → some j ≠ vo.ownBlock := by
    intro j h1 h2 e
    have := h.o.1 j e.symm
    dsimp at this
    omega
  have c1 := h.cO.kept hg (hne _ (by omega) (by omega))
  have c2 := h.cS.kept hg (hne _ (by omega) (by omega))
  have c3 := h.cL.kept hg (hne _ (by omega) (by omega))
  have c4 := h.cT.kept hg (hne _ (by omega) (by omega))
  have hb5 : w1.heap[N + 5]? = W.heap[N + 5]? := hg.block _ (by have := h.big; omega) (hne _ (by omega) (by omega))
  have hbk : Below N W w1 := (Below.refl N W).grown hg (by have := h.big; omega) (fun k e => by have := h.o.1 k e; dsimp at this; omega)
  obtain ⟨inner, hown⟩ := Kd.R_own h.o
  have hko : KeepsOthers W w1 := by
    refine ⟨hg.size, fun k o hk hc => (hg.block k (Array.getElem?_eq_some_iff.1 hk).1 (fun e => ?_)).trans hk⟩
    obtain ⟨cells, hcs⟩ := own_typed hown k e.symm
    rw [hcs] at hk
    injection hk with hk
    rw [← hk] at hc
    cases hc
  have hK : BrKp N W w1 := ⟨hbk, hb5, hko⟩
  exact ⟨⟨⟨hb.setCell (by dsimp; omega) _, Kd.R_far ho (fun k hk => by dsimp at hk ⊢; omega) _, c1.set _, Boxed_far c2 (by dsimp; omega) _, Boxed_far c3 (by dsimp; omega) _, Boxed_far c4 (by dsimp; omega) _, by have := hg.size; have := h.big; simp [World.setCell]; omega⟩,
    hK.set (N + 1) (by omega) (by omega) _⟩, c1.cell, c1.frozen, c2.cell, c2.frozen, c3.cell, c3.frozen⟩
end
/-- What lies in W0 for good: the sums, the width, the closure over them. -/
structure BrFix (W0 : World) (N pF p2 p3 p4 p5 gA gB gR n : Nat) (A B R : List Int) (wd : Int) : Prop where
  c2 : Boxed W0 p2 31 (.slice (some ⟨gA, 0, none⟩) (n + 1) (n + 1))
  c3 : Boxed W0 p3 31 (.slice (some ⟨gB, 0, none⟩) (n + 1) (n + 1))
  c4 : Boxed W0 p4 31 (.slice (some ⟨gR, 0, none⟩) (n + 1) (n + 1))
  c5 : Boxed W0 p5 3 (.int .i64 wd)
  cF : Boxed W0 pF 50 (.func (.func 27) #[] #[.pointer (some ⟨p2, 0, none⟩), .pointer (some ⟨p3, 0, none⟩), .pointer (some ⟨p4, 0, none⟩), .pointer (some ⟨p5, 0, none⟩)])
  a : Kd.C (Kd.int .i64) W0 (some ⟨gA, 0, none⟩) (n + 1) A
  b : Kd.C (Kd.int .i64) W0 (some ⟨gB, 0, none⟩) (n + 1) B
  r : Kd.C (Kd.int .i64) W0 (some ⟨gR, 0, none⟩) (n + 1) R
  hN : W0.heap.size = N
  hs : BrSums n A B R
  hn : n ≤ 65536
theorem BrFix.calls {W0 W : World} {N pF p2 p3 p4 p5 gA gB gR n : Nat} {A B R : List Int} {wd : Int} (h : BrFix W0 N pF p2 p3 p4 p5 gA gB gR n A B R wd) (hk : Below N W0 W) (f t : Int) (hf0 : 0 ≤ f) (hf1 : f ≤ n) (ht0 : 0 ≤ t) (ht1 : t ≤ n) :
    Calls Try.prog 27 #[.int .i64 f, .int .i64 t, .pointer (some ⟨p2, 0, none⟩), .pointer (some ⟨p3, 0, none⟩), .pointer (some ⟨p4, 0, none⟩), .pointer (some ⟨p5, 0, none⟩)] W fun e w' => e = .returned (.bool (brFit A B R wd f t)) ∧ Drawn0 W w' := by
  have hk' : Below W0.heap.size W0 W := by rw [h.hN]; exact hk
  have up : ∀ {p : Addr} {v : Value}, W0.cell? p = some v → W.cell? p = some v := fun {p v} e => (hk'.cell (World.block_lt_of_cell? W0 _ e)).trans e
  exact fits_c n A B R wd h.hs (by have := h.hn; omega) W p2 p3 p4 p5 gA gB gR f t hf0 hf1 ht0 ht1 (up h.c2.cell) (up h.c3.cell) (up h.c4.cell) (up h.c5.cell) (Kd.C_below h.a hk') (Kd.C_below h.b hk') (Kd.C_below h.r hk')
/-- A step: the line that is over is closed; then the place is kept, or taken. -/
def brW (A B R : List Int) (wd k s last : Int) (out : List Int) : Int × Int × List Int := if s < last ∧ brFit A B R wd s k = false then (last, -1, out ++ [last]) else (s, last, out)
def brS (A B R : List Int) (wd k : Int) (must : Bool) (s last : Int) (out : List Int) : Int × Int × List Int :=
  let u := brW A B R wd k s last out
  if brFit A B R wd u.1 k = false ∨ must = true then (k, -1, u.2.2 ++ [k]) else (u.1, k, u.2.2)
def lastN (p : Nat) (W : World) : Nat := match W.cell? ⟨p, 0, none⟩ with
  | some (.int _ x) => (x + 1).toNat
  | _ => 0
theorem lastN_of {W0 W : World} {N pF : Nat} {vo : Value} {out : List Int} {s last : Int} (h : BrSt W0 N pF vo out s last W) : lastN (N + 3) W = (last + 1).toNat := by
  unfold lastN
  rw [h.cL.cell]
def StepPost (W0 : World) (N pF : Nat) (W : World) (u : Int × Int × List Int) (e : Ending) (w' : World) : Prop := e = .returned (.tuple #[]) ∧ ∃ vo', BrSt W0 N pF vo' u.2.2 u.1 u.2.1 w' ∧ BrKp N W w'
set_option maxHeartbeats 8000000 in
set_option maxRecDepth 100000 in
theorem step_c {W0 W : World} {N pF p2 p3 p4 p5 gA gB gR n : Nat} {A B R : List Int} {wd : Int} {vo : Value} {out : List Int} {s last : Int} (hF : BrFix W0 N pF p2 p3 p4 p5 gA gB gR n A B R wd) (h : BrSt W0 N pF vo out s last W) (k : Int) (must : Bool)
    (hk0 : 0 ≤ k) (hk1 : k ≤ n) (hs0 : 0 ≤ s) (hs1 : s ≤ n) (hl0 : -1 ≤ last) (hl1 : last ≤ n) (hout : out.length + 2 < 17592186044416) :
    Calls Try.prog 28 #[.int .i64 k, .bool must, .pointer (some ⟨N + 3, 0, none⟩), .pointer (some ⟨N + 2, 0, none⟩), .pointer (some ⟨pF, 0, none⟩), .pointer (some ⟨N + 1, 0, none⟩)] W (StepPost W0 N pF W (brS A B R wd k must s last out)) := by
  have HF := Aside0.mk hF
  have H0 := Aside0.mk h
  have HN := Aside0.mk hF.hn
  clear hF h
  have HOUT := Aside0.mk hout
  clear hout
  go_enter Try.func28, Try.ntmps28
  go_wp2
  go_loopw [22] (fun v22 wr => ∃ (vo1 : Value) (o1 : List Int) (s1 l1 : Int), 0 ≤ s1 ∧ s1 ≤ n ∧ -1 ≤ l1 ∧ l1 ≤ n ∧ Aside0 (BrSt W0 N pF vo1 o1 s1 l1 wr) ∧ Aside0 (BrKp N W wr) ∧ Aside0 (brW A B R wd k s1 l1 o1 = brW A B R wd k s last out) ∧ Aside0 (o1.length ≤ out.length + 1 ∧ (l1 ≠ -1 → o1.length ≤ out.length)))
    (fun _ wr => lastN (N + 3) wr)
  case atStart => exact ⟨vo, out, s, last, hs0, hs1, hl0, hl1, H0, ⟨BrKp.refl _ _⟩, ⟨rfl⟩, ⟨by omega, fun _ => Nat.le_refl _⟩⟩
  case round =>
    obtain ⟨vo1, o1, s1, l1, a0, a1, a2, a3, HS, HK, HE, HO⟩ := hrel
    have HO1 := Aside0.mk (show o1.length + 1 < 17592186044416 by have := HO.out; have := HOUT.out; omega)
    have cO := HS.out.cO.cell
    have cS := HS.out.cS.cell
    have cL := HS.out.cL.cell
    have fO := HS.out.cO.frozen
    have fS := HS.out.cS.frozen
    have fL := HS.out.cL.frozen
    have hkp : Below W0.heap.size W0 wr := by rw [HF.out.hN]; exact HS.out.keep
    have cF := (hkp.cell (World.block_lt_of_cell? W0 _ HF.out.cF.cell)).trans HF.out.cF.cell
    clear hkp
    have hpl := HF.out.cF.lt
    rw [HF.out.hN] at hpl
    have np1 : pF ≠ N + 1 := by omega
    have np2 : pF ≠ N + 2 := by omega
    have np3 : pF ≠ N + 3 := by omega
    have SZ1 : ∀ m1 m2 v, (((wr.drewN m1).setCell ⟨N + 3, 0, none⟩ v).drewN m2).heap.size = wr.heap.size := fun m1 m2 v => by simp [World.setCell]
    have SZ2 : ∀ m2 v, ((wr.setCell ⟨N + 3, 0, none⟩ v).drewN m2).heap.size = wr.heap.size := fun m2 v => by simp [World.setCell]
    obtain ⟨b1, hb1⟩ : ∃ b, brFit A B R wd s1 k = b := ⟨_, rfl⟩
    have FT := HF.out.calls HS.out.keep s1 k a0 a1 hk0 hk1
    rw [hb1] at FT
    by_cases hsl : s1 < l1
    · have g1 : decide (s1 < l1) = true := decide_eq_true hsl
      cases b1 with
      | false =>
        have hm : lastN (N + 3) wr = (l1 + 1).toNat := by unfold lastN; rw [cL]
        have HM := Aside0.mk hm
        clear hm
        go_wp2_with (first | (go_at_call 27; (with_reducible refine FT.mono ?_); rintro e w' ⟨rfl, ⟨m1, rfl⟩⟩) | ((with_reducible refine gate_builtin (b := .append) (xs := #[.tmp 18, .tmp 20]) rfl ?_); at_builtin; refine Kd.R_append (Kd.int .i64) (w0 := W0) N rfl (.tmp 18) (.tmp 20) 31 3 (.int .i64 0) 8 rfl Try.underlying31 info3 rfl (by decide) (by omega) vo1 o1 l1 [.int .i64 l1] (fun k => k = N ∨ N + 5 < k) (fun _ => False) rfl rfl ?aP (fun _ hk => hk.elim) ?aF ?aO ?aB ?aS ?aL ?_; (case aP => exact rfl); (case aB => exact (HS.out.drewN m1).keep); (case aF => exact (fun j hk => .inr (Nat.lt_of_lt_of_le (HS.out.drewN m1).big hk))); (case aO => exact (HS.out.drewN m1).o); (case aS => exact Nat.le_of_lt (by have := (HS.out.drewN m1).big; omega)); (case aL => have := HO1.out; omega); intro v150 w10 ho hb hg hat; obtain ⟨Ax, cx, ex⟩ := Kd.R_slice ho; obtain ⟨nx, hnx⟩ : ∃ nx, nx = (o1 ++ [l1]).length := ⟨_, rfl⟩; rw [← hnx] at ex; clear hnx; subst ex; obtain ⟨⟨hS, hK⟩, hc1, hf1, hc2, hf2, hc3, hf3⟩ := (HS.out.drewN m1).put ho hb hg; have HS2 := Aside0.mk hS; have HK2 := Aside0.mk hK; clear hS hK ho hb hg hat))
        go_roundw
        case rel =>
          refine ⟨_, o1 ++ [l1], l1, -1, by omega, by omega, by omega, by omega, ⟨(HS2.out.setS l1).setL (-1)⟩, ⟨?_⟩, ⟨?_⟩, ⟨?_⟩⟩
          · exact ((HK.out.trans (((BrKp.refl N wr).drewN m1).trans HK2.out)).set (N + 2) (by omega) (by omega) _).set (N + 3) (by omega) (by omega) _
          · rw [← HE.out]
            unfold brW
            rw [if_neg (fun h => by have := h.1; omega), if_pos ⟨hsl, hb1⟩]
          · have := HO.out.2 (by omega)
            simp; omega
        case measure =>
          rw [HM.out, lastN_of ((HS2.out.setS l1).setL (-1))]
          omega
      | true =>
          have hbw : brW A B R wd k s last out = (s1, l1, o1) := by
            rw [← HE.out]; unfold brW; rw [if_neg (fun h => by rw [hb1] at h; exact absurd h.2 (by decide))]
          have HBS : Aside0 (brS A B R wd k must s last out = if brFit A B R wd s1 k = false ∨ must = true then (k, -1, o1 ++ [k]) else (s1, k, o1)) := ⟨by unfold brS; rw [hbw]⟩
          clear hbw
          cases must with
          | true =>
            go_wp2_with (first | (go_at_call 27; (with_reducible refine FT.mono ?_); rintro e w' ⟨rfl, ⟨m1, rfl⟩⟩) | (go_at_call 27; (with_reducible refine (HF.out.calls ((HS.out.drewN m1).setL k).keep s1 k a0 a1 hk0 hk1).mono ?_); rintro e w' ⟨rfl, ⟨m2, rfl⟩⟩; rw [hb1]) | ((with_reducible refine gate_builtin (b := .append) (xs := #[.tmp 32, .tmp 34]) rfl ?_); at_builtin; refine Kd.R_append (Kd.int .i64) (w0 := W0) N rfl (.tmp 32) (.tmp 34) 31 3 (.int .i64 0) 8 rfl Try.underlying31 info3 rfl (by decide) (by omega) vo1 o1 k [.int .i64 k] (fun k => k = N ∨ N + 5 < k) (fun _ => False) rfl (by first | (rw [SZ1]; rfl) | (rw [SZ2]; rfl)) ?aP (fun _ hk => hk.elim) ?aF ?aO ?aB ?aS ?aL ?_; (case aP => exact rfl); (case aB => exact (((HS.out.drewN m1).setL k).drewN m2).keep); (case aF => exact (fun j hk => .inr (Nat.lt_of_lt_of_le (((HS.out.drewN m1).setL k).drewN m2).big hk))); (case aO => exact (((HS.out.drewN m1).setL k).drewN m2).o); (case aS => exact Nat.le_of_lt (by have := (((HS.out.drewN m1).setL k).drewN m2).big; omega)); (case aL => have := HO1.out; omega); intro v150 w10 ho hb hg hat; obtain ⟨Ax, cx, ex⟩ := Kd.R_slice ho; obtain ⟨nx, hnx⟩ : ∃ nx, nx = (o1 ++ [k]).length := ⟨_, rfl⟩; rw [← hnx] at ex; clear hnx; subst ex; obtain ⟨⟨hS, hK⟩, hc1, hf1, hc2, hf2, hc3, hf3⟩ := (((HS.out.drewN m1).setL k).drewN m2).put ho hb hg; have HS2 := Aside0.mk hS; have HK2 := Aside0.mk hK; clear hS hK ho hb hg hat))
            go_end0
            refine ⟨rfl, .slice Ax nx cx, ?_, (((((HK.out.drewN m1).set (N + 3) (by omega) (by omega) (.int .i64 k)).drewN m2).trans HK2.out).set (N + 2) (by omega) (by omega) _).set (N + 3) (by omega) (by omega) _⟩
            rw [HBS.out, if_pos (.inr (by trivial))]
            exact (HS2.out.setS k).setL (-1)
          | false =>
            go_wp2_with (first | (go_at_call 27; (with_reducible refine FT.mono ?_); rintro e w' ⟨rfl, ⟨m1, rfl⟩⟩) | (go_at_call 27; (with_reducible refine (HF.out.calls ((HS.out.drewN m1).setL k).keep s1 k a0 a1 hk0 hk1).mono ?_); rintro e w' ⟨rfl, ⟨m2, rfl⟩⟩; rw [hb1]))
            go_end0
            refine ⟨rfl, vo1, ?_, ((HK.out.drewN m1).set (N + 3) (by omega) (by omega) (.int .i64 k)).drewN m2⟩
            rw [HBS.out, if_neg (by rw [hb1]; decide)]
            exact ((HS.out.drewN m1).setL k).drewN m2
    · have g1 : decide (s1 < l1) = false := decide_eq_false hsl
      cases b1 with
      | false =>
        have hbw : brW A B R wd k s last out = (s1, l1, o1) := by
          rw [← HE.out]; unfold brW; rw [if_neg (fun h => hsl h.1)]
        have HBS : Aside0 (brS A B R wd k must s last out = if brFit A B R wd s1 k = false ∨ must = true then (k, -1, o1 ++ [k]) else (s1, k, o1)) := ⟨by unfold brS; rw [hbw]⟩
        clear hbw
        go_wp2_with (first | (go_at_call 27; (with_reducible refine (HF.out.calls ((HS.out).setL k).keep s1 k a0 a1 hk0 hk1).mono ?_); rintro e w' ⟨rfl, ⟨m2, rfl⟩⟩; rw [hb1]) | ((with_reducible refine gate_builtin (b := .append) (xs := #[.tmp 32, .tmp 34]) rfl ?_); at_builtin; refine Kd.R_append (Kd.int .i64) (w0 := W0) N rfl (.tmp 32) (.tmp 34) 31 3 (.int .i64 0) 8 rfl Try.underlying31 info3 rfl (by decide) (by omega) vo1 o1 k [.int .i64 k] (fun k => k = N ∨ N + 5 < k) (fun _ => False) rfl (by first | (rw [SZ1]; rfl) | (rw [SZ2]; rfl)) ?aP (fun _ hk => hk.elim) ?aF ?aO ?aB ?aS ?aL ?_; (case aP => exact rfl); (case aB => exact (((HS.out).setL k).drewN m2).keep); (case aF => exact (fun j hk => .inr (Nat.lt_of_lt_of_le (((HS.out).setL k).drewN m2).big hk))); (case aO => exact (((HS.out).setL k).drewN m2).o); (case aS => exact Nat.le_of_lt (by have := (((HS.out).setL k).drewN m2).big; omega)); (case aL => have := HO1.out; omega); intro v150 w10 ho hb hg hat; obtain ⟨Ax, cx, ex⟩ := Kd.R_slice ho; obtain ⟨nx, hnx⟩ : ∃ nx, nx = (o1 ++ [k]).length := ⟨_, rfl⟩; rw [← hnx] at ex; clear hnx; subst ex; obtain ⟨⟨hS, hK⟩, hc1, hf1, hc2, hf2, hc3, hf3⟩ := (((HS.out).setL k).drewN m2).put ho hb hg; have HS2 := Aside0.mk hS; have HK2 := Aside0.mk hK; clear hS hK ho hb hg hat))
        go_end0
        refine ⟨rfl, .slice Ax nx cx, ?_, (((((HK.out).set (N + 3) (by omega) (by omega) (.int .i64 k)).drewN m2).trans HK2.out).set (N + 2) (by omega) (by omega) _).set (N + 3) (by omega) (by omega) _⟩
        rw [HBS.out, if_pos (.inl hb1)]
        exact (HS2.out.setS k).setL (-1)
      | true =>
        have hbw : brW A B R wd k s last out = (s1, l1, o1) := by
          rw [← HE.out]; unfold brW; rw [if_neg (fun h => hsl h.1)]
        have HBS : Aside0 (brS A B R wd k must s last out = if brFit A B R wd s1 k = false ∨ must = true then (k, -1, o1 ++ [k]) else (s1, k, o1)) := ⟨by unfold brS; rw [hbw]⟩
        clear hbw
        cases must with
        | true =>
          go_wp2_with (first | (go_at_call 27; (with_reducible refine (HF.out.calls ((HS.out).setL k).keep s1 k a0 a1 hk0 hk1).mono ?_); rintro e w' ⟨rfl, ⟨m2, rfl⟩⟩; rw [hb1]) | ((with_reducible refine gate_builtin (b := .append) (xs := #[.tmp 32, .tmp 34]) rfl ?_); at_builtin; refine Kd.R_append (Kd.int .i64) (w0 := W0) N rfl (.tmp 32) (.tmp 34) 31 3 (.int .i64 0) 8 rfl Try.underlying31 info3 rfl (by decide) (by omega) vo1 o1 k [.int .i64 k] (fun k => k = N ∨ N + 5 < k) (fun _ => False) rfl (by first | (rw [SZ1]; rfl) | (rw [SZ2]; rfl)) ?aP (fun _ hk => hk.elim) ?aF ?aO ?aB ?aS ?aL ?_; (case aP => exact rfl); (case aB => exact (((HS.out).setL k).drewN m2).keep); (case aF => exact (fun j hk => .inr (Nat.lt_of_lt_of_le (((HS.out).setL k).drewN m2).big hk))); (case aO => exact (((HS.out).setL k).drewN m2).o); (case aS => exact Nat.le_of_lt (by have := (((HS.out).setL k).drewN m2).big; omega)); (case aL => have := HO1.out; omega); intro v150 w10 ho hb hg hat; obtain ⟨Ax, cx, ex⟩ := Kd.R_slice ho; obtain ⟨nx, hnx⟩ : ∃ nx, nx = (o1 ++ [k]).length := ⟨_, rfl⟩; rw [← hnx] at ex; clear hnx; subst ex; obtain ⟨⟨hS, hK⟩, hc1, hf1, hc2, hf2, hc3, hf3⟩ := (((HS.out).setL k).drewN m2).put ho hb hg; have HS2 := Aside0.mk hS; have HK2 := Aside0.mk hK; clear hS hK ho hb hg hat))
          go_end0
          refine ⟨rfl, .slice Ax nx cx, ?_, (((((HK.out).set (N + 3) (by omega) (by omega) (.int .i64 k)).drewN m2).trans HK2.out).set (N + 2) (by omega) (by omega) _).set (N + 3) (by omega) (by omega) _⟩
          rw [HBS.out, if_pos (.inr (by trivial))]
          exact (HS2.out.setS k).setL (-1)
        | false =>
          go_wp2_with (go_at_call 27; (with_reducible refine (HF.out.calls ((HS.out).setL k).keep s1 k a0 a1 hk0 hk1).mono ?_); rintro e w' ⟨rfl, ⟨m2, rfl⟩⟩; rw [hb1])
          go_end0
          refine ⟨rfl, vo1, ?_, ((HK.out).set (N + 3) (by omega) (by omega) (.int .i64 k)).drewN m2⟩
          rw [HBS.out, if_neg (by rw [hb1]; decide)]
          exact ((HS.out).setL k).drewN m2
end Go.Proofs.Ythckihfkhmoafaa.X
