import Derived.Test.YthckihfkhmoafaaT2
import Derived.Deep.QuietTactic
namespace Go.Proofs.Ythckihfkhmoafaa.X
open Go.RowKit Go.Proofs.YthckihfkhmoafaaW.PrintWords Go.Proofs.YthckihfkhmoafaaW.PrintLast Go.Proofs.YthckihfkhmoafaaW.PrintMore
attribute [local go_sem] max2_int min2_int max_two min_two max_three min_three max_four min_four   -- for this text's walks alone
set_option linter.unusedVariables false
set_option linter.unusedSimpArgs false

theorem br_in (A0 : Option Addr) (n c : Nat) (w : World) :
    Calls Try.prog 29 #[.slice A0 n c] w fun e w' => e = .returned (.func (.func 35) #[] #[.pointer (some ⟨w.heap.size, 0, none⟩)]) ∧ w' = w.alloc (.cells #[.slice A0 n c] 22) := by
  go_enter Try.func29, Try.ntmps29
  go_wp2
  go_ret
  exact ⟨rfl, rfl⟩
theorem br_stops (n : Nat) (hn : 1 ≤ n) (Bs c0 : Nat) (A0 : Option Addr) (l0 : List S36) (w0 w : World) (hr0 : Kd.C k36 w0 A0 l0.length l0) (hlen : l0.length < 17592186044416)
    (hW0 : Below w0.heap.size w0 w) (hc : Boxed w Bs 22 (.slice A0 l0.length c0)) :
    SeqStopsK Fence.wide n Try.prog 35 #[.pointer (some ⟨Bs, 0, none⟩)] (encBr l0) (KpB w0.heap.size Bs) (fun ys => ys = brTo l0 l0.length) (fun pre => ∃ i, pre = brTo l0 i) l0.length w := fun l J Jx W hW hJ _ hY h0 => by
  have hc' : Boxed W Bs 22 (.slice A0 l0.length c0) := (hW.block Bs hc.lt).trans hc
  exact br1_in n hn l Bs _ c0 A0 l0 w0 rfl hr0 hlen J Jx W.heap.size hJ hY W (below_then hW0 hW0.size hW) hc' h0
/-- Does what lies from one place to another fit? By the sums up to each: of all, of blanks, and where a hanging row begins. -/
def brFit (A B R : List Int) (wd f t : Int) : Bool := decide (rd A t - rd A f - (rd B t - rd B (if f < rd R t then rd R t else f)) ≤ wd)
structure BrSums (n : Nat) (A B R : List Int) : Prop where
  la : A.length = n + 1
  lb : B.length = n + 1
  lr : R.length = n + 1
  a : ∀ i : Int, 0 ≤ rd A i ∧ rd A i ≤ 1125899906842624
  b : ∀ i : Int, 0 ≤ rd B i ∧ rd B i ≤ 1125899906842624
  r : ∀ i : Int, 0 ≤ rd R i ∧ rd R i ≤ n
set_option maxHeartbeats 4000000 in
set_option maxRecDepth 100000 in
theorem fits_c (n : Nat) (A B R : List Int) (wd : Int) (hs : BrSums n A B R) (hn : n < 17592186044416) (W : World) (p2 p3 p4 p5 gA gB gR : Nat) (f t : Int) (hf0 : 0 ≤ f) (hf1 : f ≤ n) (ht0 : 0 ≤ t) (ht1 : t ≤ n)
    (h2 : W.cell? ⟨p2, 0, none⟩ = some (.slice (some ⟨gA, 0, none⟩) (n + 1) (n + 1))) (h3 : W.cell? ⟨p3, 0, none⟩ = some (.slice (some ⟨gB, 0, none⟩) (n + 1) (n + 1))) (h4 : W.cell? ⟨p4, 0, none⟩ = some (.slice (some ⟨gR, 0, none⟩) (n + 1) (n + 1)))
    (h5 : W.cell? ⟨p5, 0, none⟩ = some (.int .i64 wd)) (cA : Kd.C (Kd.int .i64) W (some ⟨gA, 0, none⟩) (n + 1) A) (cB : Kd.C (Kd.int .i64) W (some ⟨gB, 0, none⟩) (n + 1) B) (cR : Kd.C (Kd.int .i64) W (some ⟨gR, 0, none⟩) (n + 1) R) :
    Calls Try.prog 27 #[.int .i64 f, .int .i64 t, .pointer (some ⟨p2, 0, none⟩), .pointer (some ⟨p3, 0, none⟩), .pointer (some ⟨p4, 0, none⟩), .pointer (some ⟨p5, 0, none⟩)] W fun e w' => e = .returned (.bool (brFit A B R wd f t)) ∧ Drawn0 W w' := by
  have r1 := hs.r t
  obtain ⟨rt, hrt⟩ : ∃ rt, rd R t = rt := ⟨_, rfl⟩
  obtain ⟨m, hm⟩ : ∃ m, (if f < rt then rt else f) = m := ⟨_, rfl⟩
  have hm0 : 0 ≤ m ∧ m ≤ n := by rw [← hm]; split <;> omega
  obtain ⟨ad1, e1, x1⟩ := Kd.at_int cA t ht0 (by omega)
  obtain ⟨ad2, e2, x2⟩ := Kd.at_int cA f hf0 (by omega)
  obtain ⟨ad3, e3, x3⟩ := Kd.at_int cB t ht0 (by omega)
  obtain ⟨ad4, e4, x4⟩ := Kd.at_int cR t ht0 (by omega)
  obtain ⟨ad5, e5, x5⟩ := Kd.at_int cB m hm0.1 (by omega)
  injection e1 with e1; subst e1
  injection e2 with e2; subst e2
  injection e3 with e3; subst e3
  injection e4 with e4; subst e4
  injection e5 with e5; subst e5
  simp only [add_plain] at x1 x2 x3 x4 x5
  have q1 := hs.a t
  have q2 := hs.a f
  have q3 := hs.b t
  have q5 := hs.b m
  unfold brFit
  rw [hrt, hm]
  rw [hrt] at x4
  obtain ⟨at_, hat⟩ : ∃ v, rd A t = v := ⟨_, rfl⟩
  obtain ⟨af, haf⟩ : ∃ v, rd A f = v := ⟨_, rfl⟩
  obtain ⟨bt, hbt⟩ : ∃ v, rd B t = v := ⟨_, rfl⟩
  obtain ⟨bm, hbm⟩ : ∃ v, rd B m = v := ⟨_, rfl⟩
  rw [hat] at x1 q1 ⊢
  rw [haf] at x2 q2 ⊢
  rw [hbt] at x3 q3 ⊢
  rw [hbm] at x5 q5 ⊢
  have w1 : IntKind.i64.wrap (at_ - af) = at_ - af := IntWalk.i64_in _ (by omega)
  have w2 : IntKind.i64.wrap (bt - bm) = bt - bm := IntWalk.i64_in _ (by omega)
  have w3 : IntKind.i64.wrap (at_ - af - (bt - bm)) = at_ - af - (bt - bm) := IntWalk.i64_in _ (by omega)
  have ht2 : t < (n : Int) + 1 := by omega
  have hf2 : f < (n : Int) + 1 := by omega
  have hm2 : m < (n : Int) + 1 := by omega
  have hm3 := hm0.1
  clear hat haf hbt hbm hrt hs cA cB cR hm0 r1 hf1 ht1
  by_cases hc : f < rt
  · have hm' : m = rt := by rw [← hm, if_pos hc]
    subst hm'
    clear hm
    have b1 : decide (f < m) = true := decide_eq_true hc
    go_enter Try.func27, Try.ntmps27
    go_upto_region 1 with (fail)
    go_quiet (fail)
    go_wp2
    go_ret
    exact ⟨rfl, (Drawn0.refl _).step _⟩
  · have hm' : m = f := by rw [← hm, if_neg hc]
    subst hm'
    clear hm
    have b1 : decide (m < rt) = false := decide_eq_false hc
    go_enter Try.func27, Try.ntmps27
    go_upto_region 1 with (fail)
    go_quiet (fail)
    go_wp2
    go_ret
    exact ⟨rfl, (Drawn0.refl _).step _⟩
end Go.Proofs.Ythckihfkhmoafaa.X
