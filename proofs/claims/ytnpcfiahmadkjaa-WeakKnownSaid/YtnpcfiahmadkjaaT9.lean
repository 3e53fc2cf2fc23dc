import Derived.Test.YtnpcfiahmadkjaaT7
import Derived.ScopeJumps
namespace Go.Proofs.Ytnpcfiahmadkjaa.X
open Go.RowKit Go.Proofs.YtnpcfiahmadkjaaW.PrintWords Go.Proofs.YtnpcfiahmadkjaaW.PrintLast Go.Proofs.YtnpcfiahmadkjaaW.PrintMore
set_option linter.unusedVariables false
set_option linter.unusedSimpArgs false

theorem wkJumps {P : Program} {a : Act} {w : World} {Q : Exit → Act → World → Prop} {c X : Code} (l : Nat) (J : Act → World → Prop) (μ : Act → World → Nat) (hf : findLabel c l = some (.seq .skip X))
    (pass : ∀ a w, J a w → X.wp P (Exit.jump l (fun a' w' => J a' w' ∧ μ a' w' < μ a w) Q) a w)
    (first : (∀ a w, J a w → X.wp P (Exit.jump l J Q) a w) → c.wp P (Exit.jump l J Q) a w) : (Code.scope c).wp P Q a w := by
  refine wp_scope_jumps l J μ hf (first fun a w hJ => wp_mono (pass a w hJ) fun e a' w' h => ?_) fun a w hJ => wp_seq (wp_skip (pass a w hJ))
  cases e <;> first | exact h | exact ⟨h.1, h.2.1⟩
theorem wkJumps2 {P : Program} {a : Act} {w : World} {Q : Exit → Act → World → Prop} {c X : Code} (l : Nat) (J : Act → World → Prop) (μ : Act → World → Nat) (hf : findLabel c l = some (.seq .skip X))
    (pass : ∀ a w, J a w → X.wp P (Exit.jump l (fun a' w' => J a' w' ∧ μ a' w' < μ a w) Q) a w)
    (first : ∀ X', X' = X → (∀ a w, J a w → X'.wp P (Exit.jump l J Q) a w) → c.wp P (Exit.jump l J Q) a w) : (Code.scope c).wp P Q a w := wkJumps l J μ hf pass (first X rfl)
/-- Whether a terminator stands at place p. -/
def wkHas6 (w : World) (bm : Nat) (p : Int) : Nat := match w.cell? ⟨bm, p.toNat, none⟩ with
  | some (.int _ c) => if c = 6 then 1 else 0
  | _ => 0
def wkMuV (n : Nat) (pl : List Int) (bm : Nat) (v : Value) (w : World) : Nat := 2 * (n - (intOf v).toNat) + wkHas6 w bm (rd pl (intOf v))
theorem wkHas6_le (w : World) (bm : Nat) (p : Int) : wkHas6 w bm p ≤ 1 := by
  unfold wkHas6
  split
  · split <;> omega
  · omega
theorem wkHas6_of {w W : World} {g bx bm : Nat} {l0 dn t : List Int} {vp : Value} {b n k c : Int} (q1 : WkS w g bx bm l0.length vp (wkMg l0 (dn ++ c :: t)) (wkPlc 0 l0) b n W) (q2 : (dn.length : Int) = k) (q3 : (dn ++ c :: t).length = (wkPlc 0 l0).length) :
    wkHas6 W bm (rd (wkPlc 0 l0) k) = if c = 6 then 1 else 0 := by
  have hk : 0 ≤ k ∧ k < ((dn ++ c :: t).length : Int) := by simp; omega
  obtain ⟨a1, a2, a3, _⟩ := wkMg_at 0 l0 _ 0 k q3 hk.1 hk.2
  have hcell := (q1.outc (rd (wkPlc 0 l0) k) a1 (by omega)).1
  unfold wkHas6
  rw [hcell]
  have : rdOf 0 (wkMg l0 (dn ++ c :: t)) (rd (wkPlc 0 l0) k) = c := by
    rw [Int.sub_zero] at a3
    refine Eq.trans (show _ = rd (wkMg l0 (dn ++ c :: t)) (rd (wkPlc 0 l0) k) from rfl) (a3.trans ?_)
    rw [← q2]
    simp [rd]
  simp only [this]
theorem wkMu_next {W W' : World} {bm : Nat} {l0 : List Int} {k k' : Int} (h0 : 0 ≤ k) (h1 : k < k') (h2 : k' ≤ (wkPlc 0 l0).length) : wkMuV (wkPlc 0 l0).length (wkPlc 0 l0) bm (.int .i64 k') W' < wkMuV (wkPlc 0 l0).length (wkPlc 0 l0) bm (.int .i64 k) W := by
  have := wkHas6_le W' bm (rd (wkPlc 0 l0) k')
  simp only [wkMuV, intOf]
  omega
theorem WkJ_keep {w W : World} {g bx bm : Nat} {l0 dn t : List Int} {vp : Value} {b n s st k c : Int} (q1 : WkS w g bx bm l0.length vp (wkMg l0 (dn ++ c :: t)) (wkPlc 0 l0) b n W) (q2 : (dn.length : Int) = k) (q3 : (dn ++ c :: t).length = (wkPlc 0 l0).length) (q5 : st = 1 ∨ st = 2)
    (q4 : dn ++ wkW7 st (wkW5 (dn.getLastD 10) (c :: t)) = wkW7 s (wkW5 10 (wkW4 10 (wkR13 s s l0)))) (h6 : c ≠ 6) (h5 : c ≠ 5) (h8 : c ≠ 8) (h1 : c ≠ 1) (h2 : c ≠ 2) (h4 : c = 4 → st ≠ 1) : WkJ w g bx bm l0 s st (k + 1) W := by
  rw [show dn ++ c :: t = (dn ++ [c]) ++ t by simp] at q1 q3
  refine ⟨vp, dn ++ [c], t, b, n, q1, by simp; omega, q3, q5, ?_⟩
  rw [wkLast_snoc, ← q4, wkW5, if_neg h6, if_neg (by omega), wkW7, if_neg (by omega)]
  by_cases hc : c = 4
  · rw [if_pos hc, if_neg (h4 hc), hc]; simp
  · rw [if_neg hc]; simp
theorem WkJ_strong {w W : World} {g bx bm : Nat} {l0 dn t : List Int} {vp : Value} {b n s st k c : Int} (q1 : WkS w g bx bm l0.length vp (wkMg l0 (dn ++ c :: t)) (wkPlc 0 l0) b n W) (q2 : (dn.length : Int) = k) (q3 : (dn ++ c :: t).length = (wkPlc 0 l0).length) (q5 : st = 1 ∨ st = 2)
    (q4 : dn ++ wkW7 st (wkW5 (dn.getLastD 10) (c :: t)) = wkW7 s (wkW5 10 (wkW4 10 (wkR13 s s l0)))) (hc : c = 1 ∨ c = 2) : WkJ w g bx bm l0 s c (k + 1) W := by
  rw [show dn ++ c :: t = (dn ++ [c]) ++ t by simp] at q1 q3
  refine ⟨vp, dn ++ [c], t, b, n, q1, by simp; omega, q3, hc, ?_⟩
  rw [wkLast_snoc, ← q4, wkW5, if_neg (by omega), if_neg (by omega), wkW7, if_pos hc]
  simp
theorem WkJ_on {w W : World} {g bx bm : Nat} {l0 dn t : List Int} {vp : Value} {b n s st k c : Int} (q1 : WkS w g bx bm l0.length vp ((wkMg l0 (dn ++ c :: t)).set (rd (wkPlc 0 l0) k).toNat 14) (wkPlc 0 l0) b n W) (q2 : (dn.length : Int) = k) (q3 : (dn ++ c :: t).length = (wkPlc 0 l0).length) (q5 : st = 1 ∨ st = 2)
    (q4 : dn ++ wkW7 st (wkW5 (dn.getLastD 10) (c :: t)) = wkW7 s (wkW5 10 (wkW4 10 (wkR13 s s l0)))) (hc : c = 5 ∨ c = 8) : WkJ w g bx bm l0 s st (k + 1) W := by
  rw [wkMg_set l0 _ q3 _ _ (by omega) (by simp; omega), ← q2, wkSet_here] at q1
  refine ⟨vp, dn ++ [14], t, b, n, q1, by simp; omega, by rw [← q3]; simp, q5, ?_⟩
  rw [wkLast_snoc, ← q4, wkW5, if_neg (by omega), if_pos hc, wkW7, if_neg (by omega), if_neg (by omega)]
  simp
theorem WkJ_en {w W : World} {g bx bm : Nat} {l0 dn t : List Int} {vp : Value} {b n s k : Int} (q1 : WkS w g bx bm l0.length vp ((wkMg l0 (dn ++ 4 :: t)).set (rd (wkPlc 0 l0) k).toNat 1) (wkPlc 0 l0) b n W) (q2 : (dn.length : Int) = k) (q3 : (dn ++ 4 :: t).length = (wkPlc 0 l0).length)
    (q4 : dn ++ wkW7 1 (wkW5 (dn.getLastD 10) (4 :: t)) = wkW7 s (wkW5 10 (wkW4 10 (wkR13 s s l0)))) (hc : t.headD 10 ≠ 6) : WkJ w g bx bm l0 s 1 (k + 1) W := by
  rw [wkMg_set l0 _ q3 _ _ (by omega) (by simp; omega), ← q2, wkSet_here] at q1
  refine ⟨vp, dn ++ [1], t, b, n, q1, by simp; omega, by rw [← q3]; simp, .inl rfl, ?_⟩
  rw [wkLast_snoc, ← q4, wkW5, if_neg (by omega), if_neg (by omega), wkW7, if_neg (by omega), if_pos rfl, if_pos rfl, wkW5_ne hc 1 4]
  simp
theorem WkJ_en2 {w W : World} {g bx bm : Nat} {l0 dn rest : List Int} {vp : Value} {b n s k : Int} {m : Nat} (q1 : WkS w g bx bm l0.length vp ((wkMg l0 (dn ++ [4] ++ List.replicate (m + 1) 4 ++ rest)).set (rd (wkPlc 0 l0) k).toNat 1) (wkPlc 0 l0) b n W) (q2 : (dn.length : Int) = k) (q3 : (dn ++ 4 :: (List.replicate (m + 1) 6 ++ rest)).length = (wkPlc 0 l0).length)
    (q4 : dn ++ wkW7 1 (wkW5 (dn.getLastD 10) (4 :: (List.replicate (m + 1) 6 ++ rest))) = wkW7 s (wkW5 10 (wkW4 10 (wkR13 s s l0)))) (hc : rest.headD 10 ≠ 6) : WkJ w g bx bm l0 s 1 (k + 1) W := by
  rw [show dn ++ [4] ++ List.replicate (m + 1) 4 ++ rest = dn ++ 4 :: (List.replicate (m + 1) 4 ++ rest) by simp] at q1
  have q3' : (dn ++ 4 :: (List.replicate (m + 1) 4 ++ rest)).length = (wkPlc 0 l0).length := by rw [← q3]; simp
  rw [wkMg_set l0 _ q3' _ _ (by omega) (by simp; omega), ← q2, wkSet_here] at q1
  refine ⟨vp, dn ++ [1], List.replicate (m + 1) 4 ++ rest, b, n, q1, by simp; omega, by rw [← q3]; simp, .inl rfl, ?_⟩
  rw [wkLast_snoc, ← q4, wkW5, if_neg (by omega), if_neg (by omega), wkW7, if_neg (by omega), if_pos rfl, if_pos rfl, wkW5_run _ _ hc, if_pos (.inl rfl), wkW5_four]
  simp
theorem WkJ_et4 {w W : World} {g bx bm : Nat} {l0 dn rest : List Int} {vp : Value} {b n s st k : Int} {m : Nat} (q1 : WkS w g bx bm l0.length vp (wkMg l0 (dn ++ List.replicate (m + 1) 4 ++ rest)) (wkPlc 0 l0) b n W) (q2 : (dn.length : Int) = k) (q3 : (dn ++ (List.replicate (m + 1) 6 ++ rest)).length = (wkPlc 0 l0).length) (q5 : st = 1 ∨ st = 2)
    (q4 : dn ++ wkW7 st (wkW5 (dn.getLastD 10) (List.replicate (m + 1) 6 ++ rest)) = wkW7 s (wkW5 10 (wkW4 10 (wkR13 s s l0)))) (hr : rest.headD 10 ≠ 6) (hc : dn.getLastD 10 = 4 ∨ rest.headD 10 = 4) : WkJ w g bx bm l0 s st k W := by
  refine ⟨vp, dn, List.replicate (m + 1) 4 ++ rest, b, n, by rw [← List.append_assoc]; exact q1, q2, by rw [← q3]; simp, q5, ?_⟩
  rw [← q4, wkW5_run _ _ hr, if_pos hc, wkW5_four]
theorem WkJ_et14 {w W : World} {g bx bm : Nat} {l0 dn rest : List Int} {vp : Value} {b n s st k : Int} {m : Nat} (q1 : WkS w g bx bm l0.length vp (wkMg l0 (dn ++ List.replicate (m + 1) 14 ++ rest)) (wkPlc 0 l0) b n W) (q2 : (dn.length : Int) = k) (q3 : (dn ++ (List.replicate (m + 1) 6 ++ rest)).length = (wkPlc 0 l0).length) (q5 : st = 1 ∨ st = 2)
    (q4 : dn ++ wkW7 st (wkW5 (dn.getLastD 10) (List.replicate (m + 1) 6 ++ rest)) = wkW7 s (wkW5 10 (wkW4 10 (wkR13 s s l0)))) (hr : rest.headD 10 ≠ 6) (hc : ¬(dn.getLastD 10 = 4 ∨ rest.headD 10 = 4)) : WkJ w g bx bm l0 s st (k + (m + 1 : Nat)) W := by
  refine ⟨vp, dn ++ List.replicate (m + 1) 14, rest, b, n, q1, by simp; omega, by rw [← q3]; simp, q5, ?_⟩
  rw [← q4, wkW5_run _ _ hr, if_neg hc, wkW7_on, wkLast_on, List.append_assoc]
theorem WkJ_end {w W : World} {g bx bm : Nat} {l0 dn cur : List Int} {s st : Int} (q2 : dn.length = (wkPlc 0 l0).length) (q3 : (dn ++ cur).length = (wkPlc 0 l0).length)
    (q4 : dn ++ wkW7 st (wkW5 (dn.getLastD 10) cur) = wkW7 s (wkW5 10 (wkW4 10 (wkR13 s s l0)))) : dn ++ cur = wkW7 s (wkW5 10 (wkW4 10 (wkR13 s s l0))) := by
  have : cur = [] := by
    rw [List.length_append] at q3
    exact List.length_eq_zero_iff.1 (by omega)
  subst this
  exact q4
theorem WkS.putd {w : World} {g bx bm m : Nat} {vp : Value} {out pl out' : List Int} {b n : Int} {W w' : World} (h : WkS w g bx bm m vp out pl b n W) (hr : WRow w.heap.size w' g (.slice (some ⟨bm, 0, none⟩) m m) vp out' pl b n) (hg : ∃ go, (Value.slice (some ⟨bm, 0, none⟩) m m).ownBlock = some go ∧ W.grownBy w' (some go)) : WkS w g bx bm m vp out' pl b n w' := by
  obtain ⟨go, e, hg⟩ := hg
  injection e with e
  subst e
  obtain ⟨hb, cs, hcs⟩ := R_typed h.1.o bm rfl
  exact h.step hr hg hb hcs (by decide)
theorem wkAt4 {w W : World} {g bx bm : Nat} {l0 dn rest : List Int} {vp : Value} {b n k c : Int} {m : Nat} (q1 : WkS w g bx bm l0.length vp (wkMg l0 (dn ++ List.replicate (m + 1) c ++ rest)) (wkPlc 0 l0) b n W) (q3 : (dn ++ List.replicate (m + 1) c ++ rest).length = (wkPlc 0 l0).length) (q2 : (dn.length : Int) = k) :
    Calls Try.prog 16 #[.pointer (some ⟨g, 0, none⟩), .int .i64 k] W (fun e w' => e = .returned (.int .u8 c) ∧ ∃ m, w' = W.drewN m) := by
  have h := at_c q1.1 k (fun h0 h1 => wkPl_in l0 _ q3 _ h0 h1)
  rw [wkAtv _ _ q3, show wkAt _ k = c from by have h := wkAt_app dn (List.replicate (m + 1) c ++ rest) 0 (by omega); rw [Int.add_zero, wkAt_zero, q2, ← List.append_assoc] at h; exact h] at h
  exact h.mono fun e w' hh => ⟨hh.1, by obtain ⟨m, hm⟩ := hh.2; exact ⟨m, hm⟩⟩
theorem wkMu_four {w W W' : World} {g bx bm : Nat} {l0 dn rest : List Int} {vp : Value} {b n k : Int} {m : Nat} (q1 : WkS w g bx bm l0.length vp (wkMg l0 (dn ++ List.replicate (m + 1) 4 ++ rest)) (wkPlc 0 l0) b n W') (q3 : (dn ++ List.replicate (m + 1) 4 ++ rest).length = (wkPlc 0 l0).length) (q2 : (dn.length : Int) = k)
    (h6 : wkHas6 W bm (rd (wkPlc 0 l0) k) = if (6 : Int) = 6 then 1 else 0) : wkMuV (wkPlc 0 l0).length (wkPlc 0 l0) bm (.int .i64 k) W' < wkMuV (wkPlc 0 l0).length (wkPlc 0 l0) bm (.int .i64 k) W := by
  rw [List.append_assoc, List.replicate_succ, List.cons_append] at q1 q3
  have h4 := wkHas6_of q1 q2 q3
  simp only [wkMuV, intOf]
  rw [h6, h4, if_pos rfl, if_neg (by decide)]
  omega
theorem wkPut2 {w W : World} {g bx bm : Nat} {l0 dn rest : List Int} {vp : Value} {b n k : Int} {m : Nat} (q1 : WkS w g bx bm l0.length vp (wkMg l0 (dn ++ [4] ++ List.replicate (m + 1) 4 ++ rest)) (wkPlc 0 l0) b n W) (q2 : (dn.length : Int) = k) (q3 : (dn ++ 4 :: (List.replicate (m + 1) 6 ++ rest)).length = (wkPlc 0 l0).length) :
    Calls Try.prog 15 #[.int .i64 k, .int .u8 1, .pointer (some ⟨bx, 0, none⟩)] W (WPut w.heap.size W g (.slice (some ⟨bm, 0, none⟩) l0.length l0.length) vp ((wkMg l0 (dn ++ [4] ++ List.replicate (m + 1) 4 ++ rest)).set (rd (wkPlc 0 l0) k).toNat 1) (wkPlc 0 l0) b n) := by
  have q3' : (dn ++ [4] ++ List.replicate (m + 1) 4 ++ rest).length = (wkPlc 0 l0).length := by rw [← q3]; simp
  have hlt : k < ((wkPlc 0 l0).length : Int) := by rw [← q3]; simp; omega
  exact put_c q1.1 q1.cells.1 k 1 (by omega) hlt (wkPl_in l0 _ q3' k (by omega) hlt).1 (wkPl_in l0 _ q3' k (by omega) hlt).2
end Go.Proofs.Ytnpcfiahmadkjaa.X
