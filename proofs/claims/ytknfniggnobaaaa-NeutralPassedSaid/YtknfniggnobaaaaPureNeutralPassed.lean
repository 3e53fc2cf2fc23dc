/- The statement NeutralPassed of chapter 18: whatever row, level, sos, eos and places come in, the law answers true: with BN put in anywhere the others are what they are without (for a row of more than 1500 classes, or more than 100 places: the short call alone). -/
import Derived.Test.YtknfniggnobaaaaB
namespace Go.Proofs.Ytknfniggnobaaaa.Pure
open Go.RowKit Go.Proofs.Ytknfniggnobaaaa.X Go.Proofs.YtknfniggnobaaaaW.PrintWords Go.Proofs.YtknfniggnobaaaaW.PrintLast Go.Proofs.Ytknfniggnobaaaa
set_option linter.unusedVariables false
set_option linter.unusedSimpArgs false

/-- a is l, b is w, with BN put in at the same places. -/
inductive Ins : List Int → List Int → List Int → List Int → Prop where
  | nil : Ins [] [] [] []
  | put {l w a b : List Int} : Ins l w a b → Ins l w (10 :: a) (10 :: b)
  | both {l w a b : List Int} (c x : Int) : Ins l w a b → Ins (c :: l) (x :: w) (c :: a) (x :: b)
theorem Ins.append {l w a b l' w' a' b' : List Int} (h : Ins l w a b) (h' : Ins l' w' a' b') : Ins (l ++ l') (w ++ w') (a ++ a') (b ++ b') := by
  induction h with
  | nil => exact h'
  | put _ ih => exact .put ih
  | both c x _ ih => exact .both c x ih
theorem Ins.behind {l w a b : List Int} (h : Ins l w a b) (e : Int) : nBehind e a = nBehind e l := by
  induction h with
  | nil => rfl
  | put _ ih => rw [nBehind, nStep, if_pos rfl, ih]
  | both c x _ ih => rw [nBehind, nBehind, ih]
theorem Ins.res {l w a b : List Int} (h : Ins l w a b) (s e : Int) : ∀ d, nRes s e d l = w → nRes s e d a = b := by
  induction h with
  | nil => intro d _; rfl
  | put _ ih => intro d hw; rw [nRes, if_pos rfl, ih d hw]
  | @both l w a b c x h ih =>
    intro d hw
    rw [nRes] at hw ⊢
    by_cases h10 : c = 10
    · rw [if_pos h10] at hw ⊢
      injection hw with h1 h2
      rw [ih d h2, h1]
    · rw [if_neg h10] at hw ⊢
      by_cases hi : nIs c = true
      · rw [if_pos hi] at hw ⊢
        injection hw with h1 h2
        rw [ih d h2, h.behind, h1]
      · rw [if_neg hi] at hw ⊢
        injection hw with h1 h2
        rw [ih _ h2, h1]
theorem resolve_some {l : List Int} {a : Int} (s e : Int) (hl : l.length < 140737488355328) (h0 : 0 ≤ a) (h1 : a ≤ 255) : neutral_Resolve.f l a s e = some (nRes (if a % 2 = 1 then 2 else 1) (nEdge e) (nEdge s) l) := by
  unfold neutral_Resolve.f
  rw [if_pos ⟨hl, h0, h1⟩]

theorem loops (l : List Int) (a s e : Int) (at_ : List Int) (h0 : 0 ≤ a) (h1 : a ≤ 255) (hl : l.length ≤ 1500) (hat : at_.length ≤ 100) (w : List Int) (hw : nRes (if a % 2 = 1 then 2 else 1) (nEdge e) (nEdge s) l = w) (m : Nat) :
    ∀ (i : Nat) (x y : List Int), l.length + 1 - i = m → i ≤ l.length + 1 → Ins (l.take i) (w.take i) x y → x.length = y.length → x.length ≤ 101 * i → Ev (fun k => selvedgelaw18_NeutralPassed.l0 k l a s e at_ x y w i) true := by
  have hwl : w.length = l.length := by rw [← hw, A.nRes_length]
  induction m with
  | zero =>
    intro i x y hm hi hI hxy hx
    refine E.succ ?_
    simp only [selvedgelaw18_NeutralPassed.l0]
    have e1 : l.take i = l := List.take_of_length_le (by omega)
    have e2 : w.take i = w := List.take_of_length_le (by omega)
    rw [e1, e2] at hI
    refine E.neg (by omega) (E.bno (resolve_some _ _ (by omega) h0 h1) (E.bnd (A.is_eq (hI.res _ _ _ hw) (by rw [A.nRes_length]; omega)) (E.pos rfl (E.bnd A.works_ev (E.ret rfl)))))
  | succ m ih =>
    intro i x y hm hi hI hxy hx
    refine E.succ ?_
    simp only [selvedgelaw18_NeutralPassed.l0]
    refine E.pos (by omega) ?_
    suffices h : ∀ (d j : Nat) (x y : List Int), at_.length - j = d → j ≤ at_.length → Ins (l.take i) (w.take i) x y → x.length = y.length → x.length ≤ 101 * i + j → Ev (fun k => selvedgelaw18_NeutralPassed.l1 k l a s e at_ x y w i j) true from h at_.length 0 x y (by omega) (by omega) hI hxy (by omega)
    intro d
    induction d with
    | zero =>
      intro j x y hd hj hI hxy hx
      refine E.succ ?_
      simp only [selvedgelaw18_NeutralPassed.l1]
      refine E.neg (by omega) ?_
      rw [E.w64 (x := (i : Int) + 1) (by omega) (by omega)]
      by_cases hil : i < l.length
      · refine E.pos (by omega) (E.pos (by omega) (E.pos (by omega) (E.pos (by omega) (E.pos (by omega) ?_))))
        have hI2 := hI.append (.both (rd l i) (rd w i) .nil)
        have t1 : l.take i ++ [rd l i] = l.take (i + 1) := by rw [List.take_succ_eq_append_getElem hil, E.rd_get hil]
        have t2 : w.take i ++ [rd w i] = w.take (i + 1) := by rw [List.take_succ_eq_append_getElem (by omega), E.rd_get (by omega)]
        rw [t1, t2] at hI2
        exact ih (i + 1) _ _ (by omega) (by omega) hI2 (by simp [hxy]) (by simp; omega)
      · refine E.neg (by omega) ?_
        have t1 : l.take i = l.take (i + 1) := by rw [List.take_of_length_le (by omega), List.take_of_length_le (by omega)]
        have t2 : w.take i = w.take (i + 1) := by rw [List.take_of_length_le (by omega), List.take_of_length_le (by omega)]
        rw [t1, t2] at hI
        exact ih (i + 1) _ _ (by omega) (by omega) hI hxy (by omega)
    | succ d ihd =>
      intro j x y hd hj hI hxy hx
      refine E.succ ?_
      simp only [selvedgelaw18_NeutralPassed.l1]
      refine E.pos (by omega) (E.pos (by omega) ?_)
      rw [E.w64 (x := (l.length : Int) + 1) (by omega) (by omega), E.w64 (x := (j : Int) + 1) (by omega) (by omega)]
      refine E.neg (by omega) ?_
      by_cases hq : Int.tmod (wrap64 (rd at_ j)) ((l.length : Int) + 1) = i
      · refine E.pos hq (E.pos (by omega) (E.pos (by omega) ?_))
        have hI2 := hI.append (.put .nil)
        rw [List.append_nil, List.append_nil] at hI2
        exact ihd (j + 1) _ _ (by omega) (by omega) hI2 (by simp [hxy]) (by simp; omega)
      · exact E.neg hq (ihd (j + 1) _ _ (by omega) (by omega) hI hxy (by omega))

theorem NeutralPassed : selvedgelaw18_NeutralPassed.Pure := by
  intro l a s e at_ hm hy hw ha hs he hm4 hy4 hw4
  have h0 := E.u8_lo ha
  refine E.out ?_
  have hj0 : ∀ b : Bool, (b = false → l.length ≤ 1500 ∧ at_.length ≤ 100) → Ev (fun k => selvedgelaw18_NeutralPassed.j0 k l a s e at_ b) true := by
    intro b hb
    refine E.succ ?_
    simp only [selvedgelaw18_NeutralPassed.j0]
    cases b with
    | true => exact E.pos rfl (E.bnd A.works_ev (E.ret rfl))
    | false =>
      obtain ⟨q0, q1⟩ := hb rfl
      refine E.neg (by simp) (E.bno (resolve_some _ _ (by omega) h0.1 h0.2) (E.pos (by rw [A.nRes_length]) ?_))
      exact loops l a s e at_ h0.1 h0.2 q0 q1 _ rfl _ 0 [] [] rfl (by omega) .nil rfl (by simp)
  unfold selvedgelaw18_NeutralPassed.f
  by_cases h : (l.length : Int) > 1500
  · exact E.pos h (hj0 true (fun hb => by cases hb))
  · refine E.neg h (hj0 _ (fun hb => ?_))
    have : ¬ ((at_.length : Int) > 100) := of_decide_eq_false hb
    omega
end Go.Proofs.Ytknfniggnobaaaa.Pure
