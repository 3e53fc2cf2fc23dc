import Derived.Test.YtdmkbaebcopjfaaX3
import Derived.Test.YtdmkbaebcopjfaaB
namespace Go.Proofs.Ytdmkbaebcopjfaa.Pure
open Go.RowKit Go.Proofs.Ytdmkbaebcopjfaa.X Go.Proofs.YtdmkbaebcopjfaaW.PrintWords Go.Proofs.YtdmkbaebcopjfaaW.PrintLast Go.Proofs.Ytdmkbaebcopjfaa Go.Proofs.Ytdmkbaebcopjfaa.A
set_option linter.unusedVariables false
set_option linter.unusedSimpArgs false

theorem RunesL1 (s : ByteArray) (l : List Int) (n : Int) (hl : l.length ≤ 70000) (r : Bool) (k0 : Ev (fun k => selvedgelaw02_UtfRunes.l0 k s l (wrap64 (n + 1))) r) : ∀ (d : Nat) (i : Int) (y : List Int), 0 ≤ i → i + d = l.length → y.length = l.length → (∀ j : Int, i ≤ j → j < l.length → rd y j = rd l j) → Ev (fun k => selvedgelaw02_UtfRunes.l1 k s l n y i) r := by
  intro d
  induction d with
  | zero =>
    intro i y h0 h1 h2 h3
    refine E.succ ?_
    simp only [selvedgelaw02_UtfRunes.l1]
    exact E.neg (by omega) k0
  | succ d ih =>
    intro i y h0 h1 h2 h3
    refine E.succ ?_
    simp only [selvedgelaw02_UtfRunes.l1]
    refine E.pos (by omega) (E.pos h0 (E.pos (by omega) (E.pos (h3 i (Int.le_refl _) (by omega)) ?_)))
    rw [E.w64 (by omega) (by omega)]
    refine ih (i + 1) _ (by omega) (by omega) (by rw [List.length_set]; exact h2) (fun j hj1 hj2 => ?_)
    rw [E.rd_set h0 (by omega) (by omega), if_neg (by omega)]
    exact h3 j (by omega) hj2

theorem UtfRunes : selvedgelaw02_UtfRunes.Pure := by
  intro s h1
  refine E.out ?_
  unfold selvedgelaw02_UtfRunes.f
  by_cases c : (s.size : Int) > 70000
  · exact E.pos c (E.bno rfl (E.ret rfl))
  refine E.neg c (E.bnd (Runes_ev s (by omega)) ?_)
  have hl := rrF_len s.size s
  have hr : utf_Runes.f s = some (rrF s.size s) := by
    unfold utf_Runes.f
    rw [if_pos (by omega), runV_rr]
  have last : ∀ n : Int, ¬ n < 2 → Ev (fun k => selvedgelaw02_UtfRunes.l0 k s (rrF s.size s) n) true := by
    intro n hn
    refine E.succ ?_
    simp only [selvedgelaw02_UtfRunes.l0]
    exact E.neg hn (E.bno rfl (E.ret rfl))
  have one : ∀ n : Int, n < 2 → Ev (fun k => selvedgelaw02_UtfRunes.l0 k s (rrF s.size s) (wrap64 (n + 1))) true → Ev (fun k => selvedgelaw02_UtfRunes.l0 k s (rrF s.size s) n) true := by
    intro n hn k0
    refine E.succ ?_
    simp only [selvedgelaw02_UtfRunes.l0]
    refine E.pos hn (E.bno hr (E.pos rfl ?_))
    exact RunesL1 s _ n (by omega) true k0 (rrF s.size s).length 0 _ (by omega) (by omega) rfl (fun _ _ _ => rfl)
  have w1 : wrap64 (0 + 1) = 1 := by unfold wrap64; rfl
  have w2 : wrap64 (1 + 1) = 2 := by unfold wrap64; rfl
  exact one 0 (by decide) (by rw [w1]; exact one 1 (by decide) (by rw [w2]; exact last 2 (by decide)))

end Go.Proofs.Ytdmkbaebcopjfaa.Pure
