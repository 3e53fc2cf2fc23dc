/- Classes without controls have all the paragraph's level, and stay what they are: the stack stays the first entry. -/
import Derived.Test.YtdkbkecnhebanaaX4
import Derived.Test.YtdkbkecnhebanaaG
import Derived.Test.YtdkbkecnhebanaaH
import Derived.Test.YtdkbkecnhebanaaE
namespace Go.Proofs.Ytdkbkecnhebanaa.Pure
open Go.RowKit Go.Proofs.Ytdkbkecnhebanaa Go.Proofs.Ytdkbkecnhebanaa.X Go.Proofs.YtdkbkecnhebanaaW.PrintWords Go.Proofs.YtdkbkecnhebanaaW.PrintLast
set_option linter.unusedVariables false
set_option linter.unusedSimpArgs false
theorem plain_l1 (c : List Int) (n : Int) (hc : c.length ≤ 1000000) (hp : ∀ x ∈ c, plC x) : ∀ (d : Nat) (i : Int), 0 ≤ i → i ≤ c.length → c.length - i.toNat ≤ d →
    Ev (fun k => selvedgelaw14_ExplicitPlain.l1 k c ((c.map fun x => (n, if x = 19 then (10 : Int) else x)).map fun x => x.1) ((c.map fun x => (n, if x = 19 then (10 : Int) else x)).map fun x => x.2) n i) true := by
  intro d
  induction d with
  | zero => intro i h0 h1 h2; exact E.succ (E.neg (by omega) works_then)
  | succ d ih =>
    intro i h0 h1 h2
    by_cases h : i < (c.length : Int)
    · have e1 : rd ((c.map fun x => (n, if x = 19 then (10 : Int) else x)).map fun x => x.1) i = n := by
        obtain ⟨m, rfl⟩ := Int.eq_ofNat_of_zero_le h0
        rw [E.rd_get (by simp; omega)]; simp
      have e2 : rd ((c.map fun x => (n, if x = 19 then (10 : Int) else x)).map fun x => x.2) i = if rd c i = 19 then 10 else rd c i := by
        obtain ⟨m, rfl⟩ := Int.eq_ofNat_of_zero_le h0
        rw [E.rd_get (by simp; omega), E.rd_get (by omega)]; simp
      refine E.succ (E.pos h (E.pos h0 (E.pos (by simp; omega) (E.pos e1 ?_))))
      by_cases q : rd c i = 19
      · refine E.pos q (E.pos (by simp; omega) (E.pos (by rw [e2, if_pos q]) ?_))
        rw [E.w64 (by omega) (by omega)]
        exact ih (i + 1) (by omega) (by omega) (by omega)
      · refine E.neg q (E.pos (by simp; omega) (E.pos (by rw [e2, if_neg q]) ?_))
        rw [E.w64 (by omega) (by omega)]
        exact ih (i + 1) (by omega) (by omega) (by omega)
    · exact E.succ (E.neg h works_then)
theorem plain_end (c : List Int) (hc : c.length ≤ 60000) (hp : ∀ x ∈ c, plC x) (base : Int) (h0 : 0 ≤ base) (h2 : base ≤ 2) : Ev (fun k => (explicit_Levels.f c base).bind fun bt379 => (if bt379.2.2.2 = 0 then (if (bt379.1.length : Int) = (c.length : Int) then (if (bt379.2.1.length : Int) = (c.length : Int) then (if base < 2 then (if bt379.2.2.1 = base then (if base = 2 then ((explicit_Base.f k c).bind fun t387 => (selvedgelaw14_ExplicitPlain.j2 k c bt379.1 bt379.2.1 bt379.2.2.1 (bt379.2.2.1 != t387))) else (selvedgelaw14_ExplicitPlain.j2 k c bt379.1 bt379.2.1 bt379.2.2.1 false)) else (selvedgelaw14_ExplicitPlain.j2 k c bt379.1 bt379.2.1 bt379.2.2.1 true)) else (if base = 2 then ((explicit_Base.f k c).bind fun t388 => (selvedgelaw14_ExplicitPlain.j2 k c bt379.1 bt379.2.1 bt379.2.2.1 (bt379.2.2.1 != t388))) else (selvedgelaw14_ExplicitPlain.j2 k c bt379.1 bt379.2.1 bt379.2.2.1 false))) else (selvedgelaw14_ExplicitPlain.j2 k c bt379.1 bt379.2.1 bt379.2.2.1 true)) else (selvedgelaw14_ExplicitPlain.j2 k c bt379.1 bt379.2.1 bt379.2.2.1 true)) else (selvedgelaw14_ExplicitPlain.j2 k c bt379.1 bt379.2.1 bt379.2.2.1 true))) true := by
  have hv : c.all okC = true := by
    rw [List.all_eq_true]
    intro x hx
    have := hp x hx
    unfold plC at this
    unfold okC
    exact decide_eq_true (by omega)
  have e := lvRes_is c base (by omega) hv h2
  rw [runL_plain _ c hp] at e
  refine E.bno ((lvRes_some c base h0).trans (congrArg some e)) (E.pos rfl (E.pos (by simp) (E.pos (by simp) ?_)))
  have fin : Ev (fun k => selvedgelaw14_ExplicitPlain.j2 k c ((c.map fun x => (lvBase c base, if x = 19 then (10 : Int) else x)).map fun x => x.1) ((c.map fun x => (lvBase c base, if x = 19 then (10 : Int) else x)).map fun x => x.2) (lvBase c base) false) true := by
    refine E.succ ?_
    exact plain_l1 c _ (by omega) hp c.length 0 (by omega) (by omega) (by omega)
  by_cases q : base < 2
  · exact E.pos q (E.pos (lvBase_own base (by omega)) (E.neg (by omega) fin))
  · refine E.neg q (E.pos (by omega) (E.bnd (base_f c (by omega)) ?_))
    have e2 : lvBase c base = if dirS false c 0 = true then 1 else 0 := by unfold lvBase; rw [if_pos (by omega)]
    rw [← e2, show (lvBase c base != lvBase c base) = false by simp]
    exact fin
theorem plain_l0 (l : List Int) (hl : l.length ≤ 60000) (base : Int) (hb0 : 0 ≤ base) (hb2 : base ≤ 2) : ∀ (d : Nat) (i : Int) (c : List Int), 0 ≤ i → i ≤ l.length → l.length - i.toNat ≤ d → (∀ x ∈ c, plC x) → c.length ≤ i.toNat → Ev (fun k => selvedgelaw14_ExplicitPlain.l0 k l base c i) true := by
  intro d
  induction d with
  | zero => intro i c h0 h1 h2 hp hc; exact E.succ (E.neg (by omega) (plain_end c (by omega) hp base hb0 hb2))
  | succ d ih =>
    intro i c h0 h1 h2 hp hc
    by_cases h : i < (l.length : Int)
    · refine E.succ (E.pos h (E.pos h0 ?_))
      have hw : wrap64 (i + 1) = i + 1 := E.w64 (by omega) (by omega)
      have add : plC (rd l i) → Ev (fun k => selvedgelaw14_ExplicitPlain.l0 k l base (c ++ [rd l i]) (wrap64 (i + 1))) true := fun hq => by
        rw [hw]
        refine ih (i + 1) _ (by omega) (by omega) (by omega) (fun x hx => ?_) (by simp; omega)
        rcases List.mem_append.1 hx with hx | hx
        · exact hp x hx
        · rw [List.mem_singleton.1 hx]; exact hq
      have skip : Ev (fun k => selvedgelaw14_ExplicitPlain.l0 k l base c (wrap64 (i + 1))) true := by
        rw [hw]
        exact ih (i + 1) c (by omega) (by omega) (by omega) hp (by omega)
      have hcl : c.length < 140737488355328 := by omega
      by_cases q1 : rd l i ≥ 1
      · refine E.pos q1 ?_
        by_cases q2 : rd l i ≤ 14
        · exact E.pos q2 (E.pos hcl (add (.inl ⟨q1, q2⟩)))
        · refine E.neg q2 ?_
          by_cases q3 : rd l i = 23
          · exact E.pos q3 (E.pos hcl (add (.inr (.inl q3))))
          · refine E.neg q3 ?_
            by_cases q4 : rd l i = 19
            · exact E.pos q4 (E.pos hcl (add (.inr (.inr q4))))
            · exact E.neg q4 skip
      · refine E.neg q1 ?_
        by_cases q3 : rd l i = 23
        · exact E.pos q3 (E.pos hcl (add (.inr (.inl q3))))
        · refine E.neg q3 ?_
          by_cases q4 : rd l i = 19
          · exact E.pos q4 (E.pos hcl (add (.inr (.inr q4))))
          · exact E.neg q4 skip
    · exact E.succ (E.neg h (plain_end c (by omega) hp base hb0 hb2))
theorem ExplicitPlain : selvedgelaw14_ExplicitPlain.Pure := by
  intro l base _ _ _ hb
  apply E.out
  have h0 := u8_nonneg hb
  have big : Ev (fun k => selvedgelaw14_ExplicitPlain.j0 k l base true) true := by
    refine E.succ ?_
    exact works_then
  by_cases q1 : (l.length : Int) > 2000
  · exact E.pos q1 big
  · refine E.neg q1 ?_
    by_cases q2 : base > 2
    · rw [decide_eq_true q2]; exact big
    · rw [decide_eq_false q2]
      refine E.succ ?_
      exact plain_l0 l (by omega) base h0 (by omega) l.length 0 [] (by omega) (by omega) (by omega) (fun c hc => by simp at hc) (by simp)
end Go.Proofs.Ytdkbkecnhebanaa.Pure
