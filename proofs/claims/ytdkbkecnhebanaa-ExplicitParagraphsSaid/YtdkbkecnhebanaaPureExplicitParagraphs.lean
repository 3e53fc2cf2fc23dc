/- What a B parts is as if each part stood alone, with the base of the whole: a B begins the stack anew, and nothing looks past it. -/
import Derived.Test.YtdkbkecnhebanaaX3
import Derived.Test.YtdkbkecnhebanaaG
import Derived.Test.YtdkbkecnhebanaaH
import Derived.Test.YtdkbkecnhebanaaE
namespace Go.Proofs.Ytdkbkecnhebanaa.Pure
open Go.RowKit Go.Proofs.Ytdkbkecnhebanaa Go.Proofs.Ytdkbkecnhebanaa.X Go.Proofs.YtdkbkecnhebanaaW.PrintWords Go.Proofs.YtdkbkecnhebanaaW.PrintLast
set_option linter.unusedVariables false
set_option linter.unusedSimpArgs false
theorem ExplicitParagraphs : selvedgelaw14_ExplicitParagraphs.Pure := by
  intro a b base _ _ _ _ _ _ hb
  apply E.out
  have h0 := u8_nonneg hb
  have main : ¬ ((a.length : Int) > 1000) → ¬ ((b.length : Int) > 1000) → Ev (fun k => selvedgelaw14_ExplicitParagraphs.j0 k a b base false) true := fun q1 q2 => by
    refine E.succ ?_
    refine E.pos (by simp; omega) (E.bno rfl (E.pos (by simp; omega) (E.bno rfl (E.pos (by simp; omega) (E.bno (lvRes_some _ base h0) ?_)))))
    simp only [List.nil_append, List.append_assoc, List.singleton_append]
    by_cases hz : (lvRes (a ++ 11 :: b) base).2.2.2 = 0
    · obtain ⟨hv, hb2, e⟩ := lvRes_zero _ base (by simp; omega) hz
      have hn := lvBase01 (a ++ 11 :: b) base h0 hb2
      rw [e]
      generalize lvBase (a ++ 11 :: b) base = n at hn
      have hva : a.all okC = true := by rw [List.all_append] at hv; exact (Bool.and_eq_true _ _ ▸ hv).1
      have hvb : b.all okC = true := by
        rw [List.all_append, List.all_cons] at hv
        simp only [Bool.and_eq_true] at hv
        exact hv.2.2
      have ea := lvRes_is a n (by omega) hva (by omega)
      have eb := lvRes_is b n (by omega) hvb (by omega)
      rw [lvBase_own n (by omega)] at ea eb
      have hx : explicit_Levels.f a n = _ := (lvRes_some a n (by omega)).trans (congrArg some ea)
      have hy : explicit_Levels.f b n = _ := (lvRes_some b n (by omega)).trans (congrArg some eb)
      refine E.pos rfl (E.bno hx (E.bno hy ?_))
      refine E.pos (by simp [runL_len]; omega) (E.bno rfl (E.pos (by simp [runL_len]; omega) (E.bno rfl (E.pos (by simp [runL_len]; omega) (E.pos (by simp [runL_len]; omega) (E.pos rfl (E.pos rfl (E.pos rfl (E.pos rfl ?_)))))))))
      have k1 : (runL n (a ++ 11 :: b) (newA n) n).map (fun x => x.1) = ((runL n a (newA n) n).map (fun x => x.1) ++ [n]) ++ (runL n b (newA n) n).map (fun x => x.1) := by rw [runL_B]; simp
      have k2 : (runL n (a ++ 11 :: b) (newA n) n).map (fun x => x.2) = ((runL n a (newA n) n).map (fun x => x.2) ++ [11]) ++ (runL n b (newA n) n).map (fun x => x.2) := by rw [runL_B]; simp
      rw [← k1, ← k2]
      exact E.bnd (same_ev _ _ (by simp [runL_len]; omega)) (E.pos rfl works_then)
    · exact E.neg hz works_then
  have big : Ev (fun k => selvedgelaw14_ExplicitParagraphs.j0 k a b base true) true := by
    refine E.succ ?_
    exact works_then
  by_cases q1 : (a.length : Int) > 1000
  · exact E.pos q1 big
  · refine E.neg q1 ?_
    by_cases q2 : (b.length : Int) > 1000
    · rw [decide_eq_true q2]; exact big
    · rw [decide_eq_false q2]; exact main q1 q2
end Go.Proofs.Ytdkbkecnhebanaa.Pure
