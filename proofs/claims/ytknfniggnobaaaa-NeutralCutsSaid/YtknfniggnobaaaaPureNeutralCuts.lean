/- The statement NeutralCuts of chapter 18: whatever two rows, side, level, sos and eos come in, the law answers true: an L or an R parts a row, and what is resolved stays when it is resolved again (for a row of more than 1500 classes: the short call alone). -/
import Derived.Test.YtknfniggnobaaaaB
namespace Go.Proofs.Ytknfniggnobaaaa.Pure
open Go.RowKit Go.Proofs.Ytknfniggnobaaaa.X Go.Proofs.YtknfniggnobaaaaW.PrintWords Go.Proofs.YtknfniggnobaaaaW.PrintLast Go.Proofs.Ytknfniggnobaaaa
set_option linter.unusedVariables false
set_option linter.unusedSimpArgs false

theorem behind_cut (e c : Int) (hc : c = 1 ∨ c = 2) (a b : List Int) : nBehind e (a ++ c :: b) = nBehind c a := by
  induction a with
  | nil => rcases hc with h | h <;> subst h <;> rfl
  | cons x a ih => rw [List.cons_append, nBehind, nBehind, ih]
theorem cut (s e c : Int) (hc : c = 1 ∨ c = 2) (b a : List Int) : ∀ d, nRes s e d (a ++ c :: b) = nRes s c d a ++ c :: nRes s e c b := by
  induction a with
  | nil =>
    intro d
    rw [List.nil_append, nRes, nRes]
    rcases hc with h | h <;> subst h <;> rfl
  | cons x a ih =>
    intro d
    rw [List.cons_append, nRes, nRes, behind_cut e c hc]
    by_cases h10 : x = 10
    · rw [if_pos h10, if_pos h10, ih, List.cons_append]
    · rw [if_neg h10, if_neg h10]
      by_cases hi : nIs x = true
      · rw [if_pos hi, if_pos hi, ih, List.cons_append]
      · rw [if_neg hi, if_neg hi, ih, List.cons_append]
theorem stays (s e : Int) (l : List Int) : ∀ d, (∀ c ∈ l, c = 10 ∨ nIs c = false) → nRes s e d l = l := by
  induction l with
  | nil => intro d _; rfl
  | cons c l ih =>
    intro d h
    rw [nRes]
    by_cases h10 : c = 10
    · rw [if_pos h10, ih _ (fun x hx => h x (List.mem_cons_of_mem _ hx)), h10]
    · have hi : nIs c = false := (h c List.mem_cons_self).resolve_left h10
      rw [if_neg h10, hi, if_neg (by simp), ih _ (fun x hx => h x (List.mem_cons_of_mem _ hx))]
theorem small_not {d : Int} (h : d = 0 ∨ d = 1 ∨ d = 2) : nIs d = false := by
  rcases h with h | h | h <;> subst h <;> rfl
theorem dir_small (c : Int) : nDir c = 0 ∨ nDir c = 1 ∨ nDir c = 2 := by
  unfold nDir
  split
  · rename_i h; omega
  · split <;> simp
theorem resolved (s e : Int) (hs : s = 1 ∨ s = 2) (l : List Int) : ∀ d, (d = 0 ∨ d = 1 ∨ d = 2) → ∀ c ∈ nRes s e d l, c = 10 ∨ nIs c = false := by
  induction l with
  | nil => intro d _ c h; simp [nRes] at h
  | cons x l ih =>
    intro d hd c h
    rw [nRes] at h
    by_cases h10 : x = 10
    · rw [if_pos h10] at h
      rcases List.mem_cons.1 h with h | h
      · exact .inl h
      · exact ih d hd c h
    · rw [if_neg h10] at h
      by_cases hi : nIs x = true
      · rw [if_pos hi] at h
        rcases List.mem_cons.1 h with h | h
        · right
          rw [h]
          split
          · exact small_not hd
          · exact small_not (.inr hs)
        · exact ih d hd c h
      · rw [if_neg hi] at h
        rcases List.mem_cons.1 h with h | h
        · right
          rw [h]
          simpa using hi
        · exact ih _ (dir_small x) c h
theorem edge_small (c : Int) : nEdge c = 0 ∨ nEdge c = 1 ∨ nEdge c = 2 := by
  unfold nEdge
  split <;> simp
theorem side_small (a : Int) : (if a % 2 = 1 then (2 : Int) else 1) = 1 ∨ (if a % 2 = 1 then (2 : Int) else 1) = 2 := by split <;> simp
theorem resolve_some {l : List Int} {a : Int} (s e : Int) (hl : l.length < 140737488355328) (h0 : 0 ≤ a) (h1 : a ≤ 255) : neutral_Resolve.f l a s e = some (nRes (if a % 2 = 1 then 2 else 1) (nEdge e) (nEdge s) l) := by
  unfold neutral_Resolve.f
  rw [if_pos ⟨hl, h0, h1⟩]
theorem own_some {l : List Int} (hl : l.length < 140737488355328) : selvedgelaw18_own.f l = some l := by
  unfold selvedgelaw18_own.f
  rw [if_pos (by simpa using hl), List.nil_append]

theorem NeutralCuts : selvedgelaw18_NeutralCuts.Pure := by
  intro l0 l1 right a s e hm0 hy0 hw0 hm1 hy1 hw1 ha hs he
  have h0 := E.u8_lo ha
  refine E.out ?_
  have hj1 : ∀ c : Int, (c = 1 ∨ c = 2) → l0.length ≤ 1500 → l1.length ≤ 1500 → Ev (fun k => selvedgelaw18_NeutralCuts.j1 k l0 l1 a s e c) true := by
    intro c hc hl0 hl1
    have hec : nEdge c = c := by rcases hc with h | h <;> subst h <;> rfl
    refine E.succ ?_
    simp only [selvedgelaw18_NeutralCuts.j1]
    refine E.bno (own_some (by omega)) (E.pos (by omega) (E.bno rfl (E.bno (resolve_some _ _ (by omega) h0.1 h0.2) (E.bno (own_some (by rw [A.nRes_length]; omega)) (E.pos (by rw [A.nRes_length]; omega) (E.bno rfl (E.pos (by simp; omega) (E.bno (resolve_some _ _ (by omega) h0.1 h0.2) (E.pos (by simp [A.nRes_length]; omega) (E.bno (resolve_some _ _ (by simp; omega) h0.1 h0.2) ?_))))))))))
    have hcut := cut (if a % 2 = 1 then 2 else 1) (nEdge e) c hc l1 l0 (nEdge s)
    refine E.bnd (A.is_eq ?_ (by rw [A.nRes_length]; simp; omega)) (E.pos rfl (E.bno (resolve_some _ _ (by rw [A.nRes_length]; simp; omega) h0.1 h0.2) (E.bnd (A.is_eq ?_ (by rw [A.nRes_length, A.nRes_length]; simp; omega)) (E.pos rfl (E.bnd A.works_ev (E.ret rfl))))))
    · rw [List.append_assoc, List.append_assoc, List.singleton_append, List.singleton_append, hcut, hec]
    · exact stays _ _ _ _ (resolved _ _ (side_small a) _ _ (edge_small s))
  have hj0 : ∀ b : Bool, (b = false → l0.length ≤ 1500 ∧ l1.length ≤ 1500) → Ev (fun k => selvedgelaw18_NeutralCuts.j0 k l0 l1 right a s e b) true := by
    intro b hb
    refine E.succ ?_
    simp only [selvedgelaw18_NeutralCuts.j0]
    cases b with
    | true => exact E.pos rfl (E.bnd A.works_ev (E.ret rfl))
    | false =>
      obtain ⟨q0, q1⟩ := hb rfl
      refine E.neg (by simp) ?_
      cases right with
      | true => exact E.pos rfl (hj1 2 (.inr rfl) q0 q1)
      | false => exact E.neg (by simp) (hj1 1 (.inl rfl) q0 q1)
  unfold selvedgelaw18_NeutralCuts.f
  by_cases h : (l0.length : Int) > 1500
  · exact E.pos h (hj0 true (fun hb => by cases hb))
  · refine E.neg h (hj0 _ (fun hb => ?_))
    have : ¬ ((l1.length : Int) > 1500) := of_decide_eq_false hb
    omega
end Go.Proofs.Ytknfniggnobaaaa.Pure
