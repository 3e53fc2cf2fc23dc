/- BreaksKnown: the chapter's closed statement holds: each of its calls is one of the laws, which hold for any items. -/
import Derived.Test.YthckihfkhmoafaaX11
import Derived.Test.YthckihfkhmoafaaY
namespace Go.Proofs.Ythckihfkhmoafaa.Pure
open Go.RowKit Go.Proofs.Ythckihfkhmoafaa.X Go.Proofs.YthckihfkhmoafaaW.PrintWords Go.Proofs.YthckihfkhmoafaaW.PrintLast Go.Proofs.Ythckihfkhmoafaa Go.Proofs.Ythckihfkhmoafaa.A
set_option linter.unusedVariables false
set_option linter.unusedSimpArgs false

theorem brItems_len (s : ByteArray) (wd : Int) : ∀ fuel pos, (brItems s wd fuel pos).length ≤ fuel := by
  intro fuel
  induction fuel with
  | zero => intro pos; simp [brItems]
  | succ f ih => intro pos; have := ih (pos + (Utf8.decode s pos).2); rw [brItems]; split <;> simp <;> omega
theorem kn_j8 (n : Nat) (x1 : Int) (x2 : ByteArray) (x3 x5 : Int) (x13 : List ByteArray) (x14 x15 : Int) (hn : n ≤ 1000) (h1 : x1 ≤ 9223372036854775807) (h5 : 0 ≤ x5) (h5' : x5 ≤ 10) (H : ∀ x4 : List S36, x4.length = n → Ev (fun k => selvedgelaw21_BreaksKnown.l2 k x1 x2 x3 x4 (x5 + 1) x13 x14 x15) true) (x4 : List S36) (hx : x4.length = n) :
    Ev (fun k => selvedgelaw21_BreaksKnown.j8 k x1 x2 x3 x4 x5 x13 x14 x15) true := by
  have H := H x4 hx
  refine E.succ ?_
  simp only [selvedgelaw21_BreaksKnown.j8]
  rw [E.w64 (x := x5 + 1) (by omega) (by omega)]
  refine E.bnd (breaksLines x4 x3 (by omega)) (E.pos (by simp) (E.bnd (breaksFit x4 x3 x1 h1) (E.pos (by simp) ?_)))
  by_cases c : x5 = 0
  · refine E.pos c ?_
    by_cases c2 : x3 < 9
    · exact E.pos c2 (E.bnd (breaksMeasures x4 _ _ (by omega)) (E.pos (by simp) H))
    · exact E.neg c2 H
  · exact E.neg c H
theorem kn_l2 (n : Nat) (x1 : Int) (x2 : ByteArray) (x3 : Int) (x13 : List ByteArray) (x14 x15 : Int) (hn : n ≤ 1000) (h1 : x1 ≤ 9223372036854775807) (H : Ev (fun k => selvedgelaw21_BreaksKnown.l1 k x1 x2 (wrap64 ((wrap64 (x3 + 1)) + (wrap64 (Int.tdiv x3 12)))) x13 x14 x15) true) :
    ∀ (d : Nat) (x5 : Int), x5 + d = 4 → 0 ≤ x5 → ∀ x4 : List S36, x4.length = n → Ev (fun k => selvedgelaw21_BreaksKnown.l2 k x1 x2 x3 x4 x5 x13 x14 x15) true := by
  intro d
  induction d with
  | zero =>
    intro x5 h5 h0 x4 hx
    refine E.succ ?_
    simp only [selvedgelaw21_BreaksKnown.l2]
    exact E.neg (by omega) H
  | succ d ih =>
    intro x5 h5 h0 x4 hx
    have s8 := kn_j8 n x1 x2 x3 x5 x13 x14 x15 hn h1 h0 (by omega) (ih (x5 + 1) (by omega) (by omega))
    have s7 : ∀ c (x4 : List S36), x4.length = n → (c = true → 3 < n) → Ev (fun k => selvedgelaw21_BreaksKnown.j7 k x1 x2 x3 x4 x5 x13 x14 x15 c) true := by
      intro c x4 hx hc
      refine E.succ ?_
      simp only [selvedgelaw21_BreaksKnown.j7]
      cases c with
      | false => exact E.neg (by decide) (s8 x4 hx)
      | true => have := hc rfl; exact E.pos (by simp) (E.pos (by omega) (s8 _ (by simp [hx])))
    have s6 : ∀ (x4 : List S36), x4.length = n → Ev (fun k => selvedgelaw21_BreaksKnown.j6 k x1 x2 x3 x4 x5 x13 x14 x15) true := by
      intro x4 hx
      refine E.succ ?_
      simp only [selvedgelaw21_BreaksKnown.j6]
      by_cases c : x5 = 3
      · exact E.pos c (s7 _ x4 hx (fun h => by have := of_decide_eq_true h; omega))
      · exact E.neg c (s7 _ x4 hx (fun h => by cases h))
    have s5 : ∀ c (x4 : List S36), x4.length = n → (c = true → 2 < n) → Ev (fun k => selvedgelaw21_BreaksKnown.j5 k x1 x2 x3 x4 x5 x13 x14 x15 c) true := by
      intro c x4 hx hc
      refine E.succ ?_
      simp only [selvedgelaw21_BreaksKnown.j5]
      cases c with
      | false => exact E.neg (by decide) (s6 x4 hx)
      | true => have := hc rfl; exact E.pos (by simp) (E.pos (by omega) (s6 _ (by simp [hx])))
    have s4 : ∀ (x4 : List S36), x4.length = n → Ev (fun k => selvedgelaw21_BreaksKnown.j4 k x1 x2 x3 x4 x5 x13 x14 x15) true := by
      intro x4 hx
      refine E.succ ?_
      simp only [selvedgelaw21_BreaksKnown.j4]
      by_cases c : x5 = 2
      · exact E.pos c (s5 _ x4 hx (fun h => by have := of_decide_eq_true h; omega))
      · exact E.neg c (s5 _ x4 hx (fun h => by cases h))
    have s3 : ∀ c (x4 : List S36), x4.length = n → (c = true → 2 < n) → Ev (fun k => selvedgelaw21_BreaksKnown.j3 k x1 x2 x3 x4 x5 x13 x14 x15 c) true := by
      intro c x4 hx hc
      refine E.succ ?_
      simp only [selvedgelaw21_BreaksKnown.j3]
      cases c with
      | false => exact E.neg (by decide) (s4 x4 hx)
      | true =>
        have := hc rfl
        refine E.pos (by simp) (E.pos (by omega) ?_)
        try simp only [Option.bind_some]
        exact E.pos (by first | omega | (simp; omega)) (s4 _ (by simp [hx]))
    refine E.succ ?_
    simp only [selvedgelaw21_BreaksKnown.l2]
    refine E.pos (by omega) ?_
    by_cases c : x5 = 1
    · exact E.pos c (s3 _ x4 hx (fun h => by have := of_decide_eq_true h; omega))
    · exact E.neg c (s3 _ x4 hx (fun h => by cases h))
theorem kn_l1 (x1 : Int) (x2 : ByteArray) (x13 : List ByteArray) (x14 x15 : Int) (hs : x2.size ≤ 1000) (h1 : x1 ≤ 9223372036854775807) (H : Ev (fun k => selvedgelaw21_BreaksKnown.l0 k x13 x14 (wrap64 (x15 + 1))) true) :
    ∀ (d : Nat) (x3 : Int), 91 - x3 ≤ d → 0 ≤ x3 → Ev (fun k => selvedgelaw21_BreaksKnown.l1 k x1 x2 x3 x13 x14 x15) true := by
  intro d
  induction d with
  | zero =>
    intro x3 h3 h0
    refine E.succ ?_
    simp only [selvedgelaw21_BreaksKnown.l1]
    exact E.neg (by omega) H
  | succ d ih =>
    intro x3 h3 h0
    refine E.succ ?_
    simp only [selvedgelaw21_BreaksKnown.l1]
    by_cases c : x3 ≤ 90
    · refine E.pos c (E.bno (a := brItems x2 10 x2.size 0) ?_ ?_)
      · unfold selvedgelaw21_items.f
        rw [if_pos (by omega)]
      · have hlen := brItems_len x2 10 x2.size 0
        refine kn_l2 _ x1 x2 x3 x13 x14 x15 (by omega) h1 ?_ 4 0 (by omega) (by omega) _ rfl
        have ht : Int.tdiv x3 12 = x3 / 12 := Int.tdiv_eq_ediv_of_nonneg h0
        rw [ht, E.w64 (x := x3 + 1) (by omega) (by omega), E.w64 (x := x3 / 12) (by omega) (by omega), E.w64 (by omega) (by omega)]
        exact ih _ (by omega) (by omega)
    · exact E.neg c H
theorem rdz (n : Nat) (i : Int) : rd_T36 (List.replicate n z36) i = z36 := by
  unfold rd_T36
  rw [List.getD_eq_getElem?_getD, List.getElem?_replicate]
  split <;> rfl
theorem lines_zero (n : Nat) : brLines (List.replicate n z36) 1 = [0] := by
  have hok : (List.replicate n z36).any brBad = false := by
    rw [List.any_eq_false]
    intro x hx
    rw [(List.mem_replicate.1 hx).2]
    decide
  obtain ⟨L, hL, hc⟩ := lines_chain hok 1
  have hno : ∀ j, 1 ≤ j → ¬ (brMay (List.replicate n z36) j || brMust (List.replicate n z36) j) = true := by
    intro j _
    unfold brMay brMust
    rw [rdz, rdz]
    decide
  have hk : Chain (List.replicate n z36) 1 0 [] := by
    by_cases h : n = 0
    · exact .past 0 (by simp [h])
    · refine .last 0 ⟨by simp; omega, Int.le_refl _, .inl rfl, fun j a b hf => ?_, .inr fun j a b hcj => ?_, .inr fun j a b => by omega⟩
      · exact hno j (by omega) (by rw [hf.2.2, Bool.or_true])
      · rcases hcj with q | q
        · omega
        · exact hno j q.1 q.2.2
  rw [hL, hc.uniq hk]
theorem kn_j10 (x6 x8 a b c d : Int) (h0 : 0 ≤ x6) (h1 : x6 ≤ 20) (H : Ev (fun k => selvedgelaw21_BreaksKnown.l3 k (x6 + 1)) true) : Ev (fun k => selvedgelaw21_BreaksKnown.j10 k x6 x8 a b c d) true := by
  refine E.succ ?_
  simp only [selvedgelaw21_BreaksKnown.j10, Option.bind_some]
  rw [E.w64 (x := x6 + 1) (by omega) (by omega)]
  exact E.bnd (breaksLines _ x8 (by simp)) (E.pos (by simp) (E.bnd (breaksMeasures _ _ _ (by simp)) (E.pos (by simp) (E.bnd (breaksFit _ x8 1 (by decide)) (E.pos (by simp) (E.bnd (breaksMeasures _ _ _ (by simp)) (E.pos (by simp) H)))))))
theorem kn_l3 : ∀ (d : Nat) (x6 : Int), x6 + d = 12 → 0 ≤ x6 → Ev (fun k => selvedgelaw21_BreaksKnown.l3 k x6) true := by
  intro d
  induction d with
  | zero =>
    intro x6 h h0
    refine E.succ ?_
    simp only [selvedgelaw21_BreaksKnown.l3]
    refine E.neg (by omega) (E.pos (by decide) ?_)
    simp only [Option.bind_some]
    have hz : (List.replicate 65537 z36).length = 65537 := List.length_replicate
    have hd : (List.replicate 65537 z36).drop 1 = List.replicate 65536 z36 := by rw [List.drop_replicate]
    generalize hy : List.replicate 65537 z36 = y at hz hd
    refine E.pos (by omega) ?_
    rw [hd]
    refine E.bno (progLines (by rw [List.length_replicate]; decide) 1) ?_
    have hv : liV (List.replicate 65536 z36) 1 = ([0], 0) := by
      unfold liV
      have hok : (List.replicate 65536 z36).any brBad = false := by
        rw [List.any_eq_false]
        intro x hx
        rw [(List.mem_replicate.1 hx).2]
        decide
      rw [List.length_replicate, if_neg (by decide), hok, if_neg (by decide), if_neg (by decide), lines_zero]
    rw [hv]
    exact E.bnd (breaksLines y 1 (by omega)) (E.pos (by simp) (E.bnd (breaksMeasures y 0 0 (by omega)) (E.pos (by simp) (E.pos (by simp) (E.pos (by simp) (E.bnd works_ev (E.ret rfl)))))))
  | succ d ih =>
    intro x6 h h0
    have H := fun x8 a b c e => kn_j10 x6 x8 a b c e h0 (by omega) (ih (x6 + 1) (by omega) (by omega))
    refine E.succ ?_
    simp only [selvedgelaw21_BreaksKnown.l3]
    refine E.pos (by omega) ?_
    have pick : ∀ (p : Prop) [Decidable p] (f g : Nat → Option Bool), Ev f true → Ev g true → Ev (fun k => if p then f k else g k) true := by
      intro p _ f g hf hg
      by_cases c : p
      · exact E.pos c hf
      · exact E.neg c hg
    exact pick _ _ _ (H _ _ _ _ _) (pick _ _ _ (H _ _ _ _ _) (pick _ _ _ (H _ _ _ _ _) (pick _ _ _ (H _ _ _ _ _) (pick _ _ _ (H _ _ _ _ _) (pick _ _ _ (H _ _ _ _ _) (pick _ _ _ (H _ _ _ _ _) (pick _ _ _ (H _ _ _ _ _) (pick _ _ _ (H _ _ _ _ _) (pick _ _ _ (H _ _ _ _ _) (pick _ _ _ (H _ _ _ _ _) (H _ _ _ _ _)))))))))))
theorem kn_l0 (x13 : List ByteArray) (hs : ∀ x ∈ x13, x.size ≤ 1000) (hl : x13.length ≤ 1000) : ∀ (d : Nat) (x15 : Int), x15 + d = x13.length → 0 ≤ x15 → Ev (fun k => selvedgelaw21_BreaksKnown.l0 k x13 (x13.length : Int) x15) true := by
  intro d
  induction d with
  | zero =>
    intro x15 h h0
    refine E.succ ?_
    simp only [selvedgelaw21_BreaksKnown.l0]
    exact E.neg (by omega) (kn_l3 12 0 (by omega) (by omega))
  | succ d ih =>
    intro x15 h h0
    refine E.succ ?_
    simp only [selvedgelaw21_BreaksKnown.l0]
    refine E.pos (by omega) (E.pos (by omega) (E.pos (by omega) ?_))
    refine kn_l1 x15 _ x13 _ x15 ?_ (by omega) ?_ 91 1 (by omega) (by omega)
    · unfold rdOf
      rw [List.getD_eq_getElem?_getD, List.getElem?_eq_getElem (by omega)]
      exact hs _ (List.getElem_mem _)
    · rw [E.w64 (by omega) (by omega)]
      exact ih (x15 + 1) (by omega) (by omega)
theorem BreaksKnown : selvedgelaw21_BreaksKnown.Pure := by
  unfold selvedgelaw21_BreaksKnown.Pure
  refine E.out ?_
  unfold selvedgelaw21_BreaksKnown.f
  simp only [Option.bind_some]
  refine kn_l0 _ (by decide) (by decide) 17 0 (by decide) (by decide)
end Go.Proofs.Ythckihfkhmoafaa.Pure
