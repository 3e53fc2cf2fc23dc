import Derived.Test.YtofiflhjlohakaaC
/-! The runs, and which sequence each belongs to: the program's way. -/
namespace Go.Proofs.Ytofiflhjlohakaa.X
open Go.RowKit Go.Proofs.YtofiflhjlohakaaW.PrintWords Go.Proofs.YtofiflhjlohakaaW.PrintLast Go.Proofs.YtofiflhjlohakaaW.PrintMore
set_option linter.unusedVariables false
set_option linter.unusedSimpArgs false
/-! ### Matches are each other's -/
structure MInv (l : List Int) (i : Int) (op out : List Int) : Prop where
  len : out.length = l.length
  op1 : ∀ x ∈ op, 0 ≤ x ∧ x < i ∧ rd out x = -1
  op2 : op.Nodup
  inv : ∀ j : Int, 0 ≤ j → j < i → rd out j = -1 ∨ (0 ≤ rd out j ∧ rd out j < i ∧ rd out (rd out j) = j ∧ (iniC (rd l j) = true → j < rd out j))
theorem MInv.plain {l : List Int} {i : Int} {op out : List Int} (h : MInv l i op out) (h0 : 0 ≤ i) (hi : i < l.length) : MInv l (i + 1) op (out.set i.toNat (-1)) := by
  have hl := h.len
  have rds : ∀ j : Int, 0 ≤ j → rd (out.set i.toNat (-1)) j = if j = i then -1 else rd out j := fun j hj => E.rd_set h0 (by omega) hj
  refine ⟨by simpa using hl, fun x hx => ?_, h.op2, fun j hj hji => ?_⟩
  · obtain ⟨h1, h2, h3⟩ := h.op1 x hx
    exact ⟨h1, by omega, by rw [rds x h1, if_neg (by omega)]; exact h3⟩
  · rw [rds j hj]
    by_cases e : j = i
    · rw [if_pos e]; exact .inl rfl
    · rw [if_neg e]
      rcases h.inv j hj (by omega) with g | ⟨g1, g2, g3, g4⟩
      · exact .inl g
      · exact .inr ⟨g1, by omega, by rw [rds _ g1, if_neg (by omega)]; exact g3, g4⟩
theorem mtF_inv (l : List Int) : ∀ (t : List Int) (i : Int) (op out : List Int), 0 ≤ i → i + t.length = l.length → l.drop i.toNat = t → MInv l i op out → MInv l l.length [] (mtF t i op out) := by
  intro t
  induction t with
  | nil =>
    intro i op out h0 hil ht h
    have hi : i = l.length := by simpa using hil
    subst hi
    exact ⟨h.len, fun x hx => (by cases hx), List.nodup_nil, h.inv⟩
  | cons c t ih =>
    intro i op out h0 hil ht h
    have hil : i + 1 + (t.length : Int) = l.length := by simp at hil; omega
    obtain ⟨hc, hlt, ht'⟩ := rd_head h0 ht
    have hp := h.plain h0 hlt
    have hl := h.len
    have w : (i + 1).toNat = i.toNat + 1 := by omega
    unfold mtF
    split
    · refine ih (i + 1) _ _ (by omega) hil ht' ⟨hp.len, fun x hx => ?_, ?_, hp.inv⟩
      · rcases List.mem_append.mp hx with hx | hx
        · exact hp.op1 x hx
        · rw [List.mem_singleton.mp hx]
          exact ⟨h0, by omega, by rw [E.rd_set h0 (by omega) h0, if_pos rfl]⟩
      · refine List.nodup_append.mpr ⟨h.op2, by simp, fun a ha b hb => ?_⟩
        rw [List.mem_singleton.mp hb]
        have := (h.op1 a ha).2.1
        omega
    · split
      · exact ih (i + 1) _ _ (by omega) hil ht' ⟨hp.len, fun x hx => (by cases hx), List.nodup_nil, hp.inv⟩
      · split
        · next q1 q2 q3 =>
          obtain ⟨p, a, hop⟩ : ∃ p a, op = p ++ [a] := ⟨op.dropLast, op.getLast (List.length_pos_iff.mp q3.2), (List.dropLast_concat_getLast _).symm⟩
          subst hop
          have ea : rd (p ++ [a]) (((p ++ [a]).length : Int) - 1) = a := E.rd_mid' (by simp) (b := [])
          have et : (p ++ [a]).take (((p ++ [a]).length : Int) - 1).toNat = p := by
            rw [show (((p ++ [a]).length : Int) - 1).toNat = p.length by simp]
            simp
          rw [ea, et]
          obtain ⟨a0, a1, a2⟩ := h.op1 a (by simp)
          have hnd := List.nodup_append.mp h.op2
          have rds : ∀ j : Int, 0 ≤ j → rd (((out.set i.toNat (-1)).set i.toNat a).set a.toNat i) j = if j = a then i else if j = i then a else rd out j := fun j hj => by
            rw [E.rd_set a0 (by simp; omega) hj]
            split
            · rfl
            · rw [E.rd_set h0 (by simp; omega) hj]
              split
              · rfl
              · rw [E.rd_set h0 (by omega) hj, if_neg (by assumption)]
          refine ih (i + 1) _ _ (by omega) hil ht' ⟨by simpa using hl, fun x hx => ?_, hnd.1, fun j hj hji => ?_⟩
          · obtain ⟨h1, h2, h3⟩ := h.op1 x (List.mem_append_left _ hx)
            have hne : x ≠ a := fun e => hnd.2.2 x hx a (List.mem_singleton.mpr rfl) e
            exact ⟨h1, by omega, by rw [rds x h1, if_neg hne, if_neg (by omega)]; exact h3⟩
          · rw [rds j hj]
            by_cases e1 : j = a
            · rw [if_pos e1]
              refine .inr ⟨h0, by omega, by rw [rds i h0, if_neg (by omega), if_pos rfl]; exact e1.symm, fun _ => by omega⟩
            · rw [if_neg e1]
              by_cases e2 : j = i
              · rw [if_pos e2]
                refine .inr ⟨a0, by omega, by rw [rds a a0, if_pos rfl]; exact e2.symm, fun hini => ?_⟩
                rw [e2, hc, q3.1] at hini
                exact absurd hini (by decide)
              · rw [if_neg e2]
                rcases h.inv j hj (by omega) with g | ⟨g1, g2, g3, g4⟩
                · exact .inl g
                · refine .inr ⟨g1, by omega, ?_, g4⟩
                  have hne : rd out j ≠ a := fun e => by rw [e, a2] at g3; omega
                  rw [rds _ g1, if_neg hne, if_neg (by omega)]
                  exact g3
        · exact ih (i + 1) _ _ (by omega) hil ht' hp
theorem mtOf_inv (l : List Int) : MInv l l.length [] (mtOf l) :=
  mtF_inv l l 0 [] _ (Int.le_refl 0) (Int.zero_add _) rfl ⟨by simp, fun x hx => (by cases hx), List.nodup_nil, fun j hj hj0 => by omega⟩
/-- No two initiators have one PDI; it stands behind. -/
theorem mt_inj (l : List Int) (a b : Int) (ha0 : 0 ≤ a) (ha : a < l.length) (hb0 : 0 ≤ b) (hb : b < l.length) (hp : 0 ≤ rd (mtOf l) a) (he : rd (mtOf l) a = rd (mtOf l) b) : a = b := by
  have h := mtOf_inv l
  rcases h.inv a ha0 ha with g | ⟨g1, g2, g3, g4⟩
  · omega
  · rcases h.inv b hb0 hb with k | ⟨k1, k2, k3, k4⟩
    · omega
    · rw [← g3, ← k3, he]
theorem mt_gt (l : List Int) (a : Int) (ha0 : 0 ≤ a) (ha : a < l.length) (hi : iniC (rd l a) = true) (hp : 0 ≤ rd (mtOf l) a) : a < rd (mtOf l) a := by
  rcases (mtOf_inv l).inv a ha0 ha with g | ⟨g1, g2, g3, g4⟩
  · omega
  · exact g4 hi
end Go.Proofs.Ytofiflhjlohakaa.X
