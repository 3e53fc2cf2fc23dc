import Derived.Test.YtofiflhjlohakaaF
import Derived.Test.YtofiflhjlohakaaL1
/-! The levels that controls ask for: a PDI has its initiator's. -/
namespace Go.Proofs.Ytofiflhjlohakaa.X
open Go.RowKit Go.Proofs.YtofiflhjlohakaaW.PrintWords Go.Proofs.YtofiflhjlohakaaW.PrintLast Go.Proofs.YtofiflhjlohakaaW.PrintMore
set_option linter.unusedVariables false
set_option linter.unusedSimpArgs false
/-- The stack inside of an isolate that began on b, with d open ones inside. -/
inductive Ins (b a : Sk) (d : Nat) : Prop where
  | val (xs : List Ent) (e : Ent) (he : e.2.2 = true) (h : a.es = xs ++ e :: b.es) (hb : b.es ≠ []) (hn : isoN xs + a.iso = d) (h0 : 0 ≤ a.iso) : Ins b a d
  | over (h : a.es = b.es) (hi : a.iso = b.iso + 1 + d) (h0 : 0 ≤ b.iso) : Ins b a d
theorem isoN_app (xs ys : List Ent) : isoN (xs ++ ys) = isoN xs + isoN ys := by
  induction xs with
  | nil => simp [isoN]
  | cons x t ih => simp only [List.cons_append, isoN, ih]; omega
theorem popI_app (xs ys : List Ent) (h : 0 < isoN xs) : popI (xs ++ ys) = popI xs ++ ys ∧ isoN (popI xs) = isoN xs - 1 := by
  induction xs with
  | nil => simp [isoN] at h
  | cons x t ih =>
    simp only [List.cons_append, popI, isoN] at *
    by_cases q : x.2.2 = true
    · simp only [if_pos q] at *
      exact ⟨trivial, by omega⟩
    · simp only [if_neg q] at *
      have := ih (by omega)
      exact ⟨this.1, by omega⟩
theorem popI_none (xs ys : List Ent) (e : Ent) (he : e.2.2 = true) (h : isoN xs = 0) : popI (xs ++ e :: ys) = ys := by
  induction xs with
  | nil => simp only [List.nil_append, popI, if_pos he]
  | cons x t ih =>
    simp only [List.cons_append, popI, isoN] at *
    have := isoN_nonneg t
    by_cases q : x.2.2 = true
    · simp only [if_pos q] at h; omega
    · simp only [if_neg q] at *
      exact ih (by omega)
theorem Ins.pdi {b a : Sk} {d : Nat} (h : Ins b a (d + 1)) (hv : a.val = isoN a.es) : Ins b (pdiA a) d := by
  unfold pdiA
  cases h with
  | val xs e he h hb hn h0 =>
    by_cases q : 0 < a.iso
    · rw [if_pos q]
      exact .val xs e he h hb (by show _ + (a.iso - 1) = _; omega) (by show 0 ≤ a.iso - 1; omega)
    · have hx := isoN_nonneg b.es
      have hi : isoN a.es = isoN xs + (1 + isoN b.es) := by rw [h, isoN_app]; simp only [isoN, if_pos he]
      rw [if_neg q, if_neg (by omega)]
      have hp := popI_app xs (e :: b.es) (by omega)
      exact .val (popI xs) e he (by show popI a.es = _; rw [h, hp.1]) hb (by show _ + a.iso = _; omega) h0
  | over h hi h0 =>
    rw [if_pos (by omega)]
    exact .over h (by show a.iso - 1 = _; omega) h0
theorem Ins.out {b a : Sk} (h : Ins b a 0) (hv : a.val = isoN a.es) : (pdiA a).es = b.es := by
  unfold pdiA
  cases h with
  | val xs e he h hb hn h0 =>
    have hx := isoN_nonneg xs
    have hx2 := isoN_nonneg b.es
    have hi : isoN a.es = isoN xs + (1 + isoN b.es) := by rw [h, isoN_app]; simp only [isoN, if_pos he]
    rw [if_neg (by omega), if_neg (by omega)]
    show popI a.es = _
    rw [h, popI_none _ _ _ he (by omega)]
  | over h hi h0 =>
    rw [if_pos (by omega)]
    exact h
theorem push_two (a : Sk) (c o : Int) (i : Bool) : (pushA a c o i).1 = a ∧ (pushA a c o i).2 = false ∨ (∃ l, (pushA a c o i).1 = { a with es := (l, o, i) :: a.es }) ∧ (pushA a c o i).2 = true ∧ a.iso + a.emb ≤ 0 := by
  unfold pushA
  split
  · exact .inl ⟨rfl, rfl⟩
  · next e t he =>
    split
    · next q => exact .inr ⟨⟨_, by rw [he]⟩, rfl, q.2⟩
    · exact .inl ⟨rfl, rfl⟩
theorem Ins.iso {b a : Sk} {d : Nat} (h : Ins b a d) (he0 : 0 ≤ a.emb) (c : Int) : Ins b (isoA a c) (d + 1) := by
  unfold isoA
  rcases push_two a c 0 true with ⟨h1, h2⟩ | ⟨⟨l, h1⟩, h2, h3⟩
  · rw [h2, h1, if_neg (by decide)]
    cases h with
    | val xs e he h hb hn h0 => exact .val xs e he h hb (by show _ + (a.iso + 1) = _; omega) (by show 0 ≤ a.iso + 1; omega)
    | over h hi h0 => exact .over h (by show a.iso + 1 = _; omega) h0
  · rw [h2, h1, if_pos rfl]
    cases h with
    | val xs e he h hb hn h0 => exact .val ((l, 0, true) :: xs) e he (by show (l, 0, true) :: a.es = _; rw [h]; rfl) hb (by show (if (true : Bool) = true then (1 : Int) else 0) + isoN xs + a.iso = _; rw [if_pos rfl]; omega) h0
    | over h hi h0 => omega
theorem Ins.emb {b a : Sk} {d : Nat} (h : Ins b a d) (he0 : 0 ≤ a.emb) (c o : Int) : Ins b (embA a c o) d := by
  unfold embA
  rcases push_two a c o false with ⟨h1, h2⟩ | ⟨⟨l, h1⟩, h2, h3⟩
  · rw [h1]
    have key : Ins b { a with emb := a.emb + 1 } d := by
      cases h with
      | val xs e he h hb hn h0 => exact .val xs e he h hb hn h0
      | over h hi h0 => exact .over h hi h0
    split
    · exact key
    · exact h
  · rw [h2, h1, if_neg (by simp)]
    cases h with
    | val xs e he h hb hn h0 => exact .val ((l, o, false) :: xs) e he (by show (l, o, false) :: a.es = _; rw [h]; rfl) hb (by show (if (false : Bool) = true then (1 : Int) else 0) + isoN xs + a.iso = _; rw [if_neg (by decide)]; omega) h0
    | over h hi h0 => omega
theorem Ins.pdf {b a : Sk} {d : Nat} (h : Ins b a d) : Ins b (pdfA a) d := by
  unfold pdfA
  by_cases q : 0 < a.iso
  · rw [if_pos q]; exact h
  · rw [if_neg q]
    cases h with
    | over h hi h0 => omega
    | val xs e he h hb hn h0 =>
      by_cases q2 : 0 < a.emb
      · rw [if_pos q2]; exact .val xs e he h hb hn h0
      · rw [if_neg q2]
        cases xs with
        | nil =>
          obtain ⟨f, t, hf⟩ : ∃ f t, b.es = f :: t := by cases hq : b.es with | nil => exact absurd hq hb | cons f t => exact ⟨f, t, rfl⟩
          have ha : a.es = e :: f :: t := by rw [h, hf]; rfl
          rw [ha]
          show Ins b (if e.2.2 = true then a else _) d
          rw [if_pos he]
          exact .val [] e he h hb hn h0
        | cons x t =>
          obtain ⟨f, u, hf⟩ : ∃ f u, t ++ e :: b.es = f :: u := by cases t with | nil => exact ⟨_, _, rfl⟩ | cons y t => exact ⟨_, _, rfl⟩
          have ha : a.es = x :: f :: u := by rw [h, List.cons_append, hf]
          rw [ha]
          show Ins b (if x.2.2 = true then a else { a with es := f :: u }) d
          by_cases q3 : x.2.2 = true
          · rw [if_pos q3]; exact .val (x :: t) e he h hb hn h0
          · rw [if_neg q3]
            refine .val t e he hf.symm hb ?_ h0
            simp only [isoN, if_neg q3] at hn
            show isoN t + a.iso = _
            omega
theorem Ins.take {b a : Sk} {d : Nat} (h : Ins b a d) (he0 : 0 ≤ a.emb) (c x : Int) (hc : ¬ (20 ≤ c ∧ c ≤ 22)) : Ins b (takeA a c x) d := by
  unfold takeA
  split
  · exact h.emb he0 _ _
  · split
    · exact h.emb he0 _ _
    · split
      · exact h.emb he0 _ _
      · split
        · exact h.emb he0 _ _
        · rw [if_neg (by omega), if_neg (by omega), if_neg (by omega)]
          split
          · exact h.pdf
          · exact h
theorem take_iso (a : Sk) (c x : Int) (hc : 20 ≤ c ∧ c ≤ 22) : ∃ s, takeA a c x = isoA a s := by
  unfold takeA
  rw [if_neg (by omega), if_neg (by omega), if_neg (by omega), if_neg (by omega)]
  split
  · exact ⟨_, rfl⟩
  · split
    · exact ⟨_, rfl⟩
    · rw [if_pos (by omega)]; exact ⟨_, rfl⟩
theorem Ins.begin {b : Sk} (hb : b.es ≠ []) (h0 : 0 ≤ b.iso) (he : 0 ≤ b.emb) (s : Int) : Ins b (isoA b s) 0 := by
  unfold isoA
  rcases push_two b s 0 true with ⟨h1, h2⟩ | ⟨⟨l, h1⟩, h2, h3⟩
  · rw [h2, h1, if_neg (by decide)]
    exact .over rfl (by show b.iso + 1 = _; omega) h0
  · rw [h2, h1, if_pos rfl]
    exact .val [] (l, 0, true) rfl rfl hb (by show (0 : Int) + b.iso = _; omega) h0
/-- The level of the PDI. -/
theorem pdi_level (base : Int) (hb0 : 0 ≤ base) (hb1 : base ≤ 1) (b : Sk) : ∀ (t : List Int) (d : Nat) (a : Sk) (m bf : Int) (off : Nat), 0 ≤ m → Wf a m → Ins b a d → pdiAt t d = some off → rd ((runL base t a bf).map (·.1)) (off : Int) = (topA b).1 := by
  intro t
  induction t with
  | nil => intro d a m bf off hm hw hi hp; cases hp
  | cons c t ih =>
    intro d a m bf off hm hw hi hp
    have hws := hw.st hm hb0 hb1 c
    have hwt : ∀ x, Wf (takeA (stA base a c) c x) (m + 1) := fun x => hws.take c x
    unfold pdiAt at hp
    have hrec : ∀ (d' : Nat) (o : Nat), (pdiAt t d').map (· + 1) = some o → (∀ x, Ins b (takeA (stA base a c) c x) d') → rd ((runL base (c :: t) a bf).map (·.1)) (o : Int) = (topA b).1 := by
      intro d' o ho hI
      obtain ⟨o', ho', rfl⟩ := Option.map_eq_some_iff.mp ho
      have := ih d' _ (m + 1) (outL bf (topA (stA base a c)) c).1 o' (by omega) (hwt _) (hI (dirI (dirS true t 0))) ho'
      show rd (_ :: _) _ = _
      rw [show rd ((outL bf (topA (stA base a c)) c).1 :: (runL base t (takeA (stA base a c) c (dirI (dirS true t 0))) (outL bf (topA (stA base a c)) c).1).map (·.1)) ((o' + 1 : Nat) : Int) = rd ((runL base t (takeA (stA base a c) c (dirI (dirS true t 0))) (outL bf (topA (stA base a c)) c).1).map (·.1)) (o' : Int) from by simp [rd]]
      exact this
    by_cases q1 : c = 11
    · rw [if_pos q1] at hp; cases hp
    · rw [if_neg q1] at hp
      by_cases q2 : 20 ≤ c ∧ c ≤ 22
      · rw [if_pos q2] at hp
        refine hrec (d + 1) off hp (fun x => ?_)
        have hs : stA base a c = a := by unfold stA; rw [if_neg (by omega), if_neg q1]
        rw [hs]
        obtain ⟨s, hs2⟩ := take_iso a c x q2
        rw [hs2]
        exact hi.iso hw.e0 s
      · rw [if_neg q2] at hp
        by_cases q3 : c = 23
        · rw [if_pos q3] at hp
          have hs : stA base a c = pdiA a := by unfold stA; rw [if_pos q3]
          have htk : ∀ (x : Int) (s : Sk), takeA s c x = s := fun x s => by unfold takeA; rw [q3]; rfl
          cases d with
          | zero =>
            injection hp with hp
            subst hp
            have ho := hi.out hw.vl
            show (outL bf (topA (stA base a c)) c).1 = _
            rw [hs]
            have hr : remC c = false := by rw [q3]; decide
            unfold outL
            rw [if_neg (by rw [hr]; decide)]
            show (topA (pdiA a)).1 = _
            unfold topA
            rw [ho]
          | succ d =>
            refine hrec d off hp (fun x => ?_)
            rw [htk, hs]
            exact hi.pdi hw.vl
        · rw [if_neg q3] at hp
          refine hrec d off hp (fun x => ?_)
          have hs : stA base a c = a := by unfold stA; rw [if_neg q3, if_neg q1]
          rw [hs]
          exact hi.take hw.e0 c x q2
theorem runL_drop (base : Int) (hb0 : 0 ≤ base) (hb1 : base ≤ 1) : ∀ (i : Nat) (l : List Int) (a : Sk) (bf m : Int), 0 ≤ m → Wf a m → ∃ (a' : Sk) (bf' m' : Int), 0 ≤ m' ∧ Wf a' m' ∧ (runL base l a bf).drop i = runL base (l.drop i) a' bf' := by
  intro i
  induction i with
  | zero => intro l a bf m hm hw; exact ⟨a, bf, m, hm, hw, rfl⟩
  | succ i ih =>
    intro l a bf m hm hw
    cases l with
    | nil => exact ⟨a, bf, m, hm, hw, by simp [runL]⟩
    | cons c t => exact ih t _ _ (m + 1) (by omega) ((hw.st hm hb0 hb1 c).take c _)
theorem rd_drop_add (xs : List Int) (i k : Nat) : rd (xs.drop i) (k : Int) = rd xs ((i + k : Nat) : Int) := by
  have e : ((i + k : Nat) : Int).toNat = i + k := by omega
  unfold rd
  rw [e, Int.toNat_natCast]
  simp [List.getElem?_drop]
theorem levM_of (base : Int) (hb0 : 0 ≤ base) (hb1 : base ≤ 1) (l : List Int) : LevM l ((runL base l (newA base) base).map (·.1)) (mtOf l) := by
  intro a h0 h1 hc hm
  obtain ⟨i, rfl⟩ := Int.eq_ofNat_of_zero_le h0
  have hc2 : 20 ≤ rd l (i : Int) ∧ rd l (i : Int) ≤ 22 := of_decide_eq_true hc
  have hat := mtOf_at l (i : Int) h0 h1 hc2
  obtain ⟨a', bf', m', hm', hw', hd⟩ := runL_drop base hb0 hb1 i l (newA base) base 0 (Int.le_refl 0) (Wf.new hb0 hb1)
  have hdl : l.drop i = rd l (i : Int) :: l.drop (i + 1) := by
    rw [List.drop_eq_getElem_cons (by omega), E.rd_get (by omega)]
  have hmap : ((runL base l (newA base) base).map (·.1)).drop i = (runL base (l.drop i) a' bf').map (·.1) := by rw [← List.map_drop, hd]
  have hs : stA base a' (rd l (i : Int)) = a' := by unfold stA; rw [if_neg (by omega), if_neg (by omega)]
  have hr : remC (rd l (i : Int)) = false := by simp [remC]; omega
  have hli : rd ((runL base l (newA base) base).map (·.1)) (i : Int) = (topA a').1 := by
    have := rd_drop_add ((runL base l (newA base) base).map (·.1)) i 0
    rw [hmap, hdl] at this
    refine this.symm.trans ?_
    show (outL bf' (topA (stA base a' (rd l (i : Int)))) (rd l (i : Int))).1 = _
    rw [hs]
    unfold outL
    rw [if_neg (by rw [hr]; decide)]
  cases hp : pdiAt (l.drop ((i : Int) + 1).toNat) 0 with
  | none =>
    rw [hp] at hat
    rw [hat] at hm
    exact absurd hm (by simp [mtv])
  | some off =>
    rw [hp] at hat
    rw [show ((i : Int) + 1).toNat = i + 1 by omega] at hp
    have hat : rd (mtOf l) (i : Int) = ((i + (1 + off) : Nat) : Int) := by rw [hat]; simp [mtv]; omega
    rw [hat, hli, ← rd_drop_add, hmap, hdl]
    obtain ⟨s, hs2⟩ := take_iso a' (rd l (i : Int)) (dirI (dirS true (l.drop (i + 1)) 0)) hc2
    have hes : a'.es ≠ [] := by
      obtain ⟨e, t, he, _⟩ := hw'.ch.top
      rw [he]; simp
    have hI := Ins.begin hes hw'.i0 hw'.e0 s
    have hwt := hw'.take (rd l (i : Int)) (dirI (dirS true (l.drop (i + 1)) 0))
    rw [hs2] at hwt
    have := pdi_level base hb0 hb1 a' (l.drop (i + 1)) 0 (isoA a' s) (m' + 1) (outL bf' (topA a') (rd l (i : Int))).1 off (by omega) hwt hI hp
    refine Eq.trans ?_ this
    show rd ((outL bf' (topA (stA base a' (rd l (i : Int)))) (rd l (i : Int))).1 :: (runL base (l.drop (i + 1)) (takeA (stA base a' (rd l (i : Int))) (rd l (i : Int)) (dirI (dirS true (l.drop (i + 1)) 0))) (outL bf' (topA (stA base a' (rd l (i : Int)))) (rd l (i : Int))).1).map (·.1)) ((1 + off : Nat) : Int) = _
    rw [hs, hs2, Nat.add_comm 1 off]
    simp [rd]
theorem runL_range (base : Int) (hb0 : 0 ≤ base) (hb1 : base ≤ 1) : ∀ (l : List Int) (a : Sk) (bf m : Int), 0 ≤ m → Wf a m → 0 ≤ bf → bf ≤ 255 → ∀ x ∈ (runL base l a bf).map (·.1), 0 ≤ x ∧ x ≤ 255 := by
  intro l
  induction l with
  | nil => intro a bf m hm hw h0 h1 x hx; cases hx
  | cons c t ih =>
    intro a bf m hm hw h0 h1 x hx
    have hws := hw.st hm hb0 hb1 c
    obtain ⟨e, u, he, _, h4, h5, _⟩ := hws.ch.top
    have ho : 0 ≤ (outL bf (topA (stA base a c)) c).1 ∧ (outL bf (topA (stA base a c)) c).1 ≤ 255 := by
      unfold outL topA
      rw [he]
      split
      · exact ⟨h0, h1⟩
      · exact ⟨h5, by show e.1 ≤ 255; omega⟩
    have hx : x = (outL bf (topA (stA base a c)) c).1 ∨ x ∈ (runL base t (takeA (stA base a c) c (dirI (dirS true t 0))) (outL bf (topA (stA base a c)) c).1).map (·.1) := List.mem_cons.mp hx
    rcases hx with rfl | hx
    · exact ho
    · exact ih _ _ (m + 1) (by omega) (hws.take c _) ho.1 ho.2 x hx
end Go.Proofs.Ytofiflhjlohakaa.X
