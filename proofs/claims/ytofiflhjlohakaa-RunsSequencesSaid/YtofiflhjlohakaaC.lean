import Derived.Test.YtofiflhjlohakaaX1
import Derived.Test.YtofiflhjlohakaaB
/-! What the laws share: the short call; classes of one level. -/
namespace Go.Proofs.Ytofiflhjlohakaa.X
open Go.RowKit Go.Proofs.YtofiflhjlohakaaW.PrintWords Go.Proofs.YtofiflhjlohakaaW.PrintLast Go.Proofs.YtofiflhjlohakaaW.PrintMore
set_option linter.unusedVariables false
set_option linter.unusedSimpArgs false
theorem seq_works : runs_Sequences.f [1, 21, 2, 23, 1] [0, 0, 1, 0, 0] 0 = some ([⟨[0, 1, 3, 4], 0, 1, 1⟩, ⟨[2], 1, 2, 2⟩], 0) := by kernel_rfl
theorem places_loop (a : List Int) (hl : a.length ≤ 1000000) : ∀ (t i : Nat), i + t = a.length → Ev (fun k => selvedgelaw15_places.l0 k a a (i : Int)) true := by
  intro t
  induction t with
  | zero => intro i hi; exact E.succ (E.neg (by omega) (E.ret rfl))
  | succ t ih =>
    intro i hi
    have w : wrap64 ((i : Int) + 1) = ((i + 1 : Nat) : Int) := by rw [E.w64 (by omega) (by omega)]; omega
    have IH := ih (i + 1) (by omega)
    rw [← w] at IH
    exact E.succ (E.pos (by omega) (E.pos (by omega) (E.pos (by omega) (E.pos rfl IH))))
theorem places_ev (a : List Int) (hl : a.length ≤ 1000000) : Ev (fun k => selvedgelaw15_places.f k a a) true := E.pos rfl (places_loop a hl a.length 0 (by omega))
theorem works_ev : Ev (fun k => selvedgelaw15_works.f k) true := by
  refine E.bno seq_works (E.pos rfl (E.pos rfl (E.pos (by decide) (E.bnd (places_ev [0, 1, 3, 4] (by decide)) (E.pos rfl (E.pos rfl (E.pos rfl (E.pos (by decide) (E.pos rfl (E.ret rfl))))))))))
theorem removed14 (c : Int) : selvedgeref14_Removed.f c = some (remC c) := by
  unfold selvedgeref14_Removed.f remC
  by_cases h1 : c = 15
  · subst h1; rfl
  by_cases h2 : c = 16
  · subst h2; rfl
  by_cases h3 : c = 17
  · subst h3; rfl
  by_cases h4 : c = 18
  · subst h4; rfl
  by_cases h5 : c = 19
  · subst h5; rfl
  rw [if_neg h1, if_neg h2, if_neg h3, if_neg h4, if_neg h5, decide_eq_false (p := 15 ≤ c ∧ c ≤ 19) (by omega)]
  by_cases q : c = 10 <;> simp [q]
theorem u8_all (l : List Int) (h : ∀ x ∈ l, (Lit.int .u8 x).wf = true) : (l.all fun x => decide (0 ≤ x ∧ x ≤ 255)) = true := List.all_eq_true.mpr (fun x hx => decide_eq_true (E.u8_lo (h x hx)))
/-- What the program answers, where nothing is refused. -/
theorem seq_f (l lev : List Int) (base : Int) (hb : 0 ≤ base ∧ base ≤ 255) (hlv : (lev.all fun x => decide (0 ≤ x ∧ x ≤ 255)) = true) (hl : l.length ≤ 65536) (he : lev.length = l.length) :
    runs_Sequences.f l lev base = some ((sqAt l lev (mtOf l) (ahF l lev base) l.length).all.map (sqEos l lev (mtOf l) (beF l lev base) base), 0) := by
  unfold runs_Sequences.f sqRes
  rw [if_pos ⟨hb, hlv⟩, if_neg (by omega), if_neg (by omega), sqF_all]
def upto (n : Nat) : List Int := (List.range n).map (fun j : Nat => (j : Int))
theorem upto_succ (n : Nat) : upto (n + 1) = upto n ++ [(n : Int)] := by simp [upto, List.range_succ]
theorem plain_at (l lev m ah : List Int) (v : Int) (hl : ∀ i : Nat, i < l.length → remC (rd l i) = false) (hv : ∀ i : Nat, i < l.length → rd lev i = v) : ∀ i : Nat, i < l.length →
    sqAt l lev m ah (i + 1) = ⟨[⟨upto (i + 1), v, sideV (mx v (rd ah 0)), 0⟩], 0, i, upW (fun _ => none) 0 none⟩ := by
  intro i
  induction i with
  | zero =>
    intro h
    show sqStep l lev m ah ((0 : Nat) : Int) sq0 = _
    have h1 := hl 0 h
    have h2 := hv 0 h
    simp [sqStep, sq0, sqTurn, sqWait, sqPut, upto] at *
    rw [h1, h2]
    simp
  | succ i ih =>
    intro h
    show sqStep l lev m ah ((i + 1 : Nat) : Int) (sqAt l lev m ah (i + 1)) = _
    rw [ih (by omega)]
    have h1 := hl (i + 1) h
    have h2 := hv (i + 1) h
    have h3 := hv i (by omega)
    unfold sqStep
    have hno : ¬ ((i : Int) < 0 ∨ rd lev (i : Int) ≠ rd lev ((i + 1 : Nat) : Int)) := fun q => by
      rcases q with q | q
      · omega
      · exact q (h3.trans h2.symm)
    rw [if_neg (by rw [h1]; decide), if_neg hno]
    rw [upto_succ (i + 1)]
    rfl
theorem side_side (v : Int) : sideV v = if v % 2 = 1 then 2 else 1 := rfl
/-- Classes of one level, none less than the paragraph's. -/
theorem plain_seq (l : List Int) (v base : Int) (hb : 0 ≤ base ∧ base ≤ 255) (hv : base ≤ v ∧ v ≤ 255) (hl : l.length ≤ 65536) (hp : 0 < l.length) (hr : ∀ x ∈ l, remC x = false) :
    runs_Sequences.f l (List.replicate l.length v) base = some ([⟨upto l.length, v, sideV v, sideV v⟩], 0) := by
  have hrd : ∀ i : Nat, i < l.length → rd (List.replicate l.length v) (i : Int) = v := fun i hi => by simp [rd, hi]
  rw [seq_f l _ base hb (List.all_eq_true.mpr (fun x hx => decide_eq_true (by rw [List.eq_of_mem_replicate hx]; omega))) hl (by simp)]
  obtain ⟨n, hn⟩ : ∃ n, l.length = n + 1 := ⟨l.length - 1, by omega⟩
  have hat := plain_at l (List.replicate l.length v) (mtOf l) (ahF l (List.replicate l.length v) base) v (fun i hi => hr _ (E.rd_mem (by omega) (by omega))) hrd n (by omega)
  rw [show sqAt l (List.replicate l.length v) (mtOf l) (ahF l (List.replicate l.length v) base) l.length = _ from (congrArg _ hn).trans hat]
  have ha0 : rd (ahF l (List.replicate l.length v) base) 0 = base := by
    have := rd_range l.length (aAt l (List.replicate l.length v) base) 0 hp
    exact this
  have hmx : mx v base = v := by unfold mx; split <;> omega
  have hlast : lastP (upto (n + 1)) = n := by
    unfold lastP
    rw [upto_succ]
    exact E.rd_mid' (by simp [upto]) (b := [])
  have hbn : rd (beF l (List.replicate l.length v) base) (n : Int) = base := by
    have := rd_range l.length (fun k => bAt l (List.replicate l.length v) base (l.length - 1 - k)) n (by omega)
    refine this.trans ?_
    rw [hn, show n + 1 - 1 - n = 0 by omega]
    rfl
  have he : ∀ a b, sqEos l (List.replicate l.length v) (mtOf l) (beF l (List.replicate l.length v) base) base ⟨upto (n + 1), v, a, b⟩ = ⟨upto (n + 1), v, a, sideV v⟩ := by
    intro a b
    unfold sqEos
    simp only [hlast, hrd n (by omega), hbn, ite_self, hmx]
  rw [List.map_cons, List.map_nil, he, ha0, hmx, hn]
end Go.Proofs.Ytofiflhjlohakaa.X
