import Derived.Test.YtaohghcmlohngaaDoorX8
import Derived.Test.YtaohghcmlohngaaDoorF
namespace Go.Proofs.YtaohghcmlohngaaDoor.Pure
open Go.RowKit Go.Proofs.YtaohghcmlohngaaDoor.X Go.Proofs.YtaohghcmlohngaaDoorW.PrintWords Go.Proofs.YtaohghcmlohngaaDoorW.PrintLast
set_option linter.unusedSimpArgs false
set_option linter.unusedVariables false
set_option maxRecDepth 100000
/-- Each & as a reference. -/
def esc : List UInt8 → List UInt8
  | [] => []
  | c :: l => if c = 38 then [38, 97, 109, 112, 59] ++ esc l else c :: esc l
def bare (l : List UInt8) : List UInt8 := l.filter fun c => c != 38
theorem dec_esc (attr : Bool) : ∀ l, dec attr (esc l) = l
  | [] => rfl
  | c :: l => by
    rw [esc]
    by_cases h : c = 38
    · rw [if_pos h]
      have := dec_name (w := [97, 109, 112]) (x := (38, true)) (by decide) (esc l) attr
      have e : [38, 97, 109, 112, 59] ++ esc l = 38 :: ([97, 109, 112] ++ 59 :: esc l) := rfl
      have e2 : Lib.encodeRune (38 : Int) = [38] := by decide
      rw [e, this, dec_esc attr l, e2, h]
      rfl
    · rw [if_neg h, dec_none (findF_not h), dec_esc attr l]
theorem dec_bare (attr : Bool) (l : List UInt8) : dec attr (bare l) = bare l := by
  have := dec_plain attr (bare l) [] (fun c hc => by
    unfold bare at hc
    simpa using (List.mem_filter.1 hc).2)
  rw [List.append_nil, dec_nil, List.append_nil] at this
  exact this
theorem esc_app (a b : List UInt8) : esc (a ++ b) = esc a ++ esc b := by
  induction a with
  | nil => rfl
  | cons c a ih =>
    rw [List.cons_append, esc, esc, ih]
    split
    · rw [List.append_assoc]
    · rfl
theorem esc_len (a : List UInt8) : (esc a).length ≤ 5 * a.length := by
  induction a with
  | nil => exact Nat.le_refl _
  | cons c a ih =>
    rw [esc, List.length_cons]
    split
    · rw [List.length_append]
      show 5 + (esc a).length ≤ _
      omega
    · rw [List.length_cons]; omega
theorem bare_len (a : List UInt8) : (bare a).length ≤ a.length := List.length_filter_le _ _
theorem back_l0 (l : List UInt8) (hl : l.length ≤ 5000) (attr : Bool) : ∀ (d p : List UInt8), l = p ++ d → Ev (fun k => selvedgelaw03_CharrefBack.l0 k (mk l) attr (ints (esc p)) (ints (bare p)) (p.length : Int)) true := by
  intro d
  induction d with
  | nil =>
    intro p hp
    rw [List.append_nil] at hp
    subst hp
    have h1 := esc_len l
    have h2 := bare_len l
    refine E.succ ?_
    simp only [selvedgelaw03_CharrefBack.l0, mk_size, strs]
    refine E.neg (by omega) (E.bnd (dec_ev (esc l) attr (by omega)) (E.pos ?_ (E.bnd (dec_ev (bare l) attr (by omega)) (E.pos ?_ (E.bnd works_ev (E.ret rfl))))))
    · rw [dec_esc]
    · rw [dec_bare]
  | cons c d ih =>
    intro p hp
    have hpl : p.length + (d.length + 1) = l.length := by rw [hp]; simp
    have h1 := esc_len p
    have h2 := bare_len p
    have nx := ih (p ++ [c]) (by rw [hp]; simp)
    rw [List.length_append, List.length_singleton, esc_app] at nx
    have hb : bt (mk l) (p.length : Int) = (c.toNat : Int) := by
      rw [mk_bt, hp, List.getD_eq_getElem?_getD, List.getElem?_append_right (Nat.le_refl _)]
      simp
    refine E.succ ?_
    simp only [selvedgelaw03_CharrefBack.l0, mk_size, hb, ints_len]
    refine E.pos (by omega) (E.pos (by omega) ?_)
    have ew : wrap64 ((p.length : Int) + 1) = ((p.length + 1 : Nat) : Int) := by rw [E.w64 (by omega) (by omega)]; omega
    by_cases q : c = 38
    · refine E.pos ((byte_eq c 38 (by omega)).2 q) (E.bno rfl ?_)
      have e1 : esc [c] = [38, 97, 109, 112, 59] := by rw [q]; rfl
      have e2 : bare (p ++ [c]) = bare p := by unfold bare; rw [List.filter_append, q]; simp
      rw [e1, e2, ints_app] at nx
      refine E.pos (by show (esc p).length + 5 < _; omega) ?_
      rw [ew]
      exact nx
    · refine E.neg (fun z => q ((byte_eq c 38 (by omega)).1 z)) (E.pos (by omega) (E.pos (by omega) ?_))
      have e1 : esc [c] = [c] := by rw [esc, if_neg q]; rfl
      have e2 : bare (p ++ [c]) = bare p ++ [c] := by unfold bare; rw [List.filter_append]; simp [q]
      rw [e1, e2, ints_app, ints_app] at nx
      rw [ew]
      exact nx
theorem CharrefBack : selvedgelaw03_CharrefBack.Pure := by
  intro a0 a1 _
  have : Ev (fun k => selvedgelaw03_CharrefBack.f k (mk a0.data.toList) a1) true := by
    unfold selvedgelaw03_CharrefBack.f
    rw [mk_size]
    by_cases h : (a0.data.toList.length : Int) > 5000
    · exact E.pos h (E.bnd works_ev (E.ret rfl))
    · exact E.neg h (back_l0 _ (by omega) a1 _ [] rfl)
  rw [← mk_of] at this
  exact E.out this
end Go.Proofs.YtaohghcmlohngaaDoor.Pure
