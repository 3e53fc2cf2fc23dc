import Derived.Test.YtdmkbaebcopjfaaX3
import Derived.Test.YtdmkbaebcopjfaaA
namespace Go.Proofs.Ytdmkbaebcopjfaa.Pure
open Go.RowKit Go.Proofs.Ytdmkbaebcopjfaa.X Go.Proofs.YtdmkbaebcopjfaaW.PrintWords Go.Proofs.YtdmkbaebcopjfaaW.PrintLast Go.Proofs.Ytdmkbaebcopjfaa Go.Proofs.Ytdmkbaebcopjfaa.A
set_option linter.unusedVariables false
set_option linter.unusedSimpArgs false

theorem i32_and63 {x : Int} (h0 : 0 ≤ x) (h1 : x < 2147483648) : Go.bits .and .i32 x 63 = x % 64 := bits_mask .i32 31 (by decide) wraps_i32 6 (by decide) x h0 h1
theorem encZ_bad {r : Int} (h : r < 0 ∨ 1114111 < r ∨ (55296 ≤ r ∧ r ≤ 57343)) : Lib.encodeRuneZ r = [239, 191, 189] := by
  unfold Lib.encodeRuneZ
  rw [if_neg (show ¬ (0 ≤ r ∧ r ≤ 127) by omega), if_neg (show ¬ (128 ≤ r ∧ r ≤ 2047) by omega), if_neg (show ¬ ((2048 ≤ r ∧ r < 55296) ∨ (57343 < r ∧ r ≤ 65535)) by omega), if_neg (show ¬ (65536 ≤ r ∧ r ≤ 1114111) by omega)]
theorem One_j0 (r : Int) (c : Bool) (h1 : c = true → r < 0 ∨ 1114111 < r ∨ (55296 ≤ r ∧ r ≤ 57343)) (h2 : c = false → 0 ≤ r ∧ r ≤ 1114111 ∧ ¬ (55296 ≤ r ∧ r ≤ 57343)) : Ev (fun k => selvedgeref02_One.j0 k r c) (Lib.encodeRuneZ r) := by
  refine E.succ ?_
  simp only [selvedgeref02_One.j0]
  cases c with
  | true => rw [encZ_bad (h1 rfl)]; exact E.pos rfl (E.ret rfl)
  | false =>
    have h := h2 rfl
    refine E.neg (by decide) ?_
    by_cases c1 : r < 128
    · refine E.pos c1 (E.ret ?_)
      rw [Lib.encodeRuneZ_one (by omega) (by omega), Int.emod_eq_of_lt (by omega) (by omega)]
    refine E.neg c1 ?_
    by_cases c2 : r < 2048
    · refine E.pos c2 (E.ret ?_)
      rw [Lib.encodeRuneZ_two (by omega) (by omega), i32_and63 (by omega) (by omega), u8_or192 _ (by omega) (by omega), u8_or128 _ (by omega) (by omega), Int.emod_eq_of_lt (show 0 ≤ r / 64 by omega) (by omega), Int.emod_eq_of_lt (show 0 ≤ r % 64 by omega) (by omega)]
    refine E.neg c2 ?_
    by_cases c3 : r < 65536
    · refine E.pos c3 (E.ret ?_)
      rw [Lib.encodeRuneZ_three (by omega), i32_and63 (by omega) (by omega), i32_and63 (by omega) (by omega), u8_or224 _ (by omega) (by omega), u8_or128 _ (by omega) (by omega), u8_or128 _ (by omega) (by omega), Int.emod_eq_of_lt (show 0 ≤ r / 4096 by omega) (by omega), Int.emod_eq_of_lt (show 0 ≤ r % 64 by omega) (by omega), Int.emod_eq_of_lt (show 0 ≤ r / 64 % 64 by omega) (by omega)]
    refine E.neg c3 (E.ret ?_)
    unfold Lib.encodeRuneZ
    rw [if_neg (show ¬ (0 ≤ r ∧ r ≤ 127) by omega), if_neg (show ¬ (128 ≤ r ∧ r ≤ 2047) by omega), if_neg (show ¬ ((2048 ≤ r ∧ r < 55296) ∨ (57343 < r ∧ r ≤ 65535)) by omega), if_pos (show (65536 ≤ r ∧ r ≤ 1114111) by omega)]
    rw [i32_and63 (by omega) (by omega), i32_and63 (by omega) (by omega), i32_and63 (by omega) (by omega), u8_or240 _ (by omega) (by omega), u8_or128 _ (by omega) (by omega), u8_or128 _ (by omega) (by omega), u8_or128 _ (by omega) (by omega), Int.emod_eq_of_lt (show 0 ≤ r / 262144 by omega) (by omega), Int.emod_eq_of_lt (show 0 ≤ r % 64 by omega) (by omega), Int.emod_eq_of_lt (show 0 ≤ r / 64 % 64 by omega) (by omega), Int.emod_eq_of_lt (show 0 ≤ r / 4096 % 64 by omega) (by omega)]
theorem One_ev (r : Int) : Ev (fun k => selvedgeref02_One.f k r) (Lib.encodeRuneZ r) := by
  unfold selvedgeref02_One.f
  by_cases c1 : r < 0
  · exact E.pos c1 (One_j0 r true (fun _ => .inl c1) (fun h => by cases h))
  refine E.neg c1 ?_
  by_cases c2 : r > 1114111
  · exact E.pos c2 (One_j0 r true (fun _ => .inr (.inl c2)) (fun h => by cases h))
  refine E.neg c2 ?_
  by_cases c3 : r ≥ 55296
  · exact E.pos c3 (One_j0 r _ (fun h => .inr (.inr ⟨c3, of_decide_eq_true h⟩)) (fun h => ⟨by omega, by omega, fun q => of_decide_eq_false h q.2⟩))
  · exact E.neg c3 (One_j0 r false (fun h => by cases h) (fun _ => by omega))
theorem encZ_len (r : Int) : (Lib.encodeRuneZ r).length ≤ 4 := by
  unfold Lib.encodeRuneZ
  repeat' split
  all_goals simp
theorem encs_cons (x : Int) (l : List Int) : encs (x :: l) = Lib.encodeRuneZ x ++ encs l := rfl
theorem String_l0 (l : List Int) (hl : l.length ≤ 20000) : ∀ (d : List Int) (p : List Int), p ++ d = l → ∀ acc : List Int, acc.length ≤ 4 * p.length → Ev (fun k => selvedgeref02_String.l0 k l acc p.length) (strOfNums (acc ++ encs d)) := by
  intro d
  induction d with
  | nil =>
    intro p hp acc ha
    refine E.succ ?_
    simp only [selvedgeref02_String.l0]
    have : p.length = l.length := by rw [← hp]; simp
    exact E.neg (by omega) (E.ret (by simp [X.encs]))
  | cons x d ih =>
    intro p hp acc ha
    have hpl : p.length + (d.length + 1) = l.length := by rw [← hp]; simp
    refine E.succ ?_
    simp only [selvedgeref02_String.l0]
    have hx : rd l p.length = x := by rw [← hp]; exact E.rd_mid p d x
    have h4 := encZ_len x
    refine E.pos (by omega) (E.pos (by omega) (E.bnd (a := Lib.encodeRuneZ x) (by rw [hx]; exact One_ev x) (E.pos (by omega) ?_)))
    have := ih (p ++ [x]) (by simp [hp]) (acc ++ Lib.encodeRuneZ x) (by simp; omega)
    rw [encs_cons, ← List.append_assoc]
    rw [E.w64 (by omega) (by omega)]
    have e : ((p ++ [x]).length : Int) = (p.length : Int) + 1 := by simp
    rw [e] at this
    exact this
theorem Strings_l0 (l : List Int) (hl : l.length ≤ 20000) : ∀ (d : List Int) (p : List Int), p ++ d = l → Ev (fun k => selvedgelaw02_UtfStrings.l0 k l l p.length) true := by
  intro d
  induction d with
  | nil =>
    intro p hp
    refine E.succ ?_
    simp only [selvedgelaw02_UtfStrings.l0]
    have : p.length = l.length := by rw [← hp]; simp
    exact E.neg (by omega) (E.bno rfl (E.ret rfl))
  | cons x d ih =>
    intro p hp
    have hpl : p.length + (d.length + 1) = l.length := by rw [← hp]; simp
    refine E.succ ?_
    simp only [selvedgelaw02_UtfStrings.l0]
    have := ih (p ++ [x]) (by simp [hp])
    have e : ((p ++ [x]).length : Int) = (p.length : Int) + 1 := by simp
    rw [e] at this
    refine E.pos (by omega) (E.pos (by omega) (E.pos (by omega) (E.pos (by simp) ?_)))
    rw [E.w64 (by omega) (by omega)]
    exact this

theorem UtfStrings : selvedgelaw02_UtfStrings.Pure := by
  intro l h1 h2 h3
  refine E.out ?_
  unfold selvedgelaw02_UtfStrings.f
  by_cases c : (l.length : Int) > 20000
  · exact E.pos c (E.bno rfl (E.ret rfl))
  refine E.neg c (E.pos (by simp; omega) ?_)
  rw [List.nil_append]
  have hall : l.all in32 = true := by
    rw [List.all_eq_true]
    intro x hx
    have := h3 x hx
    simp [Lit.wf, IntKind.min, IntKind.max, IntKind.signed, IntKind.bits] at this
    simp [in32]
    omega
  refine E.bno rfl (E.bno (a := strOfNums (encs l)) (by unfold utf_String.f; rw [if_pos ⟨by omega, hall⟩]) ?_)
  have hs := String_l0 l (by omega) l [] rfl [] (by simp)
  refine E.bnd hs ?_
  exact E.pos rfl (Strings_l0 l (by omega) l [] rfl)

end Go.Proofs.Ytdmkbaebcopjfaa.Pure
