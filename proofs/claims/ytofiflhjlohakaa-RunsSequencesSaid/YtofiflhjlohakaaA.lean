import Derived.Test.YtofiflhjlohakaaX0
/-! Level runs and isolating run sequences, plainly. -/
namespace Go.Proofs.Ytofiflhjlohakaa.X
open Go.RowKit Go.Proofs.YtofiflhjlohakaaW.PrintWords Go.Proofs.YtofiflhjlohakaaW.PrintLast Go.Proofs.YtofiflhjlohakaaW.PrintMore
set_option linter.unusedVariables false
set_option linter.unusedSimpArgs false
def remC (c : Int) : Bool := decide (15 ≤ c ∧ c ≤ 19) || decide (c = 10)
def iniC (c : Int) : Bool := decide (20 ≤ c ∧ c ≤ 22)
def sideV (n : Int) : Int := if n % 2 = 1 then 2 else 1
def mtF : List Int → Int → List Int → List Int → List Int
  | [], _, _, out => out
  | c :: t, i, op, out =>
    if 20 ≤ c ∧ c ≤ 22 then mtF t (i + 1) (op ++ [i]) (out.set i.toNat (-1))
    else if c = 11 then mtF t (i + 1) [] (out.set i.toNat (-1))
    else if c = 23 ∧ 0 < op.length then mtF t (i + 1) (op.take ((op.length : Int) - 1).toNat) (((out.set i.toNat (-1)).set i.toNat (rd op ((op.length : Int) - 1))).set (rd op ((op.length : Int) - 1)).toNat i)
    else mtF t (i + 1) op (out.set i.toNat (-1))
/-- What matches each class (-1: nothing). -/
def mtOf (l : List Int) : List Int := mtF l 0 [] (List.replicate l.length 0)
/-- The level of the place ahead of a place (the paragraph's, if there is none). -/
def aAt (l lev : List Int) (base : Int) : Nat → Int
  | 0 => base
  | i + 1 => if remC (rd l i) = true then aAt l lev base i else rd lev i
/-- The level of the place behind (j: how many classes stand behind). -/
def bAt (l lev : List Int) (base : Int) : Nat → Int
  | 0 => base
  | j + 1 => if remC (rd l ((l.length : Int) - 1 - j)) = true then bAt l lev base j else rd lev ((l.length : Int) - 1 - j)
def ahF (l lev : List Int) (base : Int) : List Int := (List.range l.length).map (aAt l lev base)
def beF (l lev : List Int) (base : Int) : List Int := (List.range l.length).map (fun k => bAt l lev base (l.length - 1 - k))
/-- The sequences on the way: all, which one is on, the place ahead (-1: none), which one waits for a place. -/
structure SqSt where
  all : List S36
  now : Nat
  last : Int
  wt : Int → Option Nat
def upW (f : Int → Option Nat) (k : Int) (v : Option Nat) : Int → Option Nat := fun x => if x = k then v else f x
def sqWait (l m : List Int) (st : SqSt) : Int → Option Nat :=
  if 0 ≤ st.last ∧ iniC (rd l st.last) = true ∧ 0 ≤ rd m st.last then upW st.wt (rd m st.last) (some st.now) else st.wt
/-- A run begins at i. -/
def sqTurn (l lev m ah : List Int) (i : Int) (st : SqSt) : SqSt :=
  match sqWait l m st i with
  | some s => ⟨st.all, s, st.last, upW (sqWait l m st) i none⟩
  | none => ⟨st.all ++ [⟨[], rd lev i, sideV (mx (rd lev i) (rd ah i)), 0⟩], st.all.length, st.last, upW (sqWait l m st) i none⟩
def sqPut (i : Int) (st : SqSt) : SqSt := ⟨st.all.modify st.now (fun s => { s with f0 := s.f0 ++ [i] }), st.now, i, st.wt⟩
def sqStep (l lev m ah : List Int) (i : Int) (st : SqSt) : SqSt :=
  if remC (rd l i) = true then st
  else if st.last < 0 ∨ rd lev st.last ≠ rd lev i then sqPut i (sqTurn l lev m ah i st)
  else sqPut i st
def sqF (l lev m ah : List Int) : List Int → Int → SqSt → SqSt
  | [], _, st => st
  | _ :: t, i, st => sqF l lev m ah t (i + 1) (sqStep l lev m ah i st)
def sq0 : SqSt := ⟨[], 0, -1, fun _ => none⟩
def lastP (p : List Int) : Int := rd p ((p.length : Int) - 1)
def sqEos (l lev m be : List Int) (base : Int) (s : S36) : S36 :=
  { s with f3 := sideV (mx (rd lev (lastP s.f0)) (if iniC (rd l (lastP s.f0)) = true ∧ rd m (lastP s.f0) < 0 then base else rd be (lastP s.f0))) }
/-- The sequences, and the error's number. -/
def sqRes (l lev : List Int) (base : Int) : List S36 × Int :=
  if 65536 < l.length then ([], 3)
  else if l.length ≠ lev.length then ([], 2)
  else ((sqF l lev (mtOf l) (ahF l lev base) l 0 sq0).all.map (sqEos l lev (mtOf l) (beF l lev base) base), 0)
/-- What runs.Sequences answers. -/
def runs_Sequences.f (l0 l1 : List Int) (a2 : Int) : Option (List S36 × Int) := if (0 ≤ a2 ∧ a2 ≤ 255) ∧ (l1.all fun x => decide (0 ≤ x ∧ x ≤ 255)) = true then some (sqRes l0 l1 a2) else none
end Go.Proofs.Ytofiflhjlohakaa.X
