/- The statement WeakKnown of chapter 16 (a closed one): the examples of the chapter, and the laws WeakResolves and WeakEnds at rows of few classes, answer true. -/
import Derived.Test.YtnpcfiahmadkjaaC
namespace Go.Proofs.Ytnpcfiahmadkjaa.Pure
open Go.RowKit Go.Proofs.Ytnpcfiahmadkjaa.X Go.Proofs.YtnpcfiahmadkjaaW.PrintWords Go.Proofs.YtnpcfiahmadkjaaW.PrintLast Go.Proofs.Ytnpcfiahmadkjaa
set_option linter.unusedVariables false
set_option linter.unusedSimpArgs false

theorem loop2 (a b : Int) (r : List Int → Prop) (hr : ∀ x, r x → Ev (fun k => selvedgelaw16_WeakKnown.l1 k true true x a ((b + 1) % 256)) true) (n : Nat) :
    ∀ (j : Nat) (x : List Int), j + n = 12 → x.length + 3 * n ≤ 100000 → (∀ y : List Int, y.length = x.length + 3 * n → r y) → Ev (fun k => selvedgelaw16_WeakKnown.l2 k true true x a b (2 * (j : Int) + 1)) true := by
  induction n with
  | zero =>
    intro j x hj hx hy
    refine E.succ ?_
    simp only [selvedgelaw16_WeakKnown.l2]
    exact E.neg (by omega) (E.bnd (A.weakResolves _ _) (E.pos rfl (E.bnd (A.weakEnds _ _) (E.pos rfl (hr x (hy x (by omega)))))))
  | succ n ih =>
    intro j x hj hx hy
    refine E.succ ?_
    simp only [selvedgelaw16_WeakKnown.l2]
    refine E.pos (by omega) (E.bno rfl (E.pos (by simp; omega) ?_))
    rw [show (2 * (j : Int) + 1 + 2) % 256 = 2 * ((j + 1 : Nat) : Int) + 1 by omega]
    exact ih (j + 1) _ (by omega) (by simp; omega) (fun y h => hy y (by rw [h]; simp; omega))
theorem loop1 (a : Int) (r : List Int → Prop) (hr : ∀ x, r x → Ev (fun k => selvedgelaw16_WeakKnown.l0 k true true x ((a + 1) % 256)) true) (n : Nat) :
    ∀ (b : Int) (x : List Int), b + n = 24 → 1 ≤ b → x.length + 36 * n ≤ 100000 → (∀ y : List Int, y.length = x.length + 36 * n → r y) → Ev (fun k => selvedgelaw16_WeakKnown.l1 k true true x a b) true := by
  induction n with
  | zero =>
    intro b x hb h1 hx hy
    refine E.succ ?_
    simp only [selvedgelaw16_WeakKnown.l1]
    exact E.neg (by omega) (hr x (hy x (by omega)))
  | succ n ih =>
    intro b x hb h1 hx hy
    refine E.succ ?_
    simp only [selvedgelaw16_WeakKnown.l1]
    refine E.pos (by omega) ?_
    refine loop2 a b (fun y => y.length = x.length + 36) (fun y h => ?_) 12 0 x (by omega) (by omega) (fun y h => by omega)
    rw [show (b + 1) % 256 = b + 1 by omega]
    exact ih (b + 1) y (by omega) (by omega) (by omega) (fun z h' => hy z (by omega))
theorem loop0 (n : Nat) : ∀ (a : Int) (x : List Int), a + n = 24 → 1 ≤ a → x.length + 828 * n = 19044 → Ev (fun k => selvedgelaw16_WeakKnown.l0 k true true x a) true := by
  induction n with
  | zero =>
    intro a x ha h1 hx
    refine E.succ ?_
    simp only [selvedgelaw16_WeakKnown.l0]
    exact E.neg (by omega) (E.pos (by trivial) (E.pos (by trivial) (E.pos (by omega) (E.bnd (A.weakResolves _ _) (E.pos rfl (E.pos (by decide) (E.pos (by omega) (E.bnd (A.weakResolves _ _) (E.pos rfl (E.bnd (A.weakResolves _ _) (E.pos rfl (E.bnd A.works_ev (E.ret rfl)))))))))))))
  | succ n ih =>
    intro a x ha h1 hx
    refine E.succ ?_
    simp only [selvedgelaw16_WeakKnown.l0]
    refine E.pos (by omega) ?_
    refine loop1 a (fun y => y.length = x.length + 828) (fun y h => ?_) 23 1 x (by omega) (by omega) (by omega) (fun y h => by omega)
    rw [show (a + 1) % 256 = a + 1 by omega]
    exact ih (a + 1) y (by omega) (by omega) (by omega)
theorem WeakKnown : selvedgelaw16_WeakKnown.Pure := by
  refine E.out ?_
  unfold selvedgelaw16_WeakKnown.f
  refine E.bno (a := [2, 21, 14, 23, 14]) (by decide +kernel) (E.bnd (A.is_self _ (by decide)) (E.pos rfl (E.bno (a := [1, 1, 1, 1, 1, 1, 1]) (by decide +kernel) (E.bnd (A.is_self _ (by decide)) (E.pos rfl (E.bno (a := [2, 4, 14, 7, 4, 4, 4, 4]) (by decide +kernel) (E.bnd (A.is_self _ (by decide)) ?_)))))))
  refine E.succ ?_
  simp only [selvedgelaw16_WeakKnown.j0]
  refine E.bno (a := [1, 10, 1, 10, 1, 10, 1]) (by decide +kernel) (E.bnd (A.is_self _ (by decide)) (E.pos rfl (E.bno (a := [14, 10, 14, 14]) (by decide +kernel) (E.bnd (A.is_self _ (by decide)) (E.pos rfl (E.bno (a := []) (by decide +kernel) ?_))))))
  refine E.succ ?_
  simp only [selvedgelaw16_WeakKnown.j1]
  exact loop0 23 1 [] (by omega) (by omega) rfl
end Go.Proofs.Ytnpcfiahmadkjaa.Pure
