/- The chapter's examples: the levels of single rows are worked out on the plain function; what holds of all rows (of at most 2000 classes) holds of the deep ones. -/
import Derived.Test.YtdkbkecnhebanaaT23
import Derived.Test.YtdkbkecnhebanaaPureExplicitLevels
import Derived.Test.YtdkbkecnhebanaaPureExplicitBounds
namespace Go.Proofs.Ytdkbkecnhebanaa.Pure
open Go.RowKit Go.Proofs.Ytdkbkecnhebanaa Go.Proofs.Ytdkbkecnhebanaa.X Go.Proofs.YtdkbkecnhebanaaW.PrintWords Go.Proofs.YtdkbkecnhebanaaW.PrintLast
set_option linter.unusedVariables false
set_option linter.unusedSimpArgs false
theorem u8w {x : Int} (h0 : 0 ≤ x) (h1 : x ≤ 255) : (Lit.int .u8 x).wf = true := by
  simp [Lit.wf, IntKind.min, IntKind.max, IntKind.signed, IntKind.bits]
  omega
theorem deep_l (n c : Int) (hn : n ≤ 100000) : ∀ (d : Nat) (i : Int) (o : List Int), 0 ≤ i → i ≤ n → (n - i).toNat = d → o.length ≤ 100000 + i.toNat → Ev (fun k => selvedgelaw14_deep.l0 k n c o i) (o ++ List.replicate d c ++ [14]) := by
  intro d
  induction d with
  | zero =>
    intro i o h0 h1 h2 h3
    refine E.succ (E.neg (by omega) (E.pos (by omega) (E.ret ?_)))
    simp
  | succ d ih =>
    intro i o h0 h1 h2 h3
    refine E.succ (E.pos (by omega) (E.pos (by omega) ?_))
    rw [E.w64 (by omega) (by omega)]
    have h := ih (i + 1) (o ++ [c]) (by omega) (by omega) (by omega) (by simp; omega)
    refine E.same h ?_
    rw [List.replicate_succ]
    simp
theorem deep_ev (n : Nat) (c : Int) (hn : n ≤ 100000) : Ev (fun k => selvedgelaw14_deep.f k (n : Int) c) (List.replicate n c ++ [14]) :=
  E.same (deep_l (n : Int) c (by omega) n 0 [] (by omega) (by omega) (by omega) (by simp)) (by simp)
theorem levels_ev (l : List Int) (b : Int) (hl : l.length ≤ 1000) (hx : ∀ x ∈ l, 0 ≤ x ∧ x ≤ 255) (hb : 0 ≤ b ∧ b ≤ 255) : Ev (fun k => selvedgelaw14_ExplicitLevels.f k l b) true := by
  obtain ⟨k, h⟩ := ExplicitLevels l b (by unfold maxLen; omega) (by omega) (fun x h => u8w (hx x h).1 (hx x h).2) (u8w hb.1 hb.2)
  exact E.of (fun k => selvedgelaw14_ExplicitLevels.mono _ _ k) k h
theorem base_ev (l : List Int) (hl : l.length ≤ 1000000) (v : Int) (h : (if dirS false l 0 = true then (1 : Int) else 0) = v) : Ev (fun k => explicit_Base.f k l) v := E.same (base_f l hl) h
def Ks : List Int := [61, 62, 63, 64, 124, 125, 126, 127, 130]
def Xs : List Int := [16, 15, 21, 20, 17, 22]
def tailL : List Int := [21, 2, 19, 23, 19, 14, 23, 19, 1, 11, 2, 16, 14]
theorem all_rd (l : List Int) (lo hi : Int) (h : l.all (fun x => decide (lo ≤ x ∧ x ≤ hi)) = true) (i : Int) (h0 : 0 ≤ i) (h1 : i < l.length) : lo ≤ rd l i ∧ rd l i ≤ hi := by
  have := List.all_eq_true.mp h _ (E.rd_mem h0 h1)
  simpa using this
theorem inner (x13 : Bool) (i : Int) (h0 : 0 ≤ i) (h1 : i < 9) (next : Ev (fun k => selvedgelaw14_ExplicitKnown.l0 k x13 Ks 9 (i + 1)) true) : ∀ (d : Nat) (j : Int), 0 ≤ j → j ≤ 6 → (6 - j).toNat = d → Ev (fun k => selvedgelaw14_ExplicitKnown.l1 k x13 (rd Ks i) Ks 9 i Xs 6 j) true := by
  intro d
  induction d with
  | zero =>
    intro j j0 j1 j2
    refine E.succ (E.neg (by omega) ?_)
    rw [E.w64 (by omega) (by omega)]
    exact next
  | succ d ih =>
    intro j j0 j1 j2
    have hk := all_rd Ks 0 130 (by decide) i h0 (by show i < 9; omega)
    have hx := all_rd Xs 0 255 (by decide) j j0 (by show j < 6; omega)
    obtain ⟨n, hn⟩ : ∃ n : Nat, rd Ks i = (n : Int) := ⟨(rd Ks i).toNat, by omega⟩
    rw [hn] at hk ih ⊢
    have m1 : ∀ x ∈ List.replicate n (rd Xs j) ++ [14], 0 ≤ x ∧ x ≤ 255 := by
      intro x h
      rcases List.mem_append.mp h with h | h
      · rw [(List.mem_replicate.mp h).2]; exact hx
      · simp at h; omega
    have m2 : ∀ x ∈ (List.replicate n (rd Xs j) ++ [14]) ++ tailL, 0 ≤ x ∧ x ≤ 255 := by
      intro x h
      rcases List.mem_append.mp h with h | h
      · exact m1 x h
      · have := List.all_eq_true.mp (show tailL.all (fun x => decide (0 ≤ x ∧ x ≤ 255)) = true by decide) x h
        simpa using this
    have l1 : (List.replicate n (rd Xs j) ++ [14]).length ≤ 1000 := by simp; omega
    have l2 : ((List.replicate n (rd Xs j) ++ [14]) ++ tailL).length ≤ 1000 := by simp [tailL]; omega
    refine E.succ (E.pos (by omega) (E.pos j0 (E.pos (by show j < 6; omega) ?_)))
    refine E.bnd (deep_ev n (rd Xs j) (by omega)) ?_
    obtain ⟨L, hL⟩ : ∃ L, List.replicate n (rd Xs j) ++ [14] = L := ⟨_, rfl⟩
    rw [hL] at m1 m2 l1 l2
    rw [hL]
    refine E.bnd (levels_ev L 0 l1 m1 (by omega)) (E.pos rfl (E.bnd (levels_ev L 1 l1 m1 (by omega)) (E.pos rfl (E.bno (ExplicitBounds L 0 (by unfold maxLen; omega) (by omega) (fun x h => u8w (m1 x h).1 (m1 x h).2) (u8w (by omega) (by omega))) ?_))))
    refine E.succ ?_
    refine E.bno rfl (E.pos (by show L.length + 13 < 140737488355328; omega) (E.bno rfl ?_))
    refine E.bnd (levels_ev (L ++ tailL) 0 l2 m2 (by omega)) (E.pos rfl (E.bnd (levels_ev (L ++ tailL) 2 l2 m2 (by omega)) (E.pos rfl ?_)))
    rw [E.w64 (by omega) (by omega)]
    exact ih (j + 1) (by omega) (by omega) (by omega)
theorem lv_of (l : List Int) (b : Int) (hb : 0 ≤ b) : explicit_Levels.f l b = some ((lvRes l b).1, (lvRes l b).2.1, (lvRes l b).2.2.1, (lvRes l b).2.2.2) := lvRes_some l b hb
theorem lv70 : ∃ A B n e, explicit_Levels.f (List.replicate 70 16 ++ [14]) 0 = some (A, B, n, e) ∧ 70 < (A.length : Int) ∧ rd A 70 = 125 :=
  ⟨_, _, _, _, lv_of _ 0 (by decide), by decide +kernel, by decide +kernel⟩
theorem lv200 : ∃ A B n e, explicit_Levels.f (List.replicate 200 21 ++ [14]) 1 = some (A, B, n, e) ∧ 200 < (A.length : Int) ∧ rd A 200 = 125 :=
  ⟨_, _, _, _, lv_of _ 1 (by decide), by decide +kernel, by decide +kernel⟩
theorem lv_big (n : Nat) (hn : 65536 ≤ n) : ∃ A B m, explicit_Levels.f (List.replicate n 1 ++ [14]) 0 = some (A, B, m, 3) :=
  ⟨[], [], 0, (lvRes_some _ 0 (by decide)).trans (congrArg some (if_pos (by simp; omega)))⟩
theorem lv_fits (n : Nat) (hn : n ≤ 65535) : ∃ A B m, explicit_Levels.f (List.replicate n 1 ++ [14]) 0 = some (A, B, m, 0) :=
  ⟨_, _, _, (lvRes_some _ 0 (by decide)).trans (congrArg some (lvRes_is _ 0 (by simp; omega) (by simp [List.all_eq_true, okC]) (by decide)))⟩
theorem last_ev : Ev (fun k => selvedgelaw14_ExplicitKnown.j4 k true true) true := by
  refine E.succ ?_
  refine E.bnd (base_ev _ (by decide) 0 (by decide)) (E.pos rfl (E.bnd (base_ev _ (by decide) 0 (by decide)) (E.pos rfl (E.bnd (base_ev _ (by decide) 1 (by decide)) (E.pos rfl (E.bnd (base_ev _ (by decide) 0 (by decide)) (E.pos rfl (E.bnd (base_ev _ (by decide) 1 (by decide)) (E.pos rfl (E.bnd (base_ev _ (by decide) 0 (by decide)) ?_))))))))))
  exact E.pos rfl (E.pos rfl (E.pos rfl (E.bnd works_ev (E.ret rfl))))
theorem outer : ∀ (d : Nat) (i : Int), 0 ≤ i → i ≤ 9 → (9 - i).toNat = d → Ev (fun k => selvedgelaw14_ExplicitKnown.l0 k true Ks 9 i) true := by
  intro d
  induction d with
  | zero =>
    intro i h0 h1 h2
    refine E.succ (E.neg (by omega) ?_)
    obtain ⟨A1, B1, n1, e1, f1, g1, q1⟩ := lv70
    obtain ⟨A2, B2, n2, e2, f2, g2, q2⟩ := lv200
    obtain ⟨A3, B3, n3, f3⟩ := lv_big 65536 (by omega)
    obtain ⟨A4, B4, n4, f4⟩ := lv_fits 65535 (by omega)
    have D1 : Ev (fun k => selvedgelaw14_deep.f k 70 16) (List.replicate 70 16 ++ [14]) := deep_ev 70 16 (by omega)
    have D2 : Ev (fun k => selvedgelaw14_deep.f k 200 21) (List.replicate 200 21 ++ [14]) := deep_ev 200 21 (by omega)
    have D3 : Ev (fun k => selvedgelaw14_deep.f k 65536 1) (List.replicate 65536 1 ++ [14]) := deep_ev 65536 1 (by omega)
    have D4 : Ev (fun k => selvedgelaw14_deep.f k 65535 1) (List.replicate 65535 1 ++ [14]) := deep_ev 65535 1 (by omega)
    generalize List.replicate 70 (16 : Int) ++ [14] = L1 at D1 f1
    generalize List.replicate 200 (21 : Int) ++ [14] = L2 at D2 f2
    generalize List.replicate 65536 (1 : Int) ++ [14] = L3 at D3 f3
    generalize List.replicate 65535 (1 : Int) ++ [14] = L4 at D4 f4
    refine E.bnd D1 (E.bno f1 (E.bnd D2 (E.bno f2 (E.bno (show explicit_Levels.f [0] 0 = some ([], [], 0, 2) by decide +kernel) (E.bno (show explicit_Levels.f [24] 0 = some ([], [], 0, 2) by decide +kernel) (E.bno (show explicit_Levels.f [] 3 = some ([], [], 0, 2) by decide +kernel) (E.bno (show explicit_Levels.f [] 2 = some ([], [], 0, 0) by decide +kernel) (E.bnd D3 (E.bno f3 (E.bnd D4 (E.bno f4 ?_)))))))))))
    refine E.pos g1 (E.pos q1 (E.pos g2 (E.pos q2 ?_)))
    refine E.pos rfl (E.pos rfl (E.pos rfl (E.pos rfl (E.pos rfl (E.pos rfl ?_)))))
    exact last_ev
  | succ d ih =>
    intro i h0 h1 h2
    refine E.succ (E.pos (by omega) (E.pos h0 (E.pos (by show i < 9; omega) (E.bno rfl ?_))))
    exact inner true i h0 (by omega) (ih (i + 1) (by omega) (by omega) (by omega)) 6 0 (by omega) (by omega) (by omega)
theorem ExplicitKnown : selvedgelaw14_ExplicitKnown.Pure := by
  apply E.out
  refine E.bno (show explicit_Levels.f [1, 16, 1, 19, 1] 0 = some ([0, 0, 1, 1, 0], _, _, _) from lv_of _ 0 (by decide)) ?_
  refine E.bno (show explicit_Levels.f [2, 22, 3, 23, 1] 2 = some ([1, 1, 3, 1, 1], _, 1, _) from lv_of _ 2 (by decide)) ?_
  refine E.bno (show explicit_Levels.f [23, 21, 11, 16, 1] 2 = some ([0, 0, 0, 0, 1], _, 0, _) from lv_of _ 2 (by decide)) ?_
  refine E.pos (by decide +kernel) (E.pos (by decide +kernel) (E.pos rfl (E.pos (by decide +kernel) ?_)))
  refine E.succ ?_
  exact E.bno rfl (outer 9 0 (by omega) (by omega) (by omega))
end Go.Proofs.Ytdkbkecnhebanaa.Pure
