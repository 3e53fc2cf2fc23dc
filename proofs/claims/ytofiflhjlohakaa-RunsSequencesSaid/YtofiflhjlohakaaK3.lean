import Derived.Test.YtofiflhjlohakaaK2
import Derived.Test.YtofiflhjlohakaaX4
/-! The document's runs and sequences: what its functions come to. -/
namespace Go.Proofs.Ytofiflhjlohakaa.X
open Go.RowKit Go.Proofs.YtofiflhjlohakaaW.PrintWords Go.Proofs.YtofiflhjlohakaaW.PrintLast Go.Proofs.YtofiflhjlohakaaW.PrintMore
set_option linter.unusedVariables false
set_option linter.unusedSimpArgs false
/-! ### The levels around -/
theorem around_l1 (l lev : List Int) (base : Int) (hl : l.length ≤ 1000000) (hv : lev.length = l.length) (x8 : List Int) : ∀ (t i : Nat), i + t = l.length →
    Ev (fun k => selvedgeref15_around.l1 k l lev x8 (beU l lev base i) (bAt l lev base i) ((l.length : Int) - 1 - i)) (x8, beF l lev base) := by
  intro t
  induction t with
  | zero =>
    intro i hi
    have : i = l.length := by omega
    refine E.succ (E.neg (by omega) (E.ret ?_))
    rw [this, beU_all]
  | succ t ih =>
    intro i hi
    have w3 : wrap64 ((l.length : Int) - 1 - i - 1) = (l.length : Int) - 1 - ((i + 1 : Nat) : Int) := by rw [E.w64 (by omega) (by omega)]; omega
    have e1 : ((l.length : Int) - 1 - i).toNat = l.length - 1 - i := by omega
    have lb : (beU l lev base i).length = l.length := by simp [beU]
    have IH := ih (i + 1) (by omega)
    rw [← w3] at IH
    have hB : bAt l lev base (i + 1) = if remC (rd l ((l.length : Int) - 1 - i)) = true then bAt l lev base i else rd lev ((l.length : Int) - 1 - i) := rfl
    rw [hB, ← beU_set l lev base i (by omega), ← e1] at IH
    refine E.succ (E.pos (by omega) (E.pos (by omega) (E.pos (by omega) (E.bno rfl (E.pos (by omega) (E.bno (removed14 _) ?_))))))
    cases q : remC (rd l ((l.length : Int) - 1 - i)) with
    | true =>
      rw [q] at IH
      exact E.pos rfl IH
    | false =>
      rw [q] at IH
      exact E.neg (by decide) (E.pos (by omega) IH)
theorem around_l0 (l lev : List Int) (base : Int) (hl : l.length ≤ 1000000) (hv : lev.length = l.length) : ∀ (t i : Nat), i + t = l.length →
    Ev (fun k => selvedgeref15_around.l0 k l lev base (ahU l lev base i) (beU l lev base 0) (aAt l lev base i) (i : Int)) (ahF l lev base, beF l lev base) := by
  intro t
  induction t with
  | zero =>
    intro i hi
    have e : i = l.length := by omega
    refine E.succ (E.neg (by omega) ?_)
    rw [e, ahU_all]
    have w : wrap64 ((l.length : Int) - 1) = (l.length : Int) - 1 - ((0 : Nat) : Int) := by rw [E.w64 (by omega) (by omega)]; omega
    rw [w]
    exact around_l1 l lev base hl hv _ l.length 0 (by omega)
  | succ t ih =>
    intro i hi
    have w3 : wrap64 ((i : Int) + 1) = ((i + 1 : Nat) : Int) := by rw [E.w64 (by omega) (by omega)]; omega
    have la : (ahU l lev base i).length = l.length := by simp [ahU]
    have IH := ih (i + 1) (by omega)
    rw [← w3] at IH
    have hA : aAt l lev base (i + 1) = if remC (rd l (i : Int)) = true then aAt l lev base i else rd lev (i : Int) := rfl
    rw [hA, ← ahU_set] at IH
    refine E.succ (E.pos (by omega) (E.pos (by omega) (E.pos (by omega) (E.bno rfl (E.bno (removed14 _) ?_)))))
    rw [Int.toNat_natCast]
    cases q : remC (rd l (i : Int)) with
    | true =>
      rw [q] at IH
      exact E.pos rfl IH
    | false =>
      rw [q] at IH
      exact E.neg (by decide) (E.pos (by omega) IH)
theorem around_ev (l lev : List Int) (base : Int) (hl : l.length ≤ 1000000) (hv : lev.length = l.length) : Ev (fun k => selvedgeref15_around.f k l lev base) (ahF l lev base, beF l lev base) := by
  refine E.pos (by omega) (E.pos (by rw [Int.toNat_natCast]; omega) ?_)
  rw [Int.toNat_natCast]
  have h := around_l0 l lev base hl hv l.length 0 (by omega)
  have e1 : ahU l lev base 0 = List.replicate l.length 0 := by
    rw [replicate_range]
    exact List.map_congr_left (fun j _ => if_neg (by omega))
  have e2 : beU l lev base 0 = List.replicate l.length 0 := by
    rw [replicate_range]
    exact List.map_congr_left (fun j hj => if_neg (by have := List.mem_range.mp hj; omega))
  rw [e1, e2] at h
  exact h
theorem side15 (n : Int) (h : 0 ≤ n) : selvedgeref15_side.f n = some (sideV n) := by
  unfold selvedgeref15_side.f sideV
  rw [Int.tmod_eq_emod_of_nonneg h]
  split <;> rfl
/-! ### The runs -/
def mk55 (r : List Int) : S55 := ⟨r, -1, -1⟩
theorem T55_map {α : Type} (g : α → S55) (L : List α) (d : α) (i : Nat) (h : i < L.length) : rd_T55 (L.map g) (i : Int) = g (L.getD i d) := by simp [rd_T55, h]
theorem T55_last (Q : List S55) (c : S55) : rd_T55 (Q ++ [c]) (Q.length : Int) = c := by simp [rd_T55]
theorem set_last {α : Type} (Q : List α) (c d : α) : (Q ++ [c]).set Q.length d = Q ++ [d] := by simp
/-- The run begins or goes on: what the document does with place i. -/
theorem ref_runs_l0 (l lev ah : List Int) (hl : l.length ≤ 2000) (hv : lev.length = l.length) (res : List S55)
    (hN : Ev (fun k => (selvedgeref14_Match.f k l).bind fun t150 => (if 0 ≤ (l.length : Int) then (if ((l.length : Int) : Int).toNat ≤ 35184372088832 then (selvedgeref15_runs.l1 k l ((rAt l lev l.length).map mk55) t150 (List.replicate ((l.length : Int) : Int).toNat 0) 0) else (none)) else (none))) res) :
    ∀ (t i : Nat), i + t = l.length → Ev (fun k => selvedgeref15_runs.l0 k l lev ((rAt l lev i).map mk55) (i : Int)) res := by
  intro t
  induction t with
  | zero =>
    intro i hi
    have e : i = l.length := by omega
    rw [e]
    exact E.succ (E.neg (by omega) hN)
  | succ t ih =>
    intro i hi
    obtain ⟨P, h⟩ := j_at l lev ah i (by omega)
    have w3 : wrap64 ((i : Int) + 1) = ((i + 1 : Nat) : Int) := by rw [E.w64 (by omega) (by omega)]; omega
    have IH := ih (i + 1) (by omega)
    rw [← w3] at IH
    have hR : rAt l lev (i + 1) = if remC (rd l i) = true then rAt l lev i else rPut lev i (rAt l lev i) := rfl
    rw [hR] at IH
    refine E.succ (E.pos (by omega) (E.pos (by omega) (E.bno (removed14 _) ?_)))
    cases q : remC (rd l (i : Int)) with
    | true =>
      rw [if_pos q] at IH
      exact E.pos rfl IH
    | false =>
      rw [if_neg (by rw [q]; decide)] at IH
      -- a new run
      have hnew : ∀ R : List (List Int), R.length ≤ 2000 → Ev (fun k => selvedgeref15_runs.l0 k l lev ((R ++ [[(i : Int)]]).map mk55) (wrap64 ((i : Int) + 1))) res → ∀ (x5 : List S55), x5 = R.map mk55 → 
          Ev (fun k => if x5.length < 3518437208883 then ((some (x5 ++ [(⟨([] : List Int), (-1), (-1)⟩ : S55)] : List (S55))).bind fun y125 => (if 0 ≤ (wrap64 ((wrap64 ((x5.length : Int) + 1)) - 1)) then (if (wrap64 ((wrap64 ((x5.length : Int) + 1)) - 1)) < (y125.length : Int) then (if ((rd_T55 y125 (wrap64 ((wrap64 ((x5.length : Int) + 1)) - 1))).f0).length < 17592186044416 then (selvedgeref15_runs.l0 k l lev (y125.set ((wrap64 ((wrap64 ((x5.length : Int) + 1)) - 1)) : Int).toNat (⟨(((rd_T55 y125 (wrap64 ((wrap64 ((x5.length : Int) + 1)) - 1))).f0) ++ [(i : Int)]), (rd_T55 y125 (wrap64 ((wrap64 ((x5.length : Int) + 1)) - 1))).f1, (rd_T55 y125 (wrap64 ((wrap64 ((x5.length : Int) + 1)) - 1))).f2⟩ : S55)) (wrap64 ((i : Int) + 1))) else (none)) else (none)) else (none))) else (none)) res := by
        intro R hRl hE x5 hx5
        have hx5l : x5.length = R.length := by rw [hx5, List.length_map]
        have w1 : wrap64 ((x5.length : Int) + 1) = (x5.length : Int) + 1 := E.w64 (by omega) (by omega)
        have w2 : wrap64 ((x5.length : Int) + 1 - 1) = (x5.length : Int) := by rw [E.w64 (by omega) (by omega)]; omega
        refine E.pos (by omega) (E.bno rfl ?_)
        rw [w1, w2, T55_last, Int.toNat_natCast, set_last]
        refine E.pos (by omega) (E.pos (by simp; omega) (E.pos (by simp) ?_))
        rw [hx5]
        rw [List.map_append] at hE
        exact hE
      have hRl : ((rAt l lev i).map mk55).length = (rAt l lev i).length := List.length_map _
      refine E.neg (by decide) ?_
      rw [h.rn] at IH ⊢
      rcases h.ls with ⟨rfl, _⟩ | ⟨Q, c, rfl, _, _⟩
      · exact E.pos rfl (hnew [] (by simp) IH _ rfl)
      · have hcm : c ∈ Q ++ [c] := by simp
        have hne := h.ne c hcm
        have hcl := List.length_pos_iff.mpr hne
        have hc0 := h.bd (rd c.pl 0) (List.mem_flatMap.mpr ⟨c, hcm, E.rd_mem (by omega) (by omega)⟩)
        have hQl : Q.length + 1 ≤ i + 1 := by
          have h1 : (Q ++ [c]).length ≤ ((Q ++ [c]).flatMap (·.pl)).length := by
            have : ∀ L : List Rn, (∀ d ∈ L, d.pl ≠ []) → L.length ≤ (L.flatMap (·.pl)).length := by
              intro L
              induction L with
              | nil => intro _; simp
              | cons d L ihL =>
                intro hd
                have := List.length_pos_iff.mpr (hd d (by simp))
                have := ihL (fun e he => hd e (by simp [he]))
                simp only [List.flatMap_cons, List.length_append, List.length_cons]
                omega
            exact this _ h.ne
          have h2 : ((Q ++ [c]).flatMap (·.pl)).length ≤ i := inc_len _ h.inc i h.bd
          simp at h1
          simp only [List.flatMap_append] at h2
          simp at h2
          omega
        have hcll : c.pl.length ≤ i := by
          have h2 : ((Q ++ [c]).flatMap (·.pl)).length ≤ i := inc_len _ h.inc i h.bd
          rw [flat_snoc, List.length_append] at h2
          omega
        have hlen : (((Q ++ [c]).map (·.pl)).map mk55).length = Q.length + 1 := by simp
        have w4 : wrap64 (((((Q ++ [c]).map (·.pl)).map mk55).length : Int) - 1) = (Q.length : Int) := by rw [hlen, E.w64 (by omega) (by omega)]; omega
        have hmap : ((Q ++ [c]).map (·.pl)).map mk55 = (Q.map (fun d => mk55 d.pl)) ++ [mk55 c.pl] := by simp
        have hlast : rd_T55 (((Q ++ [c]).map (·.pl)).map mk55) (Q.length : Int) = mk55 c.pl := by
          rw [hmap]
          have := T55_last (Q.map (fun d => mk55 d.pl)) (mk55 c.pl)
          rw [List.length_map] at this
          exact this
        have hput : rPut lev i ((Q ++ [c]).map (·.pl)) = if rd lev (rd c.pl 0) = rd lev i then Q.map (·.pl) ++ [c.pl ++ [(i : Int)]] else (Q ++ [c]).map (·.pl) ++ [[(i : Int)]] := by
          unfold rPut
          have e1 : ((Q ++ [c]).map (·.pl)).getLast? = some c.pl := by simp
          rw [e1]
          simp
        rw [hput] at IH
        refine E.neg (by rw [hlen]; omega) ?_
        rw [w4, hlast]
        refine E.pos (by omega) (E.pos (by rw [hlen]; omega) (E.pos (by show (0 : Int) < (c.pl.length : Int); omega) (E.pos (by exact hc0.1) (E.pos (by show rd c.pl 0 < _; omega) (E.pos (by omega) ?_)))))
        by_cases q2 : rd lev (rd c.pl 0) = rd lev (i : Int)
        · rw [if_pos q2] at IH
          refine E.pos q2 (E.pos (by show c.pl.length < _; omega) ?_)
          have e : (((Q ++ [c]).map (·.pl)).map mk55).set ((Q.length : Int)).toNat ⟨(mk55 c.pl).f0 ++ [(i : Int)], (mk55 c.pl).f1, (mk55 c.pl).f2⟩ = (Q.map (·.pl) ++ [c.pl ++ [(i : Int)]]).map mk55 := by
            rw [hmap, Int.toNat_natCast]
            have := set_last (Q.map (fun d => mk55 d.pl)) (mk55 c.pl) ⟨(mk55 c.pl).f0 ++ [(i : Int)], (mk55 c.pl).f1, (mk55 c.pl).f2⟩
            rw [List.length_map] at this
            rw [this]
            simp [mk55]
          rw [e]
          exact IH
        · rw [if_neg q2] at IH
          exact E.neg q2 (hnew _ (by simp; omega) IH _ rfl)
end Go.Proofs.Ytofiflhjlohakaa.X
