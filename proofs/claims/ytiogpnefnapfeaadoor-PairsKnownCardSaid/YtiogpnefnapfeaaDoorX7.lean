-- by xprint.py: the kit's printer over texts of this session
import Derived.Test.YtiogpnefnapfeaaDoorX0
import Derived.Test.YtiogpnefnapfeaaDoorX1
import Derived.Test.YtiogpnefnapfeaaDoorX1b
import Derived.Test.YtiogpnefnapfeaaDoorX2
import Derived.Test.YtiogpnefnapfeaaDoorT3
import Derived.Test.YtiogpnefnapfeaaDoorT4
namespace Go.Proofs.YtiogpnefnapfeaaDoor.X
open Go.RowKit Go.Proofs.YtiogpnefnapfeaaDoorW.PrintWords Go.Proofs.YtiogpnefnapfeaaDoorW.PrintLast Go.Proofs.YtiogpnefnapfeaaDoorW.PrintMore
attribute [local go_sem] max2_int min2_int max_two min_two max_three min_three max_four min_four   -- for this text's walks alone
set_option linter.unusedVariables false
set_option linter.unusedSimpArgs false

/-! ### selvedgelaw17_PairsNest: function 5 -/
mutual
def selvedgelaw17_PairsNest.j0 : Nat → List Int → List Int → List Int → Int → Int → Bool → Option (Bool)
 | 0, _, _, _, _, _, _ => none
 | k + 1, x0, x1, x2, x3, x4, x42 => if x42 = true then ((selvedgelaw17_works.f k).bind fun t223 => (some t223)) else ((pairs_Pairs.f x0 x2).bind fun t224 => ((pairs_Resolve.f x0 x1 x2 x3 x4).bind fun bt227 => (if bt227.2 = 0 then (selvedgelaw17_PairsNest.j1 k x0 x1 x2 t224 bt227.1 ((bt227.1.length : Int) != (x0.length : Int))) else (selvedgelaw17_PairsNest.j1 k x0 x1 x2 t224 bt227.1 true))))
def selvedgelaw17_PairsNest.j1 : Nat → List Int → List Int → List Int → List (S30) → List Int → Bool → Option (Bool)
 | 0, _, _, _, _, _, _ => none
 | k + 1, x0, x1, x2, x11, x12, x64 => if x64 = true then (some false) else (if 0 ≤ (x0.length : Int) then (if ((x0.length : Int) : Int).toNat ≤ 281474976710656 then (selvedgelaw17_PairsNest.l0 k x0 x1 x2 x11 x12 (List.replicate ((x0.length : Int) : Int).toNat false) 0) else (none)) else (none))
def selvedgelaw17_PairsNest.l0 : Nat → List Int → List Int → List Int → List (S30) → List Int → List Bool → Int → Option (Bool)
 | 0, _, _, _, _, _, _, _ => none
 | k + 1, x0, x1, x2, x11, x12, x14, x15 => if x15 < (x11.length : Int) then (if 0 ≤ x15 then (if ((rd_T30 x11 x15).f0) < 0 then (selvedgelaw17_PairsNest.j3 k x0 x1 x2 x11 x12 x14 x15 ((rd_T30 x11 x15).f0) ((rd_T30 x11 x15).f1) true) else (if ((rd_T30 x11 x15).f1) ≤ ((rd_T30 x11 x15).f0) then (selvedgelaw17_PairsNest.j3 k x0 x1 x2 x11 x12 x14 x15 ((rd_T30 x11 x15).f0) ((rd_T30 x11 x15).f1) true) else (if ((rd_T30 x11 x15).f1) ≥ (x0.length : Int) then (selvedgelaw17_PairsNest.j3 k x0 x1 x2 x11 x12 x14 x15 ((rd_T30 x11 x15).f0) ((rd_T30 x11 x15).f1) true) else (if 0 ≤ ((rd_T30 x11 x15).f0) then (if ((rd_T30 x11 x15).f0) < (x14.length : Int) then (if rdOf false x14 ((rd_T30 x11 x15).f0) = true then (selvedgelaw17_PairsNest.j3 k x0 x1 x2 x11 x12 x14 x15 ((rd_T30 x11 x15).f0) ((rd_T30 x11 x15).f1) true) else (if 0 ≤ ((rd_T30 x11 x15).f1) then (if ((rd_T30 x11 x15).f1) < (x14.length : Int) then (if rdOf false x14 ((rd_T30 x11 x15).f1) = true then (selvedgelaw17_PairsNest.j3 k x0 x1 x2 x11 x12 x14 x15 ((rd_T30 x11 x15).f0) ((rd_T30 x11 x15).f1) true) else (if ((rd_T30 x11 x15).f0) < (x2.length : Int) then (if (rd x2 ((rd_T30 x11 x15).f0)) = 14 then (if ((rd_T30 x11 x15).f1) < (x2.length : Int) then (if (rd x2 ((rd_T30 x11 x15).f1)) = 14 then (if ((rd_T30 x11 x15).f0) < (x12.length : Int) then (if ((rd_T30 x11 x15).f1) < (x12.length : Int) then (if (rd x12 ((rd_T30 x11 x15).f0)) = (rd x12 ((rd_T30 x11 x15).f1)) then (selvedgelaw17_PairsNest.j3 k x0 x1 x2 x11 x12 x14 x15 ((rd_T30 x11 x15).f0) ((rd_T30 x11 x15).f1) false) else (if ((rd_T30 x11 x15).f0) < (x1.length : Int) then (if (rd x1 ((rd_T30 x11 x15).f0)) = 9 then (selvedgelaw17_PairsNest.j3 k x0 x1 x2 x11 x12 x14 x15 ((rd_T30 x11 x15).f0) ((rd_T30 x11 x15).f1) false) else (if ((rd_T30 x11 x15).f1) < (x1.length : Int) then (selvedgelaw17_PairsNest.j3 k x0 x1 x2 x11 x12 x14 x15 ((rd_T30 x11 x15).f0) ((rd_T30 x11 x15).f1) ((rd x1 ((rd_T30 x11 x15).f1)) != 9)) else (none))) else (none))) else (none)) else (none)) else (selvedgelaw17_PairsNest.j3 k x0 x1 x2 x11 x12 x14 x15 ((rd_T30 x11 x15).f0) ((rd_T30 x11 x15).f1) true)) else (none)) else (selvedgelaw17_PairsNest.j3 k x0 x1 x2 x11 x12 x14 x15 ((rd_T30 x11 x15).f0) ((rd_T30 x11 x15).f1) true)) else (none))) else (none)) else (none))) else (none)) else (none))))) else (none)) else (selvedgelaw17_PairsNest.l2 k x0 x1 x2 x12 x14 0)
def selvedgelaw17_PairsNest.j3 : Nat → List Int → List Int → List Int → List (S30) → List Int → List Bool → Int → Int → Int → Bool → Option (Bool)
 | 0, _, _, _, _, _, _, _, _, _, _ => none
 | k + 1, x0, x1, x2, x11, x12, x14, x15, x16, x17, x147 => if x147 = true then (some false) else (if 0 ≤ x16 then (if x16 < (x0.length : Int) then ((selvedgeref01_Bracket.f k (rd x0 x16)).bind fun bt245 => (if 0 ≤ x17 then (if x17 < (x0.length : Int) then ((selvedgeref01_Bracket.f k (rd x0 x17)).bind fun bt249 => (if bt245.2.1 = true then (if bt245.2.2 = true then (if bt249.2.1 = true then (selvedgelaw17_PairsNest.j4 k x0 x1 x2 x11 x12 x14 x15 x16 x17 true) else (if bt249.2.2 = true then (selvedgelaw17_PairsNest.j4 k x0 x1 x2 x11 x12 x14 x15 x16 x17 (bt245.1 != bt249.1)) else (selvedgelaw17_PairsNest.j4 k x0 x1 x2 x11 x12 x14 x15 x16 x17 true))) else (selvedgelaw17_PairsNest.j4 k x0 x1 x2 x11 x12 x14 x15 x16 x17 true)) else (selvedgelaw17_PairsNest.j4 k x0 x1 x2 x11 x12 x14 x15 x16 x17 true))) else (none)) else (none))) else (none)) else (none))
def selvedgelaw17_PairsNest.j4 : Nat → List Int → List Int → List Int → List (S30) → List Int → List Bool → Int → Int → Int → Bool → Option (Bool)
 | 0, _, _, _, _, _, _, _, _, _, _ => none
 | k + 1, x0, x1, x2, x11, x12, x14, x15, x16, x17, x183 => if x183 = true then (some false) else (if 0 ≤ x16 then (if x16 < (x14.length : Int) then (if 0 ≤ x17 then (if x17 < (x14.length : Int) then (selvedgelaw17_PairsNest.l1 k x0 x1 x2 x11 x12 ((x14.set (x16 : Int).toNat true).set (x17 : Int).toNat true) x15 x16 x17 0) else (none)) else (none)) else (none)) else (none))
def selvedgelaw17_PairsNest.l1 : Nat → List Int → List Int → List Int → List (S30) → List Int → List Bool → Int → Int → Int → Int → Option (Bool)
 | 0, _, _, _, _, _, _, _, _, _, _ => none
 | k + 1, x0, x1, x2, x11, x12, x14, x15, x16, x17, x24 => if x24 < x15 then (if 0 ≤ x24 then (if x24 < (x11.length : Int) then (if ((rd_T30 x11 x24).f0) ≥ x16 then (some false) else (if ((rd_T30 x11 x24).f1) > x16 then (if ((rd_T30 x11 x24).f1) < x17 then (some false) else (selvedgelaw17_PairsNest.l1 k x0 x1 x2 x11 x12 x14 x15 x16 x17 (wrap64 (x24 + 1)))) else (selvedgelaw17_PairsNest.l1 k x0 x1 x2 x11 x12 x14 x15 x16 x17 (wrap64 (x24 + 1))))) else (none)) else (none)) else (selvedgelaw17_PairsNest.l0 k x0 x1 x2 x11 x12 x14 (wrap64 (x15 + 1)))
def selvedgelaw17_PairsNest.l2 : Nat → List Int → List Int → List Int → List Int → List Bool → Int → Option (Bool)
 | 0, _, _, _, _, _, _ => none
 | k + 1, x0, x1, x2, x12, x14, x25 => if x25 < (x0.length : Int) then (if 0 ≤ x25 then (if x25 < (x12.length : Int) then (if x25 < (x2.length : Int) then (if (rd x12 x25) = (rd x2 x25) then (selvedgelaw17_PairsNest.l2 k x0 x1 x2 x12 x14 (wrap64 (x25 + 1))) else (if x25 < (x14.length : Int) then (if rdOf false x14 x25 = true then (if (rd x12 x25) = 1 then (selvedgelaw17_PairsNest.l2 k x0 x1 x2 x12 x14 (wrap64 (x25 + 1))) else (if (rd x12 x25) = 2 then (selvedgelaw17_PairsNest.l2 k x0 x1 x2 x12 x14 (wrap64 (x25 + 1))) else (some false))) else (if x25 < (x1.length : Int) then (if (rd x1 x25) = 9 then (if (rd x12 x25) = 1 then (selvedgelaw17_PairsNest.l2 k x0 x1 x2 x12 x14 (wrap64 (x25 + 1))) else (if (rd x12 x25) = 2 then (selvedgelaw17_PairsNest.l2 k x0 x1 x2 x12 x14 (wrap64 (x25 + 1))) else (some false))) else (some false)) else (none))) else (none))) else (none)) else (none)) else (none)) else ((selvedgelaw17_works.f k).bind fun t271 => (some t271))
end
def selvedgelaw17_PairsNest.f (k : Nat) (l0 : List Int) (l1 : List Int) (l2 : List Int) (a3 : Int) (a4 : Int) : Option (Bool) := if (l0.length : Int) > 800 then (selvedgelaw17_PairsNest.j0 k l0 l1 l2 a3 a4 true) else (if (l1.length : Int) = (l0.length : Int) then (selvedgelaw17_PairsNest.j0 k l0 l1 l2 a3 a4 ((l2.length : Int) != (l0.length : Int))) else (selvedgelaw17_PairsNest.j0 k l0 l1 l2 a3 a4 true))
theorem selvedgelaw17_PairsNest.mono_l : ∀ k, (∀ y0 y1 y2 y3 y4 y5, LeO (selvedgelaw17_PairsNest.j0 k y0 y1 y2 y3 y4 y5) (selvedgelaw17_PairsNest.j0 (k + 1) y0 y1 y2 y3 y4 y5)) ∧ (∀ y0 y1 y2 y3 y4 y5, LeO (selvedgelaw17_PairsNest.j1 k y0 y1 y2 y3 y4 y5) (selvedgelaw17_PairsNest.j1 (k + 1) y0 y1 y2 y3 y4 y5)) ∧ (∀ y0 y1 y2 y3 y4 y5 y6, LeO (selvedgelaw17_PairsNest.l0 k y0 y1 y2 y3 y4 y5 y6) (selvedgelaw17_PairsNest.l0 (k + 1) y0 y1 y2 y3 y4 y5 y6)) ∧ (∀ y0 y1 y2 y3 y4 y5 y6 y7 y8 y9, LeO (selvedgelaw17_PairsNest.j3 k y0 y1 y2 y3 y4 y5 y6 y7 y8 y9) (selvedgelaw17_PairsNest.j3 (k + 1) y0 y1 y2 y3 y4 y5 y6 y7 y8 y9)) ∧ (∀ y0 y1 y2 y3 y4 y5 y6 y7 y8 y9, LeO (selvedgelaw17_PairsNest.j4 k y0 y1 y2 y3 y4 y5 y6 y7 y8 y9) (selvedgelaw17_PairsNest.j4 (k + 1) y0 y1 y2 y3 y4 y5 y6 y7 y8 y9)) ∧ (∀ y0 y1 y2 y3 y4 y5 y6 y7 y8 y9, LeO (selvedgelaw17_PairsNest.l1 k y0 y1 y2 y3 y4 y5 y6 y7 y8 y9) (selvedgelaw17_PairsNest.l1 (k + 1) y0 y1 y2 y3 y4 y5 y6 y7 y8 y9)) ∧ (∀ y0 y1 y2 y3 y4 y5, LeO (selvedgelaw17_PairsNest.l2 k y0 y1 y2 y3 y4 y5) (selvedgelaw17_PairsNest.l2 (k + 1) y0 y1 y2 y3 y4 y5))
 | 0 => ⟨fun _ _ _ _ _ _ r h => by simp [selvedgelaw17_PairsNest.j0] at h, fun _ _ _ _ _ _ r h => by simp [selvedgelaw17_PairsNest.j1] at h, fun _ _ _ _ _ _ _ r h => by simp [selvedgelaw17_PairsNest.l0] at h, fun _ _ _ _ _ _ _ _ _ _ r h => by simp [selvedgelaw17_PairsNest.j3] at h, fun _ _ _ _ _ _ _ _ _ _ r h => by simp [selvedgelaw17_PairsNest.j4] at h, fun _ _ _ _ _ _ _ _ _ _ r h => by simp [selvedgelaw17_PairsNest.l1] at h, fun _ _ _ _ _ _ r h => by simp [selvedgelaw17_PairsNest.l2] at h⟩
 | k + 1 => by
  obtain ⟨ih0, ih1, ih2, ih3, ih4, ih5, ih6⟩ := selvedgelaw17_PairsNest.mono_l k
  refine ⟨?_, ?_, ?_, ?_, ?_, ?_, ?_⟩
  ·intro y0 y1 y2 y3 y4 y5
   unfold selvedgelaw17_PairsNest.j0
   repeat' first
   | (with_reducible exact ih0 _ _ _ _ _ _)
   | (with_reducible exact ih1 _ _ _ _ _ _)
   | (with_reducible exact ih2 _ _ _ _ _ _ _)
   | (with_reducible exact ih3 _ _ _ _ _ _ _ _ _ _)
   | (with_reducible exact ih4 _ _ _ _ _ _ _ _ _ _)
   | (with_reducible exact ih5 _ _ _ _ _ _ _ _ _ _)
   | (with_reducible exact ih6 _ _ _ _ _ _)
   | (with_reducible exact selvedgelaw17_works.mono _)
   | (with_reducible exact selvedgeref01_Bracket.mono _ _)
   | (with_reducible exact LeO.refl _)
   | (with_reducible exact LeO.none _)
   | (with_reducible refine LeO.ite ?_ ?_)
   | (with_reducible refine LeO.bind ?_ (fun _ => ?_))
   | exact ih0 _ _ _ _ _ _
   | exact ih1 _ _ _ _ _ _
   | exact ih2 _ _ _ _ _ _ _
   | exact ih3 _ _ _ _ _ _ _ _ _ _
   | exact ih4 _ _ _ _ _ _ _ _ _ _
   | exact ih5 _ _ _ _ _ _ _ _ _ _
   | exact ih6 _ _ _ _ _ _
   | exact selvedgelaw17_works.mono _
   | exact selvedgeref01_Bracket.mono _ _
   | exact LeO.none _
   | refine LeO.ite ?_ ?_
   | refine LeO.bind ?_ (fun _ => ?_)
  ·intro y0 y1 y2 y3 y4 y5
   unfold selvedgelaw17_PairsNest.j1
   repeat' first
   | (with_reducible exact ih0 _ _ _ _ _ _)
   | (with_reducible exact ih1 _ _ _ _ _ _)
   | (with_reducible exact ih2 _ _ _ _ _ _ _)
   | (with_reducible exact ih3 _ _ _ _ _ _ _ _ _ _)
   | (with_reducible exact ih4 _ _ _ _ _ _ _ _ _ _)
   | (with_reducible exact ih5 _ _ _ _ _ _ _ _ _ _)
   | (with_reducible exact ih6 _ _ _ _ _ _)
   | (with_reducible exact selvedgelaw17_works.mono _)
   | (with_reducible exact selvedgeref01_Bracket.mono _ _)
   | (with_reducible exact LeO.refl _)
   | (with_reducible exact LeO.none _)
   | (with_reducible refine LeO.ite ?_ ?_)
   | (with_reducible refine LeO.bind ?_ (fun _ => ?_))
   | exact ih0 _ _ _ _ _ _
   | exact ih1 _ _ _ _ _ _
   | exact ih2 _ _ _ _ _ _ _
   | exact ih3 _ _ _ _ _ _ _ _ _ _
   | exact ih4 _ _ _ _ _ _ _ _ _ _
   | exact ih5 _ _ _ _ _ _ _ _ _ _
   | exact ih6 _ _ _ _ _ _
   | exact selvedgelaw17_works.mono _
   | exact selvedgeref01_Bracket.mono _ _
   | exact LeO.none _
   | refine LeO.ite ?_ ?_
   | refine LeO.bind ?_ (fun _ => ?_)
  ·intro y0 y1 y2 y3 y4 y5 y6
   unfold selvedgelaw17_PairsNest.l0
   repeat' first
   | (with_reducible exact ih0 _ _ _ _ _ _)
   | (with_reducible exact ih1 _ _ _ _ _ _)
   | (with_reducible exact ih2 _ _ _ _ _ _ _)
   | (with_reducible exact ih3 _ _ _ _ _ _ _ _ _ _)
   | (with_reducible exact ih4 _ _ _ _ _ _ _ _ _ _)
   | (with_reducible exact ih5 _ _ _ _ _ _ _ _ _ _)
   | (with_reducible exact ih6 _ _ _ _ _ _)
   | (with_reducible exact selvedgelaw17_works.mono _)
   | (with_reducible exact selvedgeref01_Bracket.mono _ _)
   | (with_reducible exact LeO.refl _)
   | (with_reducible exact LeO.none _)
   | (with_reducible refine LeO.ite ?_ ?_)
   | (with_reducible refine LeO.bind ?_ (fun _ => ?_))
   | exact ih0 _ _ _ _ _ _
   | exact ih1 _ _ _ _ _ _
   | exact ih2 _ _ _ _ _ _ _
   | exact ih3 _ _ _ _ _ _ _ _ _ _
   | exact ih4 _ _ _ _ _ _ _ _ _ _
   | exact ih5 _ _ _ _ _ _ _ _ _ _
   | exact ih6 _ _ _ _ _ _
   | exact selvedgelaw17_works.mono _
   | exact selvedgeref01_Bracket.mono _ _
   | exact LeO.none _
   | refine LeO.ite ?_ ?_
   | refine LeO.bind ?_ (fun _ => ?_)
  ·intro y0 y1 y2 y3 y4 y5 y6 y7 y8 y9
   unfold selvedgelaw17_PairsNest.j3
   repeat' first
   | (with_reducible exact ih0 _ _ _ _ _ _)
   | (with_reducible exact ih1 _ _ _ _ _ _)
   | (with_reducible exact ih2 _ _ _ _ _ _ _)
   | (with_reducible exact ih3 _ _ _ _ _ _ _ _ _ _)
   | (with_reducible exact ih4 _ _ _ _ _ _ _ _ _ _)
   | (with_reducible exact ih5 _ _ _ _ _ _ _ _ _ _)
   | (with_reducible exact ih6 _ _ _ _ _ _)
   | (with_reducible exact selvedgelaw17_works.mono _)
   | (with_reducible exact selvedgeref01_Bracket.mono _ _)
   | (with_reducible exact LeO.refl _)
   | (with_reducible exact LeO.none _)
   | (with_reducible refine LeO.ite ?_ ?_)
   | (with_reducible refine LeO.bind ?_ (fun _ => ?_))
   | exact ih0 _ _ _ _ _ _
   | exact ih1 _ _ _ _ _ _
   | exact ih2 _ _ _ _ _ _ _
   | exact ih3 _ _ _ _ _ _ _ _ _ _
   | exact ih4 _ _ _ _ _ _ _ _ _ _
   | exact ih5 _ _ _ _ _ _ _ _ _ _
   | exact ih6 _ _ _ _ _ _
   | exact selvedgelaw17_works.mono _
   | exact selvedgeref01_Bracket.mono _ _
   | exact LeO.none _
   | refine LeO.ite ?_ ?_
   | refine LeO.bind ?_ (fun _ => ?_)
  ·intro y0 y1 y2 y3 y4 y5 y6 y7 y8 y9
   unfold selvedgelaw17_PairsNest.j4
   repeat' first
   | (with_reducible exact ih0 _ _ _ _ _ _)
   | (with_reducible exact ih1 _ _ _ _ _ _)
   | (with_reducible exact ih2 _ _ _ _ _ _ _)
   | (with_reducible exact ih3 _ _ _ _ _ _ _ _ _ _)
   | (with_reducible exact ih4 _ _ _ _ _ _ _ _ _ _)
   | (with_reducible exact ih5 _ _ _ _ _ _ _ _ _ _)
   | (with_reducible exact ih6 _ _ _ _ _ _)
   | (with_reducible exact selvedgelaw17_works.mono _)
   | (with_reducible exact selvedgeref01_Bracket.mono _ _)
   | (with_reducible exact LeO.refl _)
   | (with_reducible exact LeO.none _)
   | (with_reducible refine LeO.ite ?_ ?_)
   | (with_reducible refine LeO.bind ?_ (fun _ => ?_))
   | exact ih0 _ _ _ _ _ _
   | exact ih1 _ _ _ _ _ _
   | exact ih2 _ _ _ _ _ _ _
   | exact ih3 _ _ _ _ _ _ _ _ _ _
   | exact ih4 _ _ _ _ _ _ _ _ _ _
   | exact ih5 _ _ _ _ _ _ _ _ _ _
   | exact ih6 _ _ _ _ _ _
   | exact selvedgelaw17_works.mono _
   | exact selvedgeref01_Bracket.mono _ _
   | exact LeO.none _
   | refine LeO.ite ?_ ?_
   | refine LeO.bind ?_ (fun _ => ?_)
  ·intro y0 y1 y2 y3 y4 y5 y6 y7 y8 y9
   unfold selvedgelaw17_PairsNest.l1
   repeat' first
   | (with_reducible exact ih0 _ _ _ _ _ _)
   | (with_reducible exact ih1 _ _ _ _ _ _)
   | (with_reducible exact ih2 _ _ _ _ _ _ _)
   | (with_reducible exact ih3 _ _ _ _ _ _ _ _ _ _)
   | (with_reducible exact ih4 _ _ _ _ _ _ _ _ _ _)
   | (with_reducible exact ih5 _ _ _ _ _ _ _ _ _ _)
   | (with_reducible exact ih6 _ _ _ _ _ _)
   | (with_reducible exact selvedgelaw17_works.mono _)
   | (with_reducible exact selvedgeref01_Bracket.mono _ _)
   | (with_reducible exact LeO.refl _)
   | (with_reducible exact LeO.none _)
   | (with_reducible refine LeO.ite ?_ ?_)
   | (with_reducible refine LeO.bind ?_ (fun _ => ?_))
   | exact ih0 _ _ _ _ _ _
   | exact ih1 _ _ _ _ _ _
   | exact ih2 _ _ _ _ _ _ _
   | exact ih3 _ _ _ _ _ _ _ _ _ _
   | exact ih4 _ _ _ _ _ _ _ _ _ _
   | exact ih5 _ _ _ _ _ _ _ _ _ _
   | exact ih6 _ _ _ _ _ _
   | exact selvedgelaw17_works.mono _
   | exact selvedgeref01_Bracket.mono _ _
   | exact LeO.none _
   | refine LeO.ite ?_ ?_
   | refine LeO.bind ?_ (fun _ => ?_)
  ·intro y0 y1 y2 y3 y4 y5
   unfold selvedgelaw17_PairsNest.l2
   repeat' first
   | (with_reducible exact ih0 _ _ _ _ _ _)
   | (with_reducible exact ih1 _ _ _ _ _ _)
   | (with_reducible exact ih2 _ _ _ _ _ _ _)
   | (with_reducible exact ih3 _ _ _ _ _ _ _ _ _ _)
   | (with_reducible exact ih4 _ _ _ _ _ _ _ _ _ _)
   | (with_reducible exact ih5 _ _ _ _ _ _ _ _ _ _)
   | (with_reducible exact ih6 _ _ _ _ _ _)
   | (with_reducible exact selvedgelaw17_works.mono _)
   | (with_reducible exact selvedgeref01_Bracket.mono _ _)
   | (with_reducible exact LeO.refl _)
   | (with_reducible exact LeO.none _)
   | (with_reducible refine LeO.ite ?_ ?_)
   | (with_reducible refine LeO.bind ?_ (fun _ => ?_))
   | exact ih0 _ _ _ _ _ _
   | exact ih1 _ _ _ _ _ _
   | exact ih2 _ _ _ _ _ _ _
   | exact ih3 _ _ _ _ _ _ _ _ _ _
   | exact ih4 _ _ _ _ _ _ _ _ _ _
   | exact ih5 _ _ _ _ _ _ _ _ _ _
   | exact ih6 _ _ _ _ _ _
   | exact selvedgelaw17_works.mono _
   | exact selvedgeref01_Bracket.mono _ _
   | exact LeO.none _
   | refine LeO.ite ?_ ?_
   | refine LeO.bind ?_ (fun _ => ?_)
theorem selvedgelaw17_PairsNest.mono : ∀ a0 a1 a2 a3 a4 k, LeO (selvedgelaw17_PairsNest.f k a0 a1 a2 a3 a4) (selvedgelaw17_PairsNest.f (k + 1) a0 a1 a2 a3 a4) := by
 intro a0 a1 a2 a3 a4 k
 obtain ⟨ih0, ih1, ih2, ih3, ih4, ih5, ih6⟩ := selvedgelaw17_PairsNest.mono_l k
 unfold selvedgelaw17_PairsNest.f
 repeat' first
   | (with_reducible exact ih0 _ _ _ _ _ _)
   | (with_reducible exact ih1 _ _ _ _ _ _)
   | (with_reducible exact ih2 _ _ _ _ _ _ _)
   | (with_reducible exact ih3 _ _ _ _ _ _ _ _ _ _)
   | (with_reducible exact ih4 _ _ _ _ _ _ _ _ _ _)
   | (with_reducible exact ih5 _ _ _ _ _ _ _ _ _ _)
   | (with_reducible exact ih6 _ _ _ _ _ _)
   | (with_reducible exact selvedgelaw17_works.mono _)
   | (with_reducible exact selvedgeref01_Bracket.mono _ _)
   | (with_reducible exact LeO.refl _)
   | (with_reducible exact LeO.none _)
   | (with_reducible refine LeO.ite ?_ ?_)
   | (with_reducible refine LeO.bind ?_ (fun _ => ?_))
   | exact ih0 _ _ _ _ _ _
   | exact ih1 _ _ _ _ _ _
   | exact ih2 _ _ _ _ _ _ _
   | exact ih3 _ _ _ _ _ _ _ _ _ _
   | exact ih4 _ _ _ _ _ _ _ _ _ _
   | exact ih5 _ _ _ _ _ _ _ _ _ _
   | exact ih6 _ _ _ _ _ _
   | exact selvedgelaw17_works.mono _
   | exact selvedgeref01_Bracket.mono _ _
   | exact LeO.none _
   | refine LeO.ite ?_ ?_
   | refine LeO.bind ?_ (fun _ => ?_)
set_option maxHeartbeats 8000000 in
set_option maxRecDepth 100000 in
theorem selvedgelaw17_PairsNest.calls (k : Nat) (A0 : Option Addr) (c0 : Nat) (l0 : List Int) (A1 : Option Addr) (c1 : Nat) (l1 : List Int) (A2 : Option Addr) (c2 : Nat) (l2 : List Int) (a3 : Int) (a4 : Int) (r : Bool) (w : World) (hr0 : Kd.C (Kd.int .i32) w A0 l0.length l0) (hc0 : l0.length ≤ c0) (hr1 : Kd.C (Kd.int .u8) w A1 l1.length l1) (hc1 : l1.length ≤ c1) (hr2 : Kd.C (Kd.int .u8) w A2 l2.length l2) (hc2 : l2.length ≤ c2) (h : selvedgelaw17_PairsNest.f k l0 l1 l2 a3 a4 = some r) (hT : Tabs w) :
  Calls Tryd.prog 5 #[.slice A0 l0.length c0, .slice A1 l1.length c1, .slice A2 l2.length c2, .int .u8 a3, .int .u8 a4] w fun e w' => e = .returned (.bool r) ∧ Below w.heap.size w w' := by
 have HT := Aside0.mk hT
 clear hT
 have HR0 := Aside0.mk hr0
 have HC0 := Aside0.mk hc0
 clear hr0 hc0
 have HR1 := Aside0.mk hr1
 have HC1 := Aside0.mk hc1
 clear hr1 hc1
 have HR2 := Aside0.mk hr2
 have HC2 := Aside0.mk hc2
 clear hr2 hc2
 have HB := Aside0.mk (Below.refl w.heap.size w)
 have H : (if (l0.length : Int) > 800 then (selvedgelaw17_PairsNest.j0 k l0 l1 l2 a3 a4 true) else (if (l1.length : Int) = (l0.length : Int) then (selvedgelaw17_PairsNest.j0 k l0 l1 l2 a3 a4 ((l2.length : Int) != (l0.length : Int))) else (selvedgelaw17_PairsNest.j0 k l0 l1 l2 a3 a4 true))) = some r := h
 clear h
 have HC6 := Aside0.mk H
 clear H
 go_enter Tryd.func5, Tryd.ntmps5
 go_upto_region 1 with (fail)
 repeat (go_quiet (fail); go_upto_region 1 with (fail))
 go_cut [42] (fun v42 wc => ∃ (kq : Nat) (x42_5 : Bool), v42 = .bool x42_5 ∧ Aside0 (selvedgelaw17_PairsNest.j0 kq l0 l1 l2 a3 a4 x42_5 = some r) ∧ Aside0 (kq ≤ k) ∧ Aside0 (Below w.heap.size w wc))
 case first =>
  as_aux_lemma =>
  have H := HC6.out
  clear HC6
  by_cases c7 : (l0.length : Int) > 800
  ·rw [if_pos c7] at H
   have c7b0 : decide (800 < (l0.length : Int)) = true := decide_eq_true c7
   have c7b1 : decide (800 < l0.length) = true := decide_eq_true (by omega)
   clear c7
   (first | rw [c7b0] | (simp only [i64_w, i32_w]; rw [c7b0]) | skip)
   have H' := Aside0.mk H
   clear H
   go_wp2
   repeat (go_quiet (fail); try go_wp2)
   go_meet
   case rel => exact ⟨_, (true), (by first | rfl | (simp; done) | (simp [*]; done)), H', ⟨by first | omega | exact Nat.le_refl _⟩, ⟨mvB HB⟩⟩
  ·rw [if_neg c7] at H
   have c7b0 : decide (800 < (l0.length : Int)) = false := decide_eq_false c7
   have c7b1 : decide (800 < l0.length) = false := decide_eq_false (by omega)
   clear c7
   (first | rw [c7b0] | (simp only [i64_w, i32_w]; rw [c7b0]) | skip)
   by_cases c8 : (l1.length : Int) = (l0.length : Int)
   ·rw [if_pos c8] at H
    have c8b0 : ((l1.length : Int) == (l0.length : Int)) = true := beq_iff_eq.mpr c8
    have c8b1 : ((l1.length : Int) != (l0.length : Int)) = false := bne_eq_false_iff_eq.mpr c8
    have c8b2 : (l1.length == l0.length) = true := by first | simpa using c8 | (simp at c8 ⊢; omega)
    clear c8
    have H' := Aside0.mk H
    clear H
    go_wp2
    repeat (go_quiet (fail); try go_wp2)
    go_meet
    case rel => exact ⟨_, (((l2.length : Int) != (l0.length : Int))), (by first | rfl | (simp; done) | (simp [*]; done)), H', ⟨by first | omega | exact Nat.le_refl _⟩, ⟨mvB HB⟩⟩
   ·rw [if_neg c8] at H
    have c8b0 : ((l1.length : Int) == (l0.length : Int)) = false := beq_eq_false_iff_ne.mpr c8
    have c8b1 : ((l1.length : Int) != (l0.length : Int)) = true := bne_iff_ne.mpr c8
    have c8b2 : (l1.length == l0.length) = false := by first | simpa using c8 | (simp at c8 ⊢; omega)
    have H' := Aside0.mk H
    clear H
    go_wp2
    repeat (go_quiet (fail); try go_wp2)
    go_meet
    case rel => exact ⟨_, (true), (by first | rfl | (simp; done) | (simp [*]; done)), H', ⟨by first | omega | exact Nat.le_refl _⟩, ⟨mvB HB⟩⟩
 case rest =>
  as_aux_lemma =>
  clear HC6
  try clear c1
  try clear c2
  try clear p2
  try clear c5
  try clear c7
  try clear c7b0
  try clear c7b1
  try clear c8
  try clear c8b0
  try clear c8b1
  try clear c8b2
  obtain ⟨kq, x42_5, rfl, HA, HJ5, HB⟩ := hcut
  cases kq with
  | zero => exact absurd HA.out (by simp [selvedgelaw17_PairsNest.j0])
  | succ kj5 =>
   have H := HA.out
   clear HA
   simp only [selvedgelaw17_PairsNest.j0] at H
   by_cases c9 : x42_5 = true
   ·subst c9
    have H1 : ((selvedgelaw17_works.f kj5).bind fun t223 => (some t223)) = some r := by rw [if_pos rfl] at H; exact H
    clear H
    have H := H1
    clear H1
    replace H := Option.bind_eq_some_iff.mp H
    obtain ⟨t223, A100, H⟩ := H
    replace H : (some t223) = some r := H
    have A10 := Aside0.mk A100
    clear A100
    obtain rfl := Option.some.inj H
    go_wp2_with (first | (go_at_call 8; (with_reducible refine (selvedgelaw17_works.calls kj5  t223 _ A10.out (by exact HT.out.below (mvB HB))).mono ?_); rintro e w11 ⟨rfl, hb⟩; have n0_ := Aside0.mk (below_step (mvB HB) hb); clear HB; have HB := n0_; clear n0_; (try clear hb); (try clear hb2); (try clear hk); (try clear hi)))
    repeat (go_quiet (first | (go_at_call 8; (with_reducible refine (selvedgelaw17_works.calls kj5  t223 _ A10.out (by exact HT.out.below (mvB HB))).mono ?_); rintro e w11 ⟨rfl, hb⟩; have n0_ := Aside0.mk (below_step (mvB HB) hb); clear HB; have HB := n0_; clear n0_; (try clear hb); (try clear hb2); (try clear hk); (try clear hi))); try go_wp2_with (first | (go_at_call 8; (with_reducible refine (selvedgelaw17_works.calls kj5  t223 _ A10.out (by exact HT.out.below (mvB HB))).mono ?_); rintro e w11 ⟨rfl, hb⟩; have n0_ := Aside0.mk (below_step (mvB HB) hb); clear HB; have HB := n0_; clear n0_; (try clear hb); (try clear hb2); (try clear hk); (try clear hi))))
    go_ret
    exact ⟨by first | rfl | (simp [errW_none, errW_some] <;> rfl) | (simp [*, errW_none, errW_some] <;> rfl), mvB HB⟩
   ·replace c9 := Bool.eq_false_iff.mpr c9
    subst c9
    have H1 : ((pairs_Pairs.f l0 l2).bind fun t224 => ((pairs_Resolve.f l0 l1 l2 a3 a4).bind fun bt227 => (if bt227.2 = 0 then (selvedgelaw17_PairsNest.j1 kj5 l0 l1 l2 t224 bt227.1 ((bt227.1.length : Int) != (l0.length : Int))) else (selvedgelaw17_PairsNest.j1 kj5 l0 l1 l2 t224 bt227.1 true)))) = some r := by rw [if_neg (show ¬ (false = true) by decide)] at H; exact H
    clear H
    have H := H1
    clear H1
    replace H := Option.bind_eq_some_iff.mp H
    obtain ⟨t224, A120, H⟩ := H
    replace H : ((pairs_Resolve.f l0 l1 l2 a3 a4).bind fun bt227 => (if bt227.2 = 0 then (selvedgelaw17_PairsNest.j1 kj5 l0 l1 l2 t224 bt227.1 ((bt227.1.length : Int) != (l0.length : Int))) else (selvedgelaw17_PairsNest.j1 kj5 l0 l1 l2 t224 bt227.1 true))) = some r := H
    have A12 := Aside0.mk A120
    clear A120
    replace H := Option.bind_eq_some_iff.mp H
    obtain ⟨⟨t227, t228⟩, A130, H⟩ := H
    replace H : (if t228 = 0 then (selvedgelaw17_PairsNest.j1 kj5 l0 l1 l2 t224 t227 ((t227.length : Int) != (l0.length : Int))) else (selvedgelaw17_PairsNest.j1 kj5 l0 l1 l2 t224 t227 true)) = some r := H
    have A13 := Aside0.mk A130
    clear A130
    have HC14 := Aside0.mk H
    clear H
    go_upto_region 5 with (first | (go_at_call 9; (with_reducible refine (pairs_Pairs.calls _ _ l0 _ _ l2 t224 _ ?side1 ?side2 ?side3 ?side4 A12.out (by exact HT.out.below (mvB HB))).mono ?_); (case side1 => repeat (first | exact (Kd.C_below HR0.out HB.out) | (with_reducible refine Kd.C_alloc ?_ _) | (with_reducible refine Kd.C_drewN ?_ _) | (with_reducible refine Kd.C_drew ?_))); (case side2 => exact HC0.out); (case side3 => repeat (first | exact (Kd.C_below HR2.out HB.out) | (with_reducible refine Kd.C_alloc ?_ _) | (with_reducible refine Kd.C_drewN ?_ _) | (with_reducible refine Kd.C_drew ?_))); (case side4 => exact HC2.out); rintro e w15 ⟨v225, rfl, ho0, hb⟩; have n0_ := Aside0.mk (Kd.R_lower ho0 (below_size (mvB HB))); have n1_ := Aside0.mk (below_step (mvB HB) hb); clear HB; have HO226 := n0_; have HB := n1_; clear n0_ n1_; (try clear hb); (try clear hb2); (try clear hk); (try clear hi); (try clear ho0)) | (go_at_call 11; (with_reducible refine (pairs_Resolve.calls _ _ l0 _ _ l1 _ _ l2 a3 a4 t227 t228 _ ?side1 ?side2 ?side3 ?side4 ?side5 ?side6 A13.out (by exact HT.out.below (mvB HB))).mono ?_); (case side1 => repeat (first | exact (Kd.C_below HR0.out HB.out) | (with_reducible refine Kd.C_alloc ?_ _) | (with_reducible refine Kd.C_drewN ?_ _) | (with_reducible refine Kd.C_drew ?_))); (case side2 => exact HC0.out); (case side3 => repeat (first | exact (Kd.C_below HR1.out HB.out) | (with_reducible refine Kd.C_alloc ?_ _) | (with_reducible refine Kd.C_drewN ?_ _) | (with_reducible refine Kd.C_drew ?_))); (case side4 => exact HC1.out); (case side5 => repeat (first | exact (Kd.C_below HR2.out HB.out) | (with_reducible refine Kd.C_alloc ?_ _) | (with_reducible refine Kd.C_drewN ?_ _) | (with_reducible refine Kd.C_drew ?_))); (case side6 => exact HC2.out); rintro e w16 ⟨v229, rfl, ho0, hb⟩; have n0_ := Aside0.mk (Kd.R_below (mvR HO226) hb); have n1_ := Aside0.mk (Kd.R_lower ho0 (below_size (mvB HB))); have n2_ := Aside0.mk (below_step (mvB HB) hb); clear HO226; clear HB; have HO226 := n0_; have HO230 := n1_; have HB := n2_; clear n0_ n1_ n2_; (try clear hb); (try clear hb2); (try clear hk); (try clear hi); (try clear ho0)))
    repeat (go_quiet (first | (go_at_call 9; (with_reducible refine (pairs_Pairs.calls _ _ l0 _ _ l2 t224 _ ?side1 ?side2 ?side3 ?side4 A12.out (by exact HT.out.below (mvB HB))).mono ?_); (case side1 => repeat (first | exact (Kd.C_below HR0.out HB.out) | (with_reducible refine Kd.C_alloc ?_ _) | (with_reducible refine Kd.C_drewN ?_ _) | (with_reducible refine Kd.C_drew ?_))); (case side2 => exact HC0.out); (case side3 => repeat (first | exact (Kd.C_below HR2.out HB.out) | (with_reducible refine Kd.C_alloc ?_ _) | (with_reducible refine Kd.C_drewN ?_ _) | (with_reducible refine Kd.C_drew ?_))); (case side4 => exact HC2.out); rintro e w15 ⟨v225, rfl, ho0, hb⟩; have n0_ := Aside0.mk (Kd.R_lower ho0 (below_size (mvB HB))); have n1_ := Aside0.mk (below_step (mvB HB) hb); clear HB; have HO226 := n0_; have HB := n1_; clear n0_ n1_; (try clear hb); (try clear hb2); (try clear hk); (try clear hi); (try clear ho0)) | (go_at_call 11; (with_reducible refine (pairs_Resolve.calls _ _ l0 _ _ l1 _ _ l2 a3 a4 t227 t228 _ ?side1 ?side2 ?side3 ?side4 ?side5 ?side6 A13.out (by exact HT.out.below (mvB HB))).mono ?_); (case side1 => repeat (first | exact (Kd.C_below HR0.out HB.out) | (with_reducible refine Kd.C_alloc ?_ _) | (with_reducible refine Kd.C_drewN ?_ _) | (with_reducible refine Kd.C_drew ?_))); (case side2 => exact HC0.out); (case side3 => repeat (first | exact (Kd.C_below HR1.out HB.out) | (with_reducible refine Kd.C_alloc ?_ _) | (with_reducible refine Kd.C_drewN ?_ _) | (with_reducible refine Kd.C_drew ?_))); (case side4 => exact HC1.out); (case side5 => repeat (first | exact (Kd.C_below HR2.out HB.out) | (with_reducible refine Kd.C_alloc ?_ _) | (with_reducible refine Kd.C_drewN ?_ _) | (with_reducible refine Kd.C_drew ?_))); (case side6 => exact HC2.out); rintro e w16 ⟨v229, rfl, ho0, hb⟩; have n0_ := Aside0.mk (Kd.R_below (mvR HO226) hb); have n1_ := Aside0.mk (Kd.R_lower ho0 (below_size (mvB HB))); have n2_ := Aside0.mk (below_step (mvB HB) hb); clear HO226; clear HB; have HO226 := n0_; have HO230 := n1_; have HB := n2_; clear n0_ n1_ n2_; (try clear hb); (try clear hb2); (try clear hk); (try clear hi); (try clear ho0))); go_upto_region 5 with (first | (go_at_call 9; (with_reducible refine (pairs_Pairs.calls _ _ l0 _ _ l2 t224 _ ?side1 ?side2 ?side3 ?side4 A12.out (by exact HT.out.below (mvB HB))).mono ?_); (case side1 => repeat (first | exact (Kd.C_below HR0.out HB.out) | (with_reducible refine Kd.C_alloc ?_ _) | (with_reducible refine Kd.C_drewN ?_ _) | (with_reducible refine Kd.C_drew ?_))); (case side2 => exact HC0.out); (case side3 => repeat (first | exact (Kd.C_below HR2.out HB.out) | (with_reducible refine Kd.C_alloc ?_ _) | (with_reducible refine Kd.C_drewN ?_ _) | (with_reducible refine Kd.C_drew ?_))); (case side4 => exact HC2.out); rintro e w15 ⟨v225, rfl, ho0, hb⟩; have n0_ := Aside0.mk (Kd.R_lower ho0 (below_size (mvB HB))); have n1_ := Aside0.mk (below_step (mvB HB) hb); clear HB; have HO226 := n0_; have HB := n1_; clear n0_ n1_; (try clear hb); (try clear hb2); (try clear hk); (try clear hi); (try clear ho0)) | (go_at_call 11; (with_reducible refine (pairs_Resolve.calls _ _ l0 _ _ l1 _ _ l2 a3 a4 t227 t228 _ ?side1 ?side2 ?side3 ?side4 ?side5 ?side6 A13.out (by exact HT.out.below (mvB HB))).mono ?_); (case side1 => repeat (first | exact (Kd.C_below HR0.out HB.out) | (with_reducible refine Kd.C_alloc ?_ _) | (with_reducible refine Kd.C_drewN ?_ _) | (with_reducible refine Kd.C_drew ?_))); (case side2 => exact HC0.out); (case side3 => repeat (first | exact (Kd.C_below HR1.out HB.out) | (with_reducible refine Kd.C_alloc ?_ _) | (with_reducible refine Kd.C_drewN ?_ _) | (with_reducible refine Kd.C_drew ?_))); (case side4 => exact HC1.out); (case side5 => repeat (first | exact (Kd.C_below HR2.out HB.out) | (with_reducible refine Kd.C_alloc ?_ _) | (with_reducible refine Kd.C_drewN ?_ _) | (with_reducible refine Kd.C_drew ?_))); (case side6 => exact HC2.out); rintro e w16 ⟨v229, rfl, ho0, hb⟩; have n0_ := Aside0.mk (Kd.R_below (mvR HO226) hb); have n1_ := Aside0.mk (Kd.R_lower ho0 (below_size (mvB HB))); have n2_ := Aside0.mk (below_step (mvB HB) hb); clear HO226; clear HB; have HO226 := n0_; have HO230 := n1_; have HB := n2_; clear n0_ n1_ n2_; (try clear hb); (try clear hb2); (try clear hk); (try clear hi); (try clear ho0))))
    (try simp only [Act.put, List.setIfInBounds_toArray, List.set_cons_zero, List.set_cons_succ])
    go_cut [64] (fun v64 wc => ∃ (kq : Nat) (x64_13 : Bool), v64 = .bool x64_13 ∧ Aside0 (selvedgelaw17_PairsNest.j1 kq l0 l1 l2 t224 t227 x64_13 = some r) ∧ Aside0 (kq ≤ kj5) ∧ Aside0 (Kd.R k30 30 wc w.heap.size (fun _ => True) v225 t224) ∧ Aside0 (Kd.R (Kd.int .u8) 33 wc w.heap.size (fun _ => True) v229 t227) ∧ Aside0 (Below w.heap.size w wc))
    case first =>
     as_aux_lemma =>
     have H := HC14.out
     clear HC14
     by_cases c17 : t228 = 0
     ·rw [if_pos c17] at H
      have c17b0 : (t228 == 0) = true := beq_iff_eq.mpr c17
      have c17b1 : (t228 != 0) = false := bne_eq_false_iff_eq.mpr c17
      clear c17
      (first | rw [c17b0] | (simp only [i64_w, i32_w]; rw [c17b0]) | skip)
      have H' := Aside0.mk H
      clear H
      obtain ⟨Ao18, co18, eo18⟩ := Kd.R_slice HO230.out
      subst eo18
      go_wp2
      repeat (go_quiet (fail); try go_wp2)
      go_meet
      case rel => exact ⟨_, (((t227.length : Int) != (l0.length : Int))), (by first | rfl | (simp; done) | (simp [*]; done)), H', ⟨by have := HJ5.out; first | omega | exact Nat.le_refl _⟩, ⟨mvR HO226⟩, ⟨mvR HO230⟩, ⟨mvB HB⟩⟩
     ·rw [if_neg c17] at H
      have c17b0 : (t228 == 0) = false := beq_eq_false_iff_ne.mpr c17
      have c17b1 : (t228 != 0) = true := bne_iff_ne.mpr c17
      (first | rw [c17b0] | (simp only [i64_w, i32_w]; rw [c17b0]) | skip)
      have H' := Aside0.mk H
      clear H
      go_wp2
      repeat (go_quiet (fail); try go_wp2)
      go_meet
      case rel => exact ⟨_, (true), (by first | rfl | (simp; done) | (simp [*]; done)), H', ⟨by have := HJ5.out; first | omega | exact Nat.le_refl _⟩, ⟨mvR HO226⟩, ⟨mvR HO230⟩, ⟨mvB HB⟩⟩
    case rest =>
     as_aux_lemma =>
     clear HC14
     try clear c1
     try clear c2
     try clear p2
     try clear c5
     try clear c7
     try clear c7b0
     try clear c7b1
     try clear c8
     try clear c8b0
     try clear c8b1
     try clear c8b2
     try clear c9
     try clear c17
     try clear c17b0
     try clear c17b1
     try clear p2
     obtain ⟨kq, x64_13, rfl, HA, HJ13, HO_11, HO_12, HB⟩ := hcut
     cases kq with
     | zero => exact absurd HA.out (by simp [selvedgelaw17_PairsNest.j1])
     | succ kj13 =>
      have H := HA.out
      clear HA
      simp only [selvedgelaw17_PairsNest.j1] at H
      by_cases c19 : x64_13 = true
      ·subst c19
       have H1 : (some false) = some r := by rw [if_pos rfl] at H; exact H
       clear H
       have H := H1
       clear H1
       obtain rfl := Option.some.inj H
       go_wp2
       repeat (go_quiet (fail); try go_wp2)
       go_ret
       exact ⟨by first | rfl | (simp [errW_none, errW_some] <;> rfl) | (simp [*, errW_none, errW_some] <;> rfl), mvB HB⟩
      ·replace c19 := Bool.eq_false_iff.mpr c19
       subst c19
       have H1 : (if 0 ≤ (l0.length : Int) then (if ((l0.length : Int) : Int).toNat ≤ 281474976710656 then (selvedgelaw17_PairsNest.l0 kj13 l0 l1 l2 t224 t227 (List.replicate ((l0.length : Int) : Int).toNat false) 0) else (none)) else (none)) = some r := by rw [if_neg (show ¬ (false = true) by decide)] at H; exact H
       clear H
       have H := H1
       clear H1
       by_cases c20 : 0 ≤ (l0.length : Int)
       ·rw [if_pos c20] at H
        have c20b0 := eq_true c20
        have c20b1 : decide (0 ≤ (l0.length : Int)) = true := decide_eq_true c20
        clear c20
        by_cases c21 : ((l0.length : Int) : Int).toNat ≤ 281474976710656
        ·rw [if_pos c21] at H
         have c21b0 := eq_true c21
         have c21b1 : decide (((l0.length : Int) : Int).toNat ≤ 281474976710656) = true := decide_eq_true c21
         clear c21
         obtain ⟨y231, hy231⟩ : ∃ y_ : List Bool, y_ = (List.replicate ((l0.length : Int) : Int).toNat false) := ⟨_, rfl⟩
         replace H : (selvedgelaw17_PairsNest.l0 kj13 l0 l1 l2 t224 t227 y231 0) = some r := by first | (rw [hy231]; with_reducible exact H) | (have H2_ := (Option.bind_some _ _).symm.trans H; rw [hy231]; with_reducible exact H2_) | (have H2_ := (Option.bind_some _ _).symm.trans H; with_reducible exact H2_) | with_reducible exact H | (rw [hy231]; exact H) | exact H
         have Ny231 := Aside0.mk hy231
         clear hy231
         have H' := Aside0.mk H
         clear H
         go_wp2_with (first | ((with_reducible refine gate_dst (N := 67) rfl ?_); (try (refine gate_guard (by rfl) ?_; dsimp only)); refine Kd.R_make Kd.bool _ 4 rfl (N := 67) rfl 39 _ _ rfl (l0.length : Int) rfl rfl Tryd.underlying39 (.bool false) 1 info4 rfl (by decide) (by omega) false (ok := fun _ => True) (okp := fun _ => True) rfl (fun _ hk => hk) trivial (of_decide_eq_true (by first | (with_reducible assumption) | assumption)) (Nat.le_trans (Nat.mul_le_mul_right _ (of_decide_eq_true (by first | (with_reducible assumption) | assumption) : (l0.length : Int).toNat ≤ 281474976710656)) (by omega)) (Below.refl _ _) (Nat.le_refl _) ?_; intro v232 w22 ho23 hb hg_ hnew_; clear hg_ hnew_; (first | rw [← Ny231.out] at ho23 | (simp only [Int.reduceToNat] at ho23; rw [← Ny231.out] at ho23)); have n0_ := Aside0.mk (Kd.R_below (mvR HO_11) hb); have n1_ := Aside0.mk (Kd.R_below (mvR HO_12) hb); have n2_ := Aside0.mk (Kd.R_lower ho23 (below_size (mvB HB))); have n3_ := Aside0.mk (below_step (mvB HB) hb); clear HO_11; clear HO_12; clear HB; have HO_11 := n0_; have HO_12 := n1_; have HO233 := n2_; have HB := n3_; clear n0_ n1_ n2_ n3_; clear hb ho23))
         repeat (go_quiet (first | ((with_reducible refine gate_dst (N := 67) rfl ?_); (try (refine gate_guard (by rfl) ?_; dsimp only)); refine Kd.R_make Kd.bool _ 4 rfl (N := 67) rfl 39 _ _ rfl (l0.length : Int) rfl rfl Tryd.underlying39 (.bool false) 1 info4 rfl (by decide) (by omega) false (ok := fun _ => True) (okp := fun _ => True) rfl (fun _ hk => hk) trivial (of_decide_eq_true (by first | (with_reducible assumption) | assumption)) (Nat.le_trans (Nat.mul_le_mul_right _ (of_decide_eq_true (by first | (with_reducible assumption) | assumption) : (l0.length : Int).toNat ≤ 281474976710656)) (by omega)) (Below.refl _ _) (Nat.le_refl _) ?_; intro v232 w22 ho23 hb hg_ hnew_; clear hg_ hnew_; (first | rw [← Ny231.out] at ho23 | (simp only [Int.reduceToNat] at ho23; rw [← Ny231.out] at ho23)); have n0_ := Aside0.mk (Kd.R_below (mvR HO_11) hb); have n1_ := Aside0.mk (Kd.R_below (mvR HO_12) hb); have n2_ := Aside0.mk (Kd.R_lower ho23 (below_size (mvB HB))); have n3_ := Aside0.mk (below_step (mvB HB) hb); clear HO_11; clear HO_12; clear HB; have HO_11 := n0_; have HO_12 := n1_; have HO233 := n2_; have HB := n3_; clear n0_ n1_ n2_ n3_; clear hb ho23)); try go_wp2_with (first | ((with_reducible refine gate_dst (N := 67) rfl ?_); (try (refine gate_guard (by rfl) ?_; dsimp only)); refine Kd.R_make Kd.bool _ 4 rfl (N := 67) rfl 39 _ _ rfl (l0.length : Int) rfl rfl Tryd.underlying39 (.bool false) 1 info4 rfl (by decide) (by omega) false (ok := fun _ => True) (okp := fun _ => True) rfl (fun _ hk => hk) trivial (of_decide_eq_true (by first | (with_reducible assumption) | assumption)) (Nat.le_trans (Nat.mul_le_mul_right _ (of_decide_eq_true (by first | (with_reducible assumption) | assumption) : (l0.length : Int).toNat ≤ 281474976710656)) (by omega)) (Below.refl _ _) (Nat.le_refl _) ?_; intro v232 w22 ho23 hb hg_ hnew_; clear hg_ hnew_; (first | rw [← Ny231.out] at ho23 | (simp only [Int.reduceToNat] at ho23; rw [← Ny231.out] at ho23)); have n0_ := Aside0.mk (Kd.R_below (mvR HO_11) hb); have n1_ := Aside0.mk (Kd.R_below (mvR HO_12) hb); have n2_ := Aside0.mk (Kd.R_lower ho23 (below_size (mvB HB))); have n3_ := Aside0.mk (below_step (mvB HB) hb); clear HO_11; clear HO_12; clear HB; have HO_11 := n0_; have HO_12 := n1_; have HO233 := n2_; have HB := n3_; clear n0_ n1_ n2_ n3_; clear hb ho23)))
         go_loopg [15] kj13 (fun kq v15 w' => ∃ (x14_3 : List Bool) (x15_3 : Int), v15 = .int .i64 x15_3 ∧ Aside0 (selvedgelaw17_PairsNest.l0 kq l0 l1 l2 t224 t227 x14_3 x15_3 = some r) ∧ Aside0 (kq ≤ kj13) ∧ Aside0 (Kd.R k30 30 w' w.heap.size (fun _ => True) v225 t224) ∧ Aside0 (Kd.R (Kd.int .u8) 33 w' w.heap.size (fun _ => True) v229 t227) ∧ Aside0 (Kd.R Kd.bool 4 w' w.heap.size (fun _ => True) v232 x14_3) ∧ Aside0 (Below w.heap.size w w'))
         case atStart => exact ⟨(y231), (0), (by first | rfl | (simp; done) | (simp [*]; done)), H', ⟨Nat.le_refl _⟩, ⟨mvR HO_11⟩, ⟨mvR HO_12⟩, ⟨mvR HO233⟩, ⟨mvB HB⟩⟩
         case round =>
          as_aux_lemma =>
          clear H'
          try clear c1
          try clear c2
          try clear p2
          try clear c5
          try clear c7
          try clear c7b0
          try clear c7b1
          try clear c8
          try clear c8b0
          try clear c8b1
          try clear c8b2
          try clear c9
          try clear c17
          try clear c17b0
          try clear c17b1
          try clear c19
          try clear c20
          try clear c20b0
          try clear c20b1
          try clear c21
          try clear c21b0
          try clear c21b1
          try clear p2
          obtain ⟨x14_3, x15_3, rfl, HA, HK3, HO_11, HO_12, HO_14, HB⟩ := hrel
          cases gk with
          | zero => exact absurd HA.out (by simp [selvedgelaw17_PairsNest.l0])
          | succ k3 =>
           have H := HA.out
           clear HA
           simp only [selvedgelaw17_PairsNest.l0] at H
           by_cases c24 : x15_3 < (t224.length : Int)
           ·rw [if_pos c24] at H
            have c24b0 : decide (x15_3 < (t224.length : Int)) = true := decide_eq_true c24
            clear c24
            by_cases c25 : 0 ≤ x15_3
            ·rw [if_pos c25] at H
             have c25b0 : decide (0 ≤ x15_3) = true := decide_eq_true c25
             clear c25
             have HC26 := Aside0.mk H
             clear H
             obtain ⟨Ao27, co27, eo27⟩ := Kd.R_slice HO_11.out
             subst eo27
             have p234 := dT (0 ≤ (x15_3 : Int))
             have q234 := dT (x15_3 < (t224.length : Int))
             obtain ⟨ad234, e234, hx234_0, hx234_1⟩ := at_T30 (Kd.R_reads' HO_11.out).2.2 x15_3 p234 q234
             cases e234
             replace p234 := eq_true p234
             replace q234 := eq_true q234
             have p235 := dT (0 ≤ (x15_3 : Int))
             have q235 := dT (x15_3 < (t224.length : Int))
             obtain ⟨ad235, e235, hx235_0, hx235_1⟩ := at_T30 (Kd.R_reads' HO_11.out).2.2 x15_3 p235 q235
             obtain rfl : ad234 = ad235 := (by injection e235)
             replace p235 := eq_true p235
             replace q235 := eq_true q235
             go_upto_region 12 with (fail)
             repeat (go_quiet (fail); go_upto_region 12 with (fail))
             go_cut [147] (fun v147 wc => ∃ (kq : Nat) (x147_25 : Bool), v147 = .bool x147_25 ∧ Aside0 (selvedgelaw17_PairsNest.j3 kq l0 l1 l2 t224 t227 x14_3 x15_3 ((rd_T30 t224 x15_3).f0) ((rd_T30 t224 x15_3).f1) x147_25 = some r) ∧ Aside0 (kq ≤ k3) ∧ Aside0 (Kd.R k30 30 wc w.heap.size (fun _ => True) (.slice (some ad234) t224.length co27) t224) ∧ Aside0 (Kd.R (Kd.int .u8) 33 wc w.heap.size (fun _ => True) v229 t227) ∧ Aside0 (Kd.R Kd.bool 4 wc w.heap.size (fun _ => True) v232 x14_3) ∧ Aside0 (Below w.heap.size w wc))
             case first =>
              as_aux_lemma =>
              have H := HC26.out
              clear HC26
              by_cases c28 : ((rd_T30 t224 x15_3).f0) < 0
              ·rw [if_pos c28] at H
               have c28b0 : decide (((rd_T30 t224 x15_3).f0) < 0) = true := decide_eq_true c28
               clear c28
               (first | rw [c28b0] | (simp only [i64_w, i32_w]; rw [c28b0]) | skip)
               have H' := Aside0.mk H
               clear H
               go_wp2
               repeat (go_quiet (fail); try go_wp2)
               go_meet
               case rel => exact ⟨_, (true), (by first | rfl | (simp; done) | (simp [*]; done)), H', ⟨by have := HJ5.out; have := HJ13.out; have := HK3.out; first | omega | exact Nat.le_refl _⟩, ⟨mvR HO_11⟩, ⟨mvR HO_12⟩, ⟨mvR HO_14⟩, ⟨mvB HB⟩⟩
              ·rw [if_neg c28] at H
               have c28b0 : decide (((rd_T30 t224 x15_3).f0) < 0) = false := decide_eq_false c28
               clear c28
               (first | rw [c28b0] | (simp only [i64_w, i32_w]; rw [c28b0]) | skip)
               by_cases c29 : ((rd_T30 t224 x15_3).f1) ≤ ((rd_T30 t224 x15_3).f0)
               ·rw [if_pos c29] at H
                have c29b0 : decide (((rd_T30 t224 x15_3).f1) ≤ ((rd_T30 t224 x15_3).f0)) = true := decide_eq_true c29
                clear c29
                have H' := Aside0.mk H
                clear H
                go_wp2
                repeat (go_quiet (fail); try go_wp2)
                go_meet
                case rel => exact ⟨_, (true), (by first | rfl | (simp; done) | (simp [*]; done)), H', ⟨by have := HJ5.out; have := HJ13.out; have := HK3.out; first | omega | exact Nat.le_refl _⟩, ⟨mvR HO_11⟩, ⟨mvR HO_12⟩, ⟨mvR HO_14⟩, ⟨mvB HB⟩⟩
               ·rw [if_neg c29] at H
                have c29b0 : decide (((rd_T30 t224 x15_3).f1) ≤ ((rd_T30 t224 x15_3).f0)) = false := decide_eq_false c29
                clear c29
                by_cases c30 : ((rd_T30 t224 x15_3).f1) ≥ (l0.length : Int)
                ·rw [if_pos c30] at H
                 have c30b0 : decide ((l0.length : Int) ≤ ((rd_T30 t224 x15_3).f1)) = true := decide_eq_true c30
                 clear c30
                 have H' := Aside0.mk H
                 clear H
                 go_wp2
                 repeat (go_quiet (fail); try go_wp2)
                 go_meet
                 case rel => exact ⟨_, (true), (by first | rfl | (simp; done) | (simp [*]; done)), H', ⟨by have := HJ5.out; have := HJ13.out; have := HK3.out; first | omega | exact Nat.le_refl _⟩, ⟨mvR HO_11⟩, ⟨mvR HO_12⟩, ⟨mvR HO_14⟩, ⟨mvB HB⟩⟩
                ·rw [if_neg c30] at H
                 have c30b0 : decide ((l0.length : Int) ≤ ((rd_T30 t224 x15_3).f1)) = false := decide_eq_false c30
                 clear c30
                 by_cases c31 : 0 ≤ ((rd_T30 t224 x15_3).f0)
                 ·rw [if_pos c31] at H
                  have c31b0 : decide (0 ≤ ((rd_T30 t224 x15_3).f0)) = true := decide_eq_true c31
                  clear c31
                  by_cases c32 : ((rd_T30 t224 x15_3).f0) < (x14_3.length : Int)
                  ·rw [if_pos c32] at H
                   have c32b0 : decide (((rd_T30 t224 x15_3).f0) < (x14_3.length : Int)) = true := decide_eq_true c32
                   clear c32
                   obtain ⟨bq33, hbq33⟩ : ∃ b_ : Bool, b_ = (rdOf false x14_3 ((rd_T30 t224 x15_3).f0)) := ⟨_, rfl⟩
                   replace H : (if bq33 = true then (selvedgelaw17_PairsNest.j3 k3 l0 l1 l2 t224 t227 x14_3 x15_3 ((rd_T30 t224 x15_3).f0) ((rd_T30 t224 x15_3).f1) true) else (if 0 ≤ ((rd_T30 t224 x15_3).f1) then (if ((rd_T30 t224 x15_3).f1) < (x14_3.length : Int) then (if rdOf false x14_3 ((rd_T30 t224 x15_3).f1) = true then (selvedgelaw17_PairsNest.j3 k3 l0 l1 l2 t224 t227 x14_3 x15_3 ((rd_T30 t224 x15_3).f0) ((rd_T30 t224 x15_3).f1) true) else (if ((rd_T30 t224 x15_3).f0) < (l2.length : Int) then (if (rd l2 ((rd_T30 t224 x15_3).f0)) = 14 then (if ((rd_T30 t224 x15_3).f1) < (l2.length : Int) then (if (rd l2 ((rd_T30 t224 x15_3).f1)) = 14 then (if ((rd_T30 t224 x15_3).f0) < (t227.length : Int) then (if ((rd_T30 t224 x15_3).f1) < (t227.length : Int) then (if (rd t227 ((rd_T30 t224 x15_3).f0)) = (rd t227 ((rd_T30 t224 x15_3).f1)) then (selvedgelaw17_PairsNest.j3 k3 l0 l1 l2 t224 t227 x14_3 x15_3 ((rd_T30 t224 x15_3).f0) ((rd_T30 t224 x15_3).f1) false) else (if ((rd_T30 t224 x15_3).f0) < (l1.length : Int) then (if (rd l1 ((rd_T30 t224 x15_3).f0)) = 9 then (selvedgelaw17_PairsNest.j3 k3 l0 l1 l2 t224 t227 x14_3 x15_3 ((rd_T30 t224 x15_3).f0) ((rd_T30 t224 x15_3).f1) false) else (if ((rd_T30 t224 x15_3).f1) < (l1.length : Int) then (selvedgelaw17_PairsNest.j3 k3 l0 l1 l2 t224 t227 x14_3 x15_3 ((rd_T30 t224 x15_3).f0) ((rd_T30 t224 x15_3).f1) ((rd l1 ((rd_T30 t224 x15_3).f1)) != 9)) else (none))) else (none))) else (none)) else (none)) else (selvedgelaw17_PairsNest.j3 k3 l0 l1 l2 t224 t227 x14_3 x15_3 ((rd_T30 t224 x15_3).f0) ((rd_T30 t224 x15_3).f1) true)) else (none)) else (selvedgelaw17_PairsNest.j3 k3 l0 l1 l2 t224 t227 x14_3 x15_3 ((rd_T30 t224 x15_3).f0) ((rd_T30 t224 x15_3).f1) true)) else (none))) else (none)) else (none))) = some r := by rw [← hbq33] at H; exact H
                   have Nbq33 := Aside0.mk hbq33
                   clear hbq33
                   by_cases c34 : bq33 = true
                   ·subst c34
                    have H1 : (selvedgelaw17_PairsNest.j3 k3 l0 l1 l2 t224 t227 x14_3 x15_3 ((rd_T30 t224 x15_3).f0) ((rd_T30 t224 x15_3).f1) true) = some r := by rw [if_pos rfl] at H; exact H
                    clear H
                    have H := H1
                    clear H1
                    have H' := Aside0.mk H
                    clear H
                    obtain ⟨Ao35, co35, eo35⟩ := Kd.R_slice HO_14.out
                    subst eo35
                    have p236 := dT (0 ≤ (((rd_T30 t224 x15_3).f0) : Int))
                    have q236 := dT (((rd_T30 t224 x15_3).f0) < (x14_3.length : Int))
                    obtain ⟨ad236, e236, hx236_0⟩ := Kd.at_bool (Kd.R_reads' HO_14.out).2.2 ((rd_T30 t224 x15_3).f0) p236 q236
                    (try rw [← Nbq33.out] at hx236_0)
                    cases e236
                    replace p236 := eq_true p236
                    replace q236 := eq_true q236
                    go_wp2
                    repeat (go_quiet (fail); try go_wp2)
                    go_meet
                    case rel => exact ⟨_, (true), (by first | rfl | (simp; done) | (simp [*]; done)), H', ⟨by have := HJ5.out; have := HJ13.out; have := HK3.out; first | omega | exact Nat.le_refl _⟩, ⟨mvR HO_11⟩, ⟨mvR HO_12⟩, ⟨mvR HO_14⟩, ⟨mvB HB⟩⟩
                   ·replace c34 := Bool.eq_false_iff.mpr c34
                    subst c34
                    have H1 : (if 0 ≤ ((rd_T30 t224 x15_3).f1) then (if ((rd_T30 t224 x15_3).f1) < (x14_3.length : Int) then (if rdOf false x14_3 ((rd_T30 t224 x15_3).f1) = true then (selvedgelaw17_PairsNest.j3 k3 l0 l1 l2 t224 t227 x14_3 x15_3 ((rd_T30 t224 x15_3).f0) ((rd_T30 t224 x15_3).f1) true) else (if ((rd_T30 t224 x15_3).f0) < (l2.length : Int) then (if (rd l2 ((rd_T30 t224 x15_3).f0)) = 14 then (if ((rd_T30 t224 x15_3).f1) < (l2.length : Int) then (if (rd l2 ((rd_T30 t224 x15_3).f1)) = 14 then (if ((rd_T30 t224 x15_3).f0) < (t227.length : Int) then (if ((rd_T30 t224 x15_3).f1) < (t227.length : Int) then (if (rd t227 ((rd_T30 t224 x15_3).f0)) = (rd t227 ((rd_T30 t224 x15_3).f1)) then (selvedgelaw17_PairsNest.j3 k3 l0 l1 l2 t224 t227 x14_3 x15_3 ((rd_T30 t224 x15_3).f0) ((rd_T30 t224 x15_3).f1) false) else (if ((rd_T30 t224 x15_3).f0) < (l1.length : Int) then (if (rd l1 ((rd_T30 t224 x15_3).f0)) = 9 then (selvedgelaw17_PairsNest.j3 k3 l0 l1 l2 t224 t227 x14_3 x15_3 ((rd_T30 t224 x15_3).f0) ((rd_T30 t224 x15_3).f1) false) else (if ((rd_T30 t224 x15_3).f1) < (l1.length : Int) then (selvedgelaw17_PairsNest.j3 k3 l0 l1 l2 t224 t227 x14_3 x15_3 ((rd_T30 t224 x15_3).f0) ((rd_T30 t224 x15_3).f1) ((rd l1 ((rd_T30 t224 x15_3).f1)) != 9)) else (none))) else (none))) else (none)) else (none)) else (selvedgelaw17_PairsNest.j3 k3 l0 l1 l2 t224 t227 x14_3 x15_3 ((rd_T30 t224 x15_3).f0) ((rd_T30 t224 x15_3).f1) true)) else (none)) else (selvedgelaw17_PairsNest.j3 k3 l0 l1 l2 t224 t227 x14_3 x15_3 ((rd_T30 t224 x15_3).f0) ((rd_T30 t224 x15_3).f1) true)) else (none))) else (none)) else (none)) = some r := by rw [if_neg (show ¬ (false = true) by decide)] at H; exact H
                    clear H
                    have H := H1
                    clear H1
                    by_cases c36 : 0 ≤ ((rd_T30 t224 x15_3).f1)
                    ·rw [if_pos c36] at H
                     have c36b0 : decide (0 ≤ ((rd_T30 t224 x15_3).f1)) = true := decide_eq_true c36
                     clear c36
                     by_cases c37 : ((rd_T30 t224 x15_3).f1) < (x14_3.length : Int)
                     ·rw [if_pos c37] at H
                      have c37b0 : decide (((rd_T30 t224 x15_3).f1) < (x14_3.length : Int)) = true := decide_eq_true c37
                      clear c37
                      obtain ⟨bq38, hbq38⟩ : ∃ b_ : Bool, b_ = (rdOf false x14_3 ((rd_T30 t224 x15_3).f1)) := ⟨_, rfl⟩
                      replace H : (if bq38 = true then (selvedgelaw17_PairsNest.j3 k3 l0 l1 l2 t224 t227 x14_3 x15_3 ((rd_T30 t224 x15_3).f0) ((rd_T30 t224 x15_3).f1) true) else (if ((rd_T30 t224 x15_3).f0) < (l2.length : Int) then (if (rd l2 ((rd_T30 t224 x15_3).f0)) = 14 then (if ((rd_T30 t224 x15_3).f1) < (l2.length : Int) then (if (rd l2 ((rd_T30 t224 x15_3).f1)) = 14 then (if ((rd_T30 t224 x15_3).f0) < (t227.length : Int) then (if ((rd_T30 t224 x15_3).f1) < (t227.length : Int) then (if (rd t227 ((rd_T30 t224 x15_3).f0)) = (rd t227 ((rd_T30 t224 x15_3).f1)) then (selvedgelaw17_PairsNest.j3 k3 l0 l1 l2 t224 t227 x14_3 x15_3 ((rd_T30 t224 x15_3).f0) ((rd_T30 t224 x15_3).f1) false) else (if ((rd_T30 t224 x15_3).f0) < (l1.length : Int) then (if (rd l1 ((rd_T30 t224 x15_3).f0)) = 9 then (selvedgelaw17_PairsNest.j3 k3 l0 l1 l2 t224 t227 x14_3 x15_3 ((rd_T30 t224 x15_3).f0) ((rd_T30 t224 x15_3).f1) false) else (if ((rd_T30 t224 x15_3).f1) < (l1.length : Int) then (selvedgelaw17_PairsNest.j3 k3 l0 l1 l2 t224 t227 x14_3 x15_3 ((rd_T30 t224 x15_3).f0) ((rd_T30 t224 x15_3).f1) ((rd l1 ((rd_T30 t224 x15_3).f1)) != 9)) else (none))) else (none))) else (none)) else (none)) else (selvedgelaw17_PairsNest.j3 k3 l0 l1 l2 t224 t227 x14_3 x15_3 ((rd_T30 t224 x15_3).f0) ((rd_T30 t224 x15_3).f1) true)) else (none)) else (selvedgelaw17_PairsNest.j3 k3 l0 l1 l2 t224 t227 x14_3 x15_3 ((rd_T30 t224 x15_3).f0) ((rd_T30 t224 x15_3).f1) true)) else (none))) = some r := by rw [← hbq38] at H; exact H
                      have Nbq38 := Aside0.mk hbq38
                      clear hbq38
                      by_cases c39 : bq38 = true
                      ·subst c39
                       have H1 : (selvedgelaw17_PairsNest.j3 k3 l0 l1 l2 t224 t227 x14_3 x15_3 ((rd_T30 t224 x15_3).f0) ((rd_T30 t224 x15_3).f1) true) = some r := by rw [if_pos rfl] at H; exact H
                       clear H
                       have H := H1
                       clear H1
                       have H' := Aside0.mk H
                       clear H
                       obtain ⟨Ao40, co40, eo40⟩ := Kd.R_slice HO_14.out
                       subst eo40
                       have p236 := dT (0 ≤ (((rd_T30 t224 x15_3).f0) : Int))
                       have q236 := dT (((rd_T30 t224 x15_3).f0) < (x14_3.length : Int))
                       obtain ⟨ad236, e236, hx236_0⟩ := Kd.at_bool (Kd.R_reads' HO_14.out).2.2 ((rd_T30 t224 x15_3).f0) p236 q236
                       (try rw [← Nbq33.out] at hx236_0)
                       (try rw [← Nbq38.out] at hx236_0)
                       cases e236
                       replace p236 := eq_true p236
                       replace q236 := eq_true q236
                       have p237 := dT (0 ≤ (((rd_T30 t224 x15_3).f1) : Int))
                       have q237 := dT (((rd_T30 t224 x15_3).f1) < (x14_3.length : Int))
                       obtain ⟨ad237, e237, hx237_0⟩ := Kd.at_bool (Kd.R_reads' HO_14.out).2.2 ((rd_T30 t224 x15_3).f1) p237 q237
                       (try rw [← Nbq33.out] at hx237_0)
                       (try rw [← Nbq38.out] at hx237_0)
                       obtain rfl : ad236 = ad237 := (by injection e237)
                       replace p237 := eq_true p237
                       replace q237 := eq_true q237
                       go_wp2
                       repeat (go_quiet (fail); try go_wp2)
                       go_meet
                       case rel => exact ⟨_, (true), (by first | rfl | (simp; done) | (simp [*]; done)), H', ⟨by have := HJ5.out; have := HJ13.out; have := HK3.out; first | omega | exact Nat.le_refl _⟩, ⟨mvR HO_11⟩, ⟨mvR HO_12⟩, ⟨mvR HO_14⟩, ⟨mvB HB⟩⟩
                      ·replace c39 := Bool.eq_false_iff.mpr c39
                       subst c39
                       have H1 : (if ((rd_T30 t224 x15_3).f0) < (l2.length : Int) then (if (rd l2 ((rd_T30 t224 x15_3).f0)) = 14 then (if ((rd_T30 t224 x15_3).f1) < (l2.length : Int) then (if (rd l2 ((rd_T30 t224 x15_3).f1)) = 14 then (if ((rd_T30 t224 x15_3).f0) < (t227.length : Int) then (if ((rd_T30 t224 x15_3).f1) < (t227.length : Int) then (if (rd t227 ((rd_T30 t224 x15_3).f0)) = (rd t227 ((rd_T30 t224 x15_3).f1)) then (selvedgelaw17_PairsNest.j3 k3 l0 l1 l2 t224 t227 x14_3 x15_3 ((rd_T30 t224 x15_3).f0) ((rd_T30 t224 x15_3).f1) false) else (if ((rd_T30 t224 x15_3).f0) < (l1.length : Int) then (if (rd l1 ((rd_T30 t224 x15_3).f0)) = 9 then (selvedgelaw17_PairsNest.j3 k3 l0 l1 l2 t224 t227 x14_3 x15_3 ((rd_T30 t224 x15_3).f0) ((rd_T30 t224 x15_3).f1) false) else (if ((rd_T30 t224 x15_3).f1) < (l1.length : Int) then (selvedgelaw17_PairsNest.j3 k3 l0 l1 l2 t224 t227 x14_3 x15_3 ((rd_T30 t224 x15_3).f0) ((rd_T30 t224 x15_3).f1) ((rd l1 ((rd_T30 t224 x15_3).f1)) != 9)) else (none))) else (none))) else (none)) else (none)) else (selvedgelaw17_PairsNest.j3 k3 l0 l1 l2 t224 t227 x14_3 x15_3 ((rd_T30 t224 x15_3).f0) ((rd_T30 t224 x15_3).f1) true)) else (none)) else (selvedgelaw17_PairsNest.j3 k3 l0 l1 l2 t224 t227 x14_3 x15_3 ((rd_T30 t224 x15_3).f0) ((rd_T30 t224 x15_3).f1) true)) else (none)) = some r := by rw [if_neg (show ¬ (false = true) by decide)] at H; exact H
                       clear H
                       have H := H1
                       clear H1
                       by_cases c41 : ((rd_T30 t224 x15_3).f0) < (l2.length : Int)
                       ·rw [if_pos c41] at H
                        have c41b0 : decide (((rd_T30 t224 x15_3).f0) < (l2.length : Int)) = true := decide_eq_true c41
                        clear c41
                        by_cases c42 : (rd l2 ((rd_T30 t224 x15_3).f0)) = 14
                        ·rw [if_pos c42] at H
                         have c42b0 : ((rd l2 ((rd_T30 t224 x15_3).f0)) == 14) = true := beq_iff_eq.mpr c42
                         have c42b1 : ((rd l2 ((rd_T30 t224 x15_3).f0)) != 14) = false := bne_eq_false_iff_eq.mpr c42
                         clear c42
                         by_cases c43 : ((rd_T30 t224 x15_3).f1) < (l2.length : Int)
                         ·rw [if_pos c43] at H
                          have c43b0 : decide (((rd_T30 t224 x15_3).f1) < (l2.length : Int)) = true := decide_eq_true c43
                          clear c43
                          by_cases c44 : (rd l2 ((rd_T30 t224 x15_3).f1)) = 14
                          ·rw [if_pos c44] at H
                           have c44b0 : ((rd l2 ((rd_T30 t224 x15_3).f1)) == 14) = true := beq_iff_eq.mpr c44
                           have c44b1 : ((rd l2 ((rd_T30 t224 x15_3).f1)) != 14) = false := bne_eq_false_iff_eq.mpr c44
                           clear c44
                           by_cases c45 : ((rd_T30 t224 x15_3).f0) < (t227.length : Int)
                           ·rw [if_pos c45] at H
                            have c45b0 : decide (((rd_T30 t224 x15_3).f0) < (t227.length : Int)) = true := decide_eq_true c45
                            clear c45
                            by_cases c46 : ((rd_T30 t224 x15_3).f1) < (t227.length : Int)
                            ·rw [if_pos c46] at H
                             have c46b0 : decide (((rd_T30 t224 x15_3).f1) < (t227.length : Int)) = true := decide_eq_true c46
                             clear c46
                             by_cases c47 : (rd t227 ((rd_T30 t224 x15_3).f0)) = (rd t227 ((rd_T30 t224 x15_3).f1))
                             ·rw [if_pos c47] at H
                              have c47b0 : ((rd t227 ((rd_T30 t224 x15_3).f0)) == (rd t227 ((rd_T30 t224 x15_3).f1))) = true := beq_iff_eq.mpr c47
                              have c47b1 : ((rd t227 ((rd_T30 t224 x15_3).f0)) != (rd t227 ((rd_T30 t224 x15_3).f1))) = false := bne_eq_false_iff_eq.mpr c47
                              clear c47
                              have H' := Aside0.mk H
                              clear H
                              obtain ⟨Ao48, co48, eo48⟩ := Kd.R_slice HO_14.out
                              subst eo48
                              have p236 := dT (0 ≤ (((rd_T30 t224 x15_3).f0) : Int))
                              have q236 := dT (((rd_T30 t224 x15_3).f0) < (x14_3.length : Int))
                              obtain ⟨ad236, e236, hx236_0⟩ := Kd.at_bool (Kd.R_reads' HO_14.out).2.2 ((rd_T30 t224 x15_3).f0) p236 q236
                              (try rw [← Nbq33.out] at hx236_0)
                              (try rw [← Nbq38.out] at hx236_0)
                              cases e236
                              replace p236 := eq_true p236
                              replace q236 := eq_true q236
                              have p237 := dT (0 ≤ (((rd_T30 t224 x15_3).f1) : Int))
                              have q237 := dT (((rd_T30 t224 x15_3).f1) < (x14_3.length : Int))
                              obtain ⟨ad237, e237, hx237_0⟩ := Kd.at_bool (Kd.R_reads' HO_14.out).2.2 ((rd_T30 t224 x15_3).f1) p237 q237
                              (try rw [← Nbq33.out] at hx237_0)
                              (try rw [← Nbq38.out] at hx237_0)
                              obtain rfl : ad236 = ad237 := (by injection e237)
                              replace p237 := eq_true p237
                              replace q237 := eq_true q237
                              obtain ⟨ad238, e238, hx238_0, p238, q238⟩ := atI HR2.out ((rd_T30 t224 x15_3).f0)
                              cases e238
                              replace hx238_0 := (HB.out.cell (World.block_lt_of_cell? w _ hx238_0)).trans hx238_0
                              obtain ⟨ad239, e239, hx239_0, p239, q239⟩ := atI HR2.out ((rd_T30 t224 x15_3).f1)
                              obtain rfl : ad238 = ad239 := (by injection e239)
                              replace hx239_0 := (HB.out.cell (World.block_lt_of_cell? w _ hx239_0)).trans hx239_0
                              obtain ⟨Ao49, co49, eo49⟩ := Kd.R_slice HO_12.out
                              subst eo49
                              obtain ⟨ad240, e240, hx240_0, p240, q240⟩ := atI (Kd.R_reads' HO_12.out).2.2 ((rd_T30 t224 x15_3).f0)
                              cases e240
                              obtain ⟨ad241, e241, hx241_0, p241, q241⟩ := atI (Kd.R_reads' HO_12.out).2.2 ((rd_T30 t224 x15_3).f1)
                              obtain rfl : ad240 = ad241 := (by injection e241)
                              go_wp2
                              repeat (go_quiet (fail); try go_wp2)
                              go_meet
                              case rel => exact ⟨_, (false), (by first | rfl | (simp; done) | (simp [*]; done)), H', ⟨by have := HJ5.out; have := HJ13.out; have := HK3.out; first | omega | exact Nat.le_refl _⟩, ⟨mvR HO_11⟩, ⟨mvR HO_12⟩, ⟨mvR HO_14⟩, ⟨mvB HB⟩⟩
                             ·rw [if_neg c47] at H
                              have c47b0 : ((rd t227 ((rd_T30 t224 x15_3).f0)) == (rd t227 ((rd_T30 t224 x15_3).f1))) = false := beq_eq_false_iff_ne.mpr c47
                              have c47b1 : ((rd t227 ((rd_T30 t224 x15_3).f0)) != (rd t227 ((rd_T30 t224 x15_3).f1))) = true := bne_iff_ne.mpr c47
                              by_cases c50 : ((rd_T30 t224 x15_3).f0) < (l1.length : Int)
                              ·rw [if_pos c50] at H
                               have c50b0 : decide (((rd_T30 t224 x15_3).f0) < (l1.length : Int)) = true := decide_eq_true c50
                               clear c50
                               by_cases c51 : (rd l1 ((rd_T30 t224 x15_3).f0)) = 9
                               ·rw [if_pos c51] at H
                                have c51b0 : ((rd l1 ((rd_T30 t224 x15_3).f0)) == 9) = true := beq_iff_eq.mpr c51
                                have c51b1 : ((rd l1 ((rd_T30 t224 x15_3).f0)) != 9) = false := bne_eq_false_iff_eq.mpr c51
                                clear c51
                                have H' := Aside0.mk H
                                clear H
                                obtain ⟨Ao52, co52, eo52⟩ := Kd.R_slice HO_14.out
                                subst eo52
                                have p236 := dT (0 ≤ (((rd_T30 t224 x15_3).f0) : Int))
                                have q236 := dT (((rd_T30 t224 x15_3).f0) < (x14_3.length : Int))
                                obtain ⟨ad236, e236, hx236_0⟩ := Kd.at_bool (Kd.R_reads' HO_14.out).2.2 ((rd_T30 t224 x15_3).f0) p236 q236
                                (try rw [← Nbq33.out] at hx236_0)
                                (try rw [← Nbq38.out] at hx236_0)
                                cases e236
                                replace p236 := eq_true p236
                                replace q236 := eq_true q236
                                have p237 := dT (0 ≤ (((rd_T30 t224 x15_3).f1) : Int))
                                have q237 := dT (((rd_T30 t224 x15_3).f1) < (x14_3.length : Int))
                                obtain ⟨ad237, e237, hx237_0⟩ := Kd.at_bool (Kd.R_reads' HO_14.out).2.2 ((rd_T30 t224 x15_3).f1) p237 q237
                                (try rw [← Nbq33.out] at hx237_0)
                                (try rw [← Nbq38.out] at hx237_0)
                                obtain rfl : ad236 = ad237 := (by injection e237)
                                replace p237 := eq_true p237
                                replace q237 := eq_true q237
                                obtain ⟨ad238, e238, hx238_0, p238, q238⟩ := atI HR2.out ((rd_T30 t224 x15_3).f0)
                                cases e238
                                replace hx238_0 := (HB.out.cell (World.block_lt_of_cell? w _ hx238_0)).trans hx238_0
                                obtain ⟨ad239, e239, hx239_0, p239, q239⟩ := atI HR2.out ((rd_T30 t224 x15_3).f1)
                                obtain rfl : ad238 = ad239 := (by injection e239)
                                replace hx239_0 := (HB.out.cell (World.block_lt_of_cell? w _ hx239_0)).trans hx239_0
                                obtain ⟨Ao53, co53, eo53⟩ := Kd.R_slice HO_12.out
                                subst eo53
                                obtain ⟨ad240, e240, hx240_0, p240, q240⟩ := atI (Kd.R_reads' HO_12.out).2.2 ((rd_T30 t224 x15_3).f0)
                                cases e240
                                obtain ⟨ad241, e241, hx241_0, p241, q241⟩ := atI (Kd.R_reads' HO_12.out).2.2 ((rd_T30 t224 x15_3).f1)
                                obtain rfl : ad240 = ad241 := (by injection e241)
                                obtain ⟨ad242, e242, hx242_0, p242, q242⟩ := atI HR1.out ((rd_T30 t224 x15_3).f0)
                                cases e242
                                replace hx242_0 := (HB.out.cell (World.block_lt_of_cell? w _ hx242_0)).trans hx242_0
                                go_wp2
                                repeat (go_quiet (fail); try go_wp2)
                                go_meet
                                case rel => exact ⟨_, (false), (by first | rfl | (simp; done) | (simp [*]; done)), H', ⟨by have := HJ5.out; have := HJ13.out; have := HK3.out; first | omega | exact Nat.le_refl _⟩, ⟨mvR HO_11⟩, ⟨mvR HO_12⟩, ⟨mvR HO_14⟩, ⟨mvB HB⟩⟩
                               ·rw [if_neg c51] at H
                                have c51b0 : ((rd l1 ((rd_T30 t224 x15_3).f0)) == 9) = false := beq_eq_false_iff_ne.mpr c51
                                have c51b1 : ((rd l1 ((rd_T30 t224 x15_3).f0)) != 9) = true := bne_iff_ne.mpr c51
                                by_cases c54 : ((rd_T30 t224 x15_3).f1) < (l1.length : Int)
                                ·rw [if_pos c54] at H
                                 have c54b0 : decide (((rd_T30 t224 x15_3).f1) < (l1.length : Int)) = true := decide_eq_true c54
                                 clear c54
                                 have H' := Aside0.mk H
                                 clear H
                                 obtain ⟨Ao55, co55, eo55⟩ := Kd.R_slice HO_14.out
                                 subst eo55
                                 have p236 := dT (0 ≤ (((rd_T30 t224 x15_3).f0) : Int))
                                 have q236 := dT (((rd_T30 t224 x15_3).f0) < (x14_3.length : Int))
                                 obtain ⟨ad236, e236, hx236_0⟩ := Kd.at_bool (Kd.R_reads' HO_14.out).2.2 ((rd_T30 t224 x15_3).f0) p236 q236
                                 (try rw [← Nbq33.out] at hx236_0)
                                 (try rw [← Nbq38.out] at hx236_0)
                                 cases e236
                                 replace p236 := eq_true p236
                                 replace q236 := eq_true q236
                                 have p237 := dT (0 ≤ (((rd_T30 t224 x15_3).f1) : Int))
                                 have q237 := dT (((rd_T30 t224 x15_3).f1) < (x14_3.length : Int))
                                 obtain ⟨ad237, e237, hx237_0⟩ := Kd.at_bool (Kd.R_reads' HO_14.out).2.2 ((rd_T30 t224 x15_3).f1) p237 q237
                                 (try rw [← Nbq33.out] at hx237_0)
                                 (try rw [← Nbq38.out] at hx237_0)
                                 obtain rfl : ad236 = ad237 := (by injection e237)
                                 replace p237 := eq_true p237
                                 replace q237 := eq_true q237
                                 obtain ⟨ad238, e238, hx238_0, p238, q238⟩ := atI HR2.out ((rd_T30 t224 x15_3).f0)
                                 cases e238
                                 replace hx238_0 := (HB.out.cell (World.block_lt_of_cell? w _ hx238_0)).trans hx238_0
                                 obtain ⟨ad239, e239, hx239_0, p239, q239⟩ := atI HR2.out ((rd_T30 t224 x15_3).f1)
                                 obtain rfl : ad238 = ad239 := (by injection e239)
                                 replace hx239_0 := (HB.out.cell (World.block_lt_of_cell? w _ hx239_0)).trans hx239_0
                                 obtain ⟨Ao56, co56, eo56⟩ := Kd.R_slice HO_12.out
                                 subst eo56
                                 obtain ⟨ad240, e240, hx240_0, p240, q240⟩ := atI (Kd.R_reads' HO_12.out).2.2 ((rd_T30 t224 x15_3).f0)
                                 cases e240
                                 obtain ⟨ad241, e241, hx241_0, p241, q241⟩ := atI (Kd.R_reads' HO_12.out).2.2 ((rd_T30 t224 x15_3).f1)
                                 obtain rfl : ad240 = ad241 := (by injection e241)
                                 obtain ⟨ad242, e242, hx242_0, p242, q242⟩ := atI HR1.out ((rd_T30 t224 x15_3).f0)
                                 cases e242
                                 replace hx242_0 := (HB.out.cell (World.block_lt_of_cell? w _ hx242_0)).trans hx242_0
                                 obtain ⟨ad243, e243, hx243_0, p243, q243⟩ := atI HR1.out ((rd_T30 t224 x15_3).f1)
                                 obtain rfl : ad242 = ad243 := (by injection e243)
                                 replace hx243_0 := (HB.out.cell (World.block_lt_of_cell? w _ hx243_0)).trans hx243_0
                                 go_wp2
                                 repeat (go_quiet (fail); try go_wp2)
                                 go_meet
                                 case rel => exact ⟨_, (((rd l1 ((rd_T30 t224 x15_3).f1)) != 9)), (by first | rfl | (simp; done) | (simp [*]; done)), H', ⟨by have := HJ5.out; have := HJ13.out; have := HK3.out; first | omega | exact Nat.le_refl _⟩, ⟨mvR HO_11⟩, ⟨mvR HO_12⟩, ⟨mvR HO_14⟩, ⟨mvB HB⟩⟩
                                ·rw [if_neg c54] at H
                                 exact absurd H (by simp)
                              ·rw [if_neg c50] at H
                               exact absurd H (by simp)
                            ·rw [if_neg c46] at H
                             exact absurd H (by simp)
                           ·rw [if_neg c45] at H
                            exact absurd H (by simp)
                          ·rw [if_neg c44] at H
                           have c44b0 : ((rd l2 ((rd_T30 t224 x15_3).f1)) == 14) = false := beq_eq_false_iff_ne.mpr c44
                           have c44b1 : ((rd l2 ((rd_T30 t224 x15_3).f1)) != 14) = true := bne_iff_ne.mpr c44
                           have H' := Aside0.mk H
                           clear H
                           obtain ⟨Ao57, co57, eo57⟩ := Kd.R_slice HO_14.out
                           subst eo57
                           have p236 := dT (0 ≤ (((rd_T30 t224 x15_3).f0) : Int))
                           have q236 := dT (((rd_T30 t224 x15_3).f0) < (x14_3.length : Int))
                           obtain ⟨ad236, e236, hx236_0⟩ := Kd.at_bool (Kd.R_reads' HO_14.out).2.2 ((rd_T30 t224 x15_3).f0) p236 q236
                           (try rw [← Nbq33.out] at hx236_0)
                           (try rw [← Nbq38.out] at hx236_0)
                           cases e236
                           replace p236 := eq_true p236
                           replace q236 := eq_true q236
                           have p237 := dT (0 ≤ (((rd_T30 t224 x15_3).f1) : Int))
                           have q237 := dT (((rd_T30 t224 x15_3).f1) < (x14_3.length : Int))
                           obtain ⟨ad237, e237, hx237_0⟩ := Kd.at_bool (Kd.R_reads' HO_14.out).2.2 ((rd_T30 t224 x15_3).f1) p237 q237
                           (try rw [← Nbq33.out] at hx237_0)
                           (try rw [← Nbq38.out] at hx237_0)
                           obtain rfl : ad236 = ad237 := (by injection e237)
                           replace p237 := eq_true p237
                           replace q237 := eq_true q237
                           obtain ⟨ad238, e238, hx238_0, p238, q238⟩ := atI HR2.out ((rd_T30 t224 x15_3).f0)
                           cases e238
                           replace hx238_0 := (HB.out.cell (World.block_lt_of_cell? w _ hx238_0)).trans hx238_0
                           obtain ⟨ad239, e239, hx239_0, p239, q239⟩ := atI HR2.out ((rd_T30 t224 x15_3).f1)
                           obtain rfl : ad238 = ad239 := (by injection e239)
                           replace hx239_0 := (HB.out.cell (World.block_lt_of_cell? w _ hx239_0)).trans hx239_0
                           go_wp2
                           repeat (go_quiet (fail); try go_wp2)
                           go_meet
                           case rel => exact ⟨_, (true), (by first | rfl | (simp; done) | (simp [*]; done)), H', ⟨by have := HJ5.out; have := HJ13.out; have := HK3.out; first | omega | exact Nat.le_refl _⟩, ⟨mvR HO_11⟩, ⟨mvR HO_12⟩, ⟨mvR HO_14⟩, ⟨mvB HB⟩⟩
                         ·rw [if_neg c43] at H
                          exact absurd H (by simp)
                        ·rw [if_neg c42] at H
                         have c42b0 : ((rd l2 ((rd_T30 t224 x15_3).f0)) == 14) = false := beq_eq_false_iff_ne.mpr c42
                         have c42b1 : ((rd l2 ((rd_T30 t224 x15_3).f0)) != 14) = true := bne_iff_ne.mpr c42
                         have H' := Aside0.mk H
                         clear H
                         obtain ⟨Ao58, co58, eo58⟩ := Kd.R_slice HO_14.out
                         subst eo58
                         have p236 := dT (0 ≤ (((rd_T30 t224 x15_3).f0) : Int))
                         have q236 := dT (((rd_T30 t224 x15_3).f0) < (x14_3.length : Int))
                         obtain ⟨ad236, e236, hx236_0⟩ := Kd.at_bool (Kd.R_reads' HO_14.out).2.2 ((rd_T30 t224 x15_3).f0) p236 q236
                         (try rw [← Nbq33.out] at hx236_0)
                         (try rw [← Nbq38.out] at hx236_0)
                         cases e236
                         replace p236 := eq_true p236
                         replace q236 := eq_true q236
                         have p237 := dT (0 ≤ (((rd_T30 t224 x15_3).f1) : Int))
                         have q237 := dT (((rd_T30 t224 x15_3).f1) < (x14_3.length : Int))
                         obtain ⟨ad237, e237, hx237_0⟩ := Kd.at_bool (Kd.R_reads' HO_14.out).2.2 ((rd_T30 t224 x15_3).f1) p237 q237
                         (try rw [← Nbq33.out] at hx237_0)
                         (try rw [← Nbq38.out] at hx237_0)
                         obtain rfl : ad236 = ad237 := (by injection e237)
                         replace p237 := eq_true p237
                         replace q237 := eq_true q237
                         obtain ⟨ad238, e238, hx238_0, p238, q238⟩ := atI HR2.out ((rd_T30 t224 x15_3).f0)
                         cases e238
                         replace hx238_0 := (HB.out.cell (World.block_lt_of_cell? w _ hx238_0)).trans hx238_0
                         go_wp2
                         repeat (go_quiet (fail); try go_wp2)
                         go_meet
                         case rel => exact ⟨_, (true), (by first | rfl | (simp; done) | (simp [*]; done)), H', ⟨by have := HJ5.out; have := HJ13.out; have := HK3.out; first | omega | exact Nat.le_refl _⟩, ⟨mvR HO_11⟩, ⟨mvR HO_12⟩, ⟨mvR HO_14⟩, ⟨mvB HB⟩⟩
                       ·rw [if_neg c41] at H
                        exact absurd H (by simp)
                     ·rw [if_neg c37] at H
                      exact absurd H (by simp)
                    ·rw [if_neg c36] at H
                     exact absurd H (by simp)
                  ·rw [if_neg c32] at H
                   exact absurd H (by simp)
                 ·rw [if_neg c31] at H
                  exact absurd H (by simp)
             case rest =>
              as_aux_lemma =>
              clear HC26
              try clear c1
              try clear c2
              try clear p2
              try clear q2
              try clear hx2
              try clear c3
              try clear q3
              try clear c4
              try clear c5
              try clear c7
              try clear c7b0
              try clear c7b1
              try clear c8
              try clear c8b0
              try clear c8b1
              try clear c8b2
              try clear c9
              try clear c17
              try clear c17b0
              try clear c17b1
              try clear c19
              try clear c20
              try clear c20b0
              try clear c20b1
              try clear c21
              try clear c21b0
              try clear c21b1
              try clear p23
              try clear q23
              try clear hx23
              try clear c24
              try clear c24b0
              try clear p24
              try clear q24
              try clear hx24
              try clear c25
              try clear c25b0
              try clear c28
              try clear c28b0
              try clear c29
              try clear c29b0
              try clear c30
              try clear c30b0
              try clear c31
              try clear c31b0
              try clear c32
              try clear c32b0
              try clear q33
              try clear c34
              try clear c36
              try clear c36b0
              try clear c37
              try clear c37b0
              try clear q38
              try clear c39
              try clear c41
              try clear c41b0
              try clear c42
              try clear c42b0
              try clear c42b1
              try clear c43
              try clear c43b0
              try clear c44
              try clear c44b0
              try clear c44b1
              try clear c45
              try clear c45b0
              try clear c46
              try clear c46b0
              try clear c47
              try clear c47b0
              try clear c47b1
              try clear c50
              try clear c50b0
              try clear c51
              try clear c51b0
              try clear c51b1
              try clear c54
              try clear c54b0
              try clear hx234_0
              try clear hx234_1
              try clear hx235_0
              try clear hx235_1
              try clear hx236_0
              try clear hx237_0
              try clear hx238_0
              try clear hx239_0
              try clear hx240_0
              try clear hx241_0
              try clear hx242_0
              try clear hx243_0
              try clear p2
              try clear p234
              try clear p235
              try clear p236
              try clear p237
              try clear p238
              try clear p239
              try clear p240
              try clear p241
              try clear p242
              try clear p243
              try clear q234
              try clear q235
              try clear q236
              try clear q237
              try clear q238
              try clear q239
              try clear q240
              try clear q241
              try clear q242
              try clear q243
              obtain ⟨kq, x147_25, rfl, HA, HJ25, HO_11, HO_12, HO_14, HB⟩ := hcut
              cases kq with
              | zero => exact absurd HA.out (by simp [selvedgelaw17_PairsNest.j3])
              | succ kj25 =>
               have H := HA.out
               clear HA
               simp only [selvedgelaw17_PairsNest.j3] at H
               by_cases c59 : x147_25 = true
               ·subst c59
                have H1 : (some false) = some r := by rw [if_pos rfl] at H; exact H
                clear H
                have H := H1
                clear H1
                obtain rfl := Option.some.inj H
                go_wp2
                repeat (go_quiet (fail); try go_wp2)
                go_ret
                exact ⟨by first | rfl | (simp [errW_none, errW_some] <;> rfl) | (simp [*, errW_none, errW_some] <;> rfl), mvB HB⟩
               ·replace c59 := Bool.eq_false_iff.mpr c59
                subst c59
                have H1 : (if 0 ≤ ((rd_T30 t224 x15_3).f0) then (if ((rd_T30 t224 x15_3).f0) < (l0.length : Int) then ((selvedgeref01_Bracket.f kj25 (rd l0 ((rd_T30 t224 x15_3).f0))).bind fun bt245 => (if 0 ≤ ((rd_T30 t224 x15_3).f1) then (if ((rd_T30 t224 x15_3).f1) < (l0.length : Int) then ((selvedgeref01_Bracket.f kj25 (rd l0 ((rd_T30 t224 x15_3).f1))).bind fun bt249 => (if bt245.2.1 = true then (if bt245.2.2 = true then (if bt249.2.1 = true then (selvedgelaw17_PairsNest.j4 kj25 l0 l1 l2 t224 t227 x14_3 x15_3 ((rd_T30 t224 x15_3).f0) ((rd_T30 t224 x15_3).f1) true) else (if bt249.2.2 = true then (selvedgelaw17_PairsNest.j4 kj25 l0 l1 l2 t224 t227 x14_3 x15_3 ((rd_T30 t224 x15_3).f0) ((rd_T30 t224 x15_3).f1) (bt245.1 != bt249.1)) else (selvedgelaw17_PairsNest.j4 kj25 l0 l1 l2 t224 t227 x14_3 x15_3 ((rd_T30 t224 x15_3).f0) ((rd_T30 t224 x15_3).f1) true))) else (selvedgelaw17_PairsNest.j4 kj25 l0 l1 l2 t224 t227 x14_3 x15_3 ((rd_T30 t224 x15_3).f0) ((rd_T30 t224 x15_3).f1) true)) else (selvedgelaw17_PairsNest.j4 kj25 l0 l1 l2 t224 t227 x14_3 x15_3 ((rd_T30 t224 x15_3).f0) ((rd_T30 t224 x15_3).f1) true))) else (none)) else (none))) else (none)) else (none)) = some r := by rw [if_neg (show ¬ (false = true) by decide)] at H; exact H
                clear H
                have H := H1
                clear H1
                by_cases c60 : 0 ≤ ((rd_T30 t224 x15_3).f0)
                ·rw [if_pos c60] at H
                 have c60b0 : decide (0 ≤ ((rd_T30 t224 x15_3).f0)) = true := decide_eq_true c60
                 clear c60
                 by_cases c61 : ((rd_T30 t224 x15_3).f0) < (l0.length : Int)
                 ·rw [if_pos c61] at H
                  have c61b0 : decide (((rd_T30 t224 x15_3).f0) < (l0.length : Int)) = true := decide_eq_true c61
                  clear c61
                  replace H := Option.bind_eq_some_iff.mp H
                  obtain ⟨⟨t245, t246, t247⟩, A620, H⟩ := H
                  replace H : (if 0 ≤ ((rd_T30 t224 x15_3).f1) then (if ((rd_T30 t224 x15_3).f1) < (l0.length : Int) then ((selvedgeref01_Bracket.f kj25 (rd l0 ((rd_T30 t224 x15_3).f1))).bind fun bt249 => (if t246 = true then (if t247 = true then (if bt249.2.1 = true then (selvedgelaw17_PairsNest.j4 kj25 l0 l1 l2 t224 t227 x14_3 x15_3 ((rd_T30 t224 x15_3).f0) ((rd_T30 t224 x15_3).f1) true) else (if bt249.2.2 = true then (selvedgelaw17_PairsNest.j4 kj25 l0 l1 l2 t224 t227 x14_3 x15_3 ((rd_T30 t224 x15_3).f0) ((rd_T30 t224 x15_3).f1) (t245 != bt249.1)) else (selvedgelaw17_PairsNest.j4 kj25 l0 l1 l2 t224 t227 x14_3 x15_3 ((rd_T30 t224 x15_3).f0) ((rd_T30 t224 x15_3).f1) true))) else (selvedgelaw17_PairsNest.j4 kj25 l0 l1 l2 t224 t227 x14_3 x15_3 ((rd_T30 t224 x15_3).f0) ((rd_T30 t224 x15_3).f1) true)) else (selvedgelaw17_PairsNest.j4 kj25 l0 l1 l2 t224 t227 x14_3 x15_3 ((rd_T30 t224 x15_3).f0) ((rd_T30 t224 x15_3).f1) true))) else (none)) else (none)) = some r := H
                  have A62 := Aside0.mk A620
                  clear A620
                  by_cases c63 : 0 ≤ ((rd_T30 t224 x15_3).f1)
                  ·rw [if_pos c63] at H
                   have c63b0 : decide (0 ≤ ((rd_T30 t224 x15_3).f1)) = true := decide_eq_true c63
                   clear c63
                   by_cases c64 : ((rd_T30 t224 x15_3).f1) < (l0.length : Int)
                   ·rw [if_pos c64] at H
                    have c64b0 : decide (((rd_T30 t224 x15_3).f1) < (l0.length : Int)) = true := decide_eq_true c64
                    clear c64
                    replace H := Option.bind_eq_some_iff.mp H
                    obtain ⟨⟨t249, t250, t251⟩, A650, H⟩ := H
                    replace H : (if t246 = true then (if t247 = true then (if t250 = true then (selvedgelaw17_PairsNest.j4 kj25 l0 l1 l2 t224 t227 x14_3 x15_3 ((rd_T30 t224 x15_3).f0) ((rd_T30 t224 x15_3).f1) true) else (if t251 = true then (selvedgelaw17_PairsNest.j4 kj25 l0 l1 l2 t224 t227 x14_3 x15_3 ((rd_T30 t224 x15_3).f0) ((rd_T30 t224 x15_3).f1) (t245 != t249)) else (selvedgelaw17_PairsNest.j4 kj25 l0 l1 l2 t224 t227 x14_3 x15_3 ((rd_T30 t224 x15_3).f0) ((rd_T30 t224 x15_3).f1) true))) else (selvedgelaw17_PairsNest.j4 kj25 l0 l1 l2 t224 t227 x14_3 x15_3 ((rd_T30 t224 x15_3).f0) ((rd_T30 t224 x15_3).f1) true)) else (selvedgelaw17_PairsNest.j4 kj25 l0 l1 l2 t224 t227 x14_3 x15_3 ((rd_T30 t224 x15_3).f0) ((rd_T30 t224 x15_3).f1) true)) = some r := H
                    have A65 := Aside0.mk A650
                    clear A650
                    have HC66 := Aside0.mk H
                    clear H
                    obtain ⟨ad244, e244, hx244_0, p244, q244⟩ := atI HR0.out ((rd_T30 t224 x15_3).f0)
                    cases e244
                    replace hx244_0 := (HB.out.cell (World.block_lt_of_cell? w _ hx244_0)).trans hx244_0
                    go_upto_region 16 with (first | (go_at_call 14; (with_reducible refine (selvedgeref01_Bracket.calls kj25 (rd l0 ((rd_T30 t224 x15_3).f0)) t245 t246 t247 _ A62.out).mono ?_); rintro e w67 ⟨rfl, hb⟩; have n0_ := Aside0.mk (Kd.R_below (mvR HO_11) hb); have n1_ := Aside0.mk (Kd.R_below (mvR HO_12) hb); have n2_ := Aside0.mk (Kd.R_below (mvR HO_14) hb); have n3_ := Aside0.mk (below_step (mvB HB) hb); clear HO_11; clear HO_12; clear HO_14; clear HB; have HO_11 := n0_; have HO_12 := n1_; have HO_14 := n2_; have HB := n3_; clear n0_ n1_ n2_ n3_; (try clear hb); (try clear hb2); (try clear hk); (try clear hi); obtain ⟨ad248, e248, hx248_0, p248, q248⟩ := atI HR0.out ((rd_T30 t224 x15_3).f1); obtain rfl : ad244 = ad248 := (by injection e248); replace hx248_0 := (HB.out.cell (World.block_lt_of_cell? w _ hx248_0)).trans hx248_0) | (go_at_call 14; (with_reducible refine (selvedgeref01_Bracket.calls kj25 (rd l0 ((rd_T30 t224 x15_3).f1)) t249 t250 t251 _ A65.out).mono ?_); rintro e w68 ⟨rfl, hb⟩; have n0_ := Aside0.mk (Kd.R_below (mvR HO_11) hb); have n1_ := Aside0.mk (Kd.R_below (mvR HO_12) hb); have n2_ := Aside0.mk (Kd.R_below (mvR HO_14) hb); have n3_ := Aside0.mk (below_step (mvB HB) hb); clear HO_11; clear HO_12; clear HO_14; clear HB; have HO_11 := n0_; have HO_12 := n1_; have HO_14 := n2_; have HB := n3_; clear n0_ n1_ n2_ n3_; (try clear hb); (try clear hb2); (try clear hk); (try clear hi)))
                    repeat (go_quiet (first | (go_at_call 14; (with_reducible refine (selvedgeref01_Bracket.calls kj25 (rd l0 ((rd_T30 t224 x15_3).f0)) t245 t246 t247 _ A62.out).mono ?_); rintro e w67 ⟨rfl, hb⟩; have n0_ := Aside0.mk (Kd.R_below (mvR HO_11) hb); have n1_ := Aside0.mk (Kd.R_below (mvR HO_12) hb); have n2_ := Aside0.mk (Kd.R_below (mvR HO_14) hb); have n3_ := Aside0.mk (below_step (mvB HB) hb); clear HO_11; clear HO_12; clear HO_14; clear HB; have HO_11 := n0_; have HO_12 := n1_; have HO_14 := n2_; have HB := n3_; clear n0_ n1_ n2_ n3_; (try clear hb); (try clear hb2); (try clear hk); (try clear hi); obtain ⟨ad248, e248, hx248_0, p248, q248⟩ := atI HR0.out ((rd_T30 t224 x15_3).f1); obtain rfl : ad244 = ad248 := (by injection e248); replace hx248_0 := (HB.out.cell (World.block_lt_of_cell? w _ hx248_0)).trans hx248_0) | (go_at_call 14; (with_reducible refine (selvedgeref01_Bracket.calls kj25 (rd l0 ((rd_T30 t224 x15_3).f1)) t249 t250 t251 _ A65.out).mono ?_); rintro e w68 ⟨rfl, hb⟩; have n0_ := Aside0.mk (Kd.R_below (mvR HO_11) hb); have n1_ := Aside0.mk (Kd.R_below (mvR HO_12) hb); have n2_ := Aside0.mk (Kd.R_below (mvR HO_14) hb); have n3_ := Aside0.mk (below_step (mvB HB) hb); clear HO_11; clear HO_12; clear HO_14; clear HB; have HO_11 := n0_; have HO_12 := n1_; have HO_14 := n2_; have HB := n3_; clear n0_ n1_ n2_ n3_; (try clear hb); (try clear hb2); (try clear hk); (try clear hi))); go_upto_region 16 with (first | (go_at_call 14; (with_reducible refine (selvedgeref01_Bracket.calls kj25 (rd l0 ((rd_T30 t224 x15_3).f0)) t245 t246 t247 _ A62.out).mono ?_); rintro e w67 ⟨rfl, hb⟩; have n0_ := Aside0.mk (Kd.R_below (mvR HO_11) hb); have n1_ := Aside0.mk (Kd.R_below (mvR HO_12) hb); have n2_ := Aside0.mk (Kd.R_below (mvR HO_14) hb); have n3_ := Aside0.mk (below_step (mvB HB) hb); clear HO_11; clear HO_12; clear HO_14; clear HB; have HO_11 := n0_; have HO_12 := n1_; have HO_14 := n2_; have HB := n3_; clear n0_ n1_ n2_ n3_; (try clear hb); (try clear hb2); (try clear hk); (try clear hi); obtain ⟨ad248, e248, hx248_0, p248, q248⟩ := atI HR0.out ((rd_T30 t224 x15_3).f1); obtain rfl : ad244 = ad248 := (by injection e248); replace hx248_0 := (HB.out.cell (World.block_lt_of_cell? w _ hx248_0)).trans hx248_0) | (go_at_call 14; (with_reducible refine (selvedgeref01_Bracket.calls kj25 (rd l0 ((rd_T30 t224 x15_3).f1)) t249 t250 t251 _ A65.out).mono ?_); rintro e w68 ⟨rfl, hb⟩; have n0_ := Aside0.mk (Kd.R_below (mvR HO_11) hb); have n1_ := Aside0.mk (Kd.R_below (mvR HO_12) hb); have n2_ := Aside0.mk (Kd.R_below (mvR HO_14) hb); have n3_ := Aside0.mk (below_step (mvB HB) hb); clear HO_11; clear HO_12; clear HO_14; clear HB; have HO_11 := n0_; have HO_12 := n1_; have HO_14 := n2_; have HB := n3_; clear n0_ n1_ n2_ n3_; (try clear hb); (try clear hb2); (try clear hk); (try clear hi))))
                    (try simp only [Act.put, List.setIfInBounds_toArray, List.set_cons_zero, List.set_cons_succ])
                    go_cut [183] (fun v183 wc => ∃ (kq : Nat) (x183_65 : Bool), v183 = .bool x183_65 ∧ Aside0 (selvedgelaw17_PairsNest.j4 kq l0 l1 l2 t224 t227 x14_3 x15_3 ((rd_T30 t224 x15_3).f0) ((rd_T30 t224 x15_3).f1) x183_65 = some r) ∧ Aside0 (kq ≤ kj25) ∧ Aside0 (Kd.R k30 30 wc w.heap.size (fun _ => True) (.slice (some ad234) t224.length co27) t224) ∧ Aside0 (Kd.R (Kd.int .u8) 33 wc w.heap.size (fun _ => True) v229 t227) ∧ Aside0 (Kd.R Kd.bool 4 wc w.heap.size (fun _ => True) v232 x14_3) ∧ Aside0 (Below w.heap.size w wc))
                    case first =>
                     as_aux_lemma =>
                     have H := HC66.out
                     clear HC66
                     by_cases c69 : t246 = true
                     ·subst c69
                      have H1 : (if t247 = true then (if t250 = true then (selvedgelaw17_PairsNest.j4 kj25 l0 l1 l2 t224 t227 x14_3 x15_3 ((rd_T30 t224 x15_3).f0) ((rd_T30 t224 x15_3).f1) true) else (if t251 = true then (selvedgelaw17_PairsNest.j4 kj25 l0 l1 l2 t224 t227 x14_3 x15_3 ((rd_T30 t224 x15_3).f0) ((rd_T30 t224 x15_3).f1) (t245 != t249)) else (selvedgelaw17_PairsNest.j4 kj25 l0 l1 l2 t224 t227 x14_3 x15_3 ((rd_T30 t224 x15_3).f0) ((rd_T30 t224 x15_3).f1) true))) else (selvedgelaw17_PairsNest.j4 kj25 l0 l1 l2 t224 t227 x14_3 x15_3 ((rd_T30 t224 x15_3).f0) ((rd_T30 t224 x15_3).f1) true)) = some r := by rw [if_pos rfl] at H; exact H
                      clear H
                      have H := H1
                      clear H1
                      by_cases c70 : t247 = true
                      ·subst c70
                       have H1 : (if t250 = true then (selvedgelaw17_PairsNest.j4 kj25 l0 l1 l2 t224 t227 x14_3 x15_3 ((rd_T30 t224 x15_3).f0) ((rd_T30 t224 x15_3).f1) true) else (if t251 = true then (selvedgelaw17_PairsNest.j4 kj25 l0 l1 l2 t224 t227 x14_3 x15_3 ((rd_T30 t224 x15_3).f0) ((rd_T30 t224 x15_3).f1) (t245 != t249)) else (selvedgelaw17_PairsNest.j4 kj25 l0 l1 l2 t224 t227 x14_3 x15_3 ((rd_T30 t224 x15_3).f0) ((rd_T30 t224 x15_3).f1) true))) = some r := by rw [if_pos rfl] at H; exact H
                       clear H
                       have H := H1
                       clear H1
                       by_cases c71 : t250 = true
                       ·subst c71
                        have H1 : (selvedgelaw17_PairsNest.j4 kj25 l0 l1 l2 t224 t227 x14_3 x15_3 ((rd_T30 t224 x15_3).f0) ((rd_T30 t224 x15_3).f1) true) = some r := by rw [if_pos rfl] at H; exact H
                        clear H
                        have H := H1
                        clear H1
                        have H' := Aside0.mk H
                        clear H
                        go_wp2
                        repeat (go_quiet (fail); try go_wp2)
                        go_meet
                        case rel => exact ⟨_, (true), (by first | rfl | (simp; done) | (simp [*]; done)), H', ⟨by have := HJ5.out; have := HJ13.out; have := HK3.out; have := HJ25.out; first | omega | exact Nat.le_refl _⟩, ⟨mvR HO_11⟩, ⟨mvR HO_12⟩, ⟨mvR HO_14⟩, ⟨mvB HB⟩⟩
                       ·replace c71 := Bool.eq_false_iff.mpr c71
                        subst c71
                        have H1 : (if t251 = true then (selvedgelaw17_PairsNest.j4 kj25 l0 l1 l2 t224 t227 x14_3 x15_3 ((rd_T30 t224 x15_3).f0) ((rd_T30 t224 x15_3).f1) (t245 != t249)) else (selvedgelaw17_PairsNest.j4 kj25 l0 l1 l2 t224 t227 x14_3 x15_3 ((rd_T30 t224 x15_3).f0) ((rd_T30 t224 x15_3).f1) true)) = some r := by rw [if_neg (show ¬ (false = true) by decide)] at H; exact H
                        clear H
                        have H := H1
                        clear H1
                        by_cases c72 : t251 = true
                        ·subst c72
                         have H1 : (selvedgelaw17_PairsNest.j4 kj25 l0 l1 l2 t224 t227 x14_3 x15_3 ((rd_T30 t224 x15_3).f0) ((rd_T30 t224 x15_3).f1) (t245 != t249)) = some r := by rw [if_pos rfl] at H; exact H
                         clear H
                         have H := H1
                         clear H1
                         have H' := Aside0.mk H
                         clear H
                         go_wp2
                         repeat (go_quiet (fail); try go_wp2)
                         go_meet
                         case rel => exact ⟨_, ((t245 != t249)), (by first | rfl | (simp; done) | (simp [*]; done)), H', ⟨by have := HJ5.out; have := HJ13.out; have := HK3.out; have := HJ25.out; first | omega | exact Nat.le_refl _⟩, ⟨mvR HO_11⟩, ⟨mvR HO_12⟩, ⟨mvR HO_14⟩, ⟨mvB HB⟩⟩
                        ·replace c72 := Bool.eq_false_iff.mpr c72
                         subst c72
                         have H1 : (selvedgelaw17_PairsNest.j4 kj25 l0 l1 l2 t224 t227 x14_3 x15_3 ((rd_T30 t224 x15_3).f0) ((rd_T30 t224 x15_3).f1) true) = some r := by rw [if_neg (show ¬ (false = true) by decide)] at H; exact H
                         clear H
                         have H := H1
                         clear H1
                         have H' := Aside0.mk H
                         clear H
                         go_wp2
                         repeat (go_quiet (fail); try go_wp2)
                         go_meet
                         case rel => exact ⟨_, (true), (by first | rfl | (simp; done) | (simp [*]; done)), H', ⟨by have := HJ5.out; have := HJ13.out; have := HK3.out; have := HJ25.out; first | omega | exact Nat.le_refl _⟩, ⟨mvR HO_11⟩, ⟨mvR HO_12⟩, ⟨mvR HO_14⟩, ⟨mvB HB⟩⟩
                      ·replace c70 := Bool.eq_false_iff.mpr c70
                       subst c70
                       have H1 : (selvedgelaw17_PairsNest.j4 kj25 l0 l1 l2 t224 t227 x14_3 x15_3 ((rd_T30 t224 x15_3).f0) ((rd_T30 t224 x15_3).f1) true) = some r := by rw [if_neg (show ¬ (false = true) by decide)] at H; exact H
                       clear H
                       have H := H1
                       clear H1
                       have H' := Aside0.mk H
                       clear H
                       go_wp2
                       repeat (go_quiet (fail); try go_wp2)
                       go_meet
                       case rel => exact ⟨_, (true), (by first | rfl | (simp; done) | (simp [*]; done)), H', ⟨by have := HJ5.out; have := HJ13.out; have := HK3.out; have := HJ25.out; first | omega | exact Nat.le_refl _⟩, ⟨mvR HO_11⟩, ⟨mvR HO_12⟩, ⟨mvR HO_14⟩, ⟨mvB HB⟩⟩
                     ·replace c69 := Bool.eq_false_iff.mpr c69
                      subst c69
                      have H1 : (selvedgelaw17_PairsNest.j4 kj25 l0 l1 l2 t224 t227 x14_3 x15_3 ((rd_T30 t224 x15_3).f0) ((rd_T30 t224 x15_3).f1) true) = some r := by rw [if_neg (show ¬ (false = true) by decide)] at H; exact H
                      clear H
                      have H := H1
                      clear H1
                      have H' := Aside0.mk H
                      clear H
                      go_wp2
                      repeat (go_quiet (fail); try go_wp2)
                      go_meet
                      case rel => exact ⟨_, (true), (by first | rfl | (simp; done) | (simp [*]; done)), H', ⟨by have := HJ5.out; have := HJ13.out; have := HK3.out; have := HJ25.out; first | omega | exact Nat.le_refl _⟩, ⟨mvR HO_11⟩, ⟨mvR HO_12⟩, ⟨mvR HO_14⟩, ⟨mvB HB⟩⟩
                    case rest =>
                     as_aux_lemma =>
                     clear HC66
                     try clear c1
                     try clear c2
                     try clear p2
                     try clear q2
                     try clear hx2
                     try clear c3
                     try clear q3
                     try clear c4
                     try clear c5
                     try clear c6
                     try clear c7
                     try clear c7b0
                     try clear c7b1
                     try clear c8
                     try clear c8b0
                     try clear c8b1
                     try clear c8b2
                     try clear c9
                     try clear c17
                     try clear c17b0
                     try clear c17b1
                     try clear c19
                     try clear c20
                     try clear c20b0
                     try clear c20b1
                     try clear c21
                     try clear c21b0
                     try clear c21b1
                     try clear p23
                     try clear q23
                     try clear hx23
                     try clear c24
                     try clear c24b0
                     try clear p24
                     try clear q24
                     try clear hx24
                     try clear c25
                     try clear c25b0
                     try clear c28
                     try clear c28b0
                     try clear c29
                     try clear c29b0
                     try clear c30
                     try clear c30b0
                     try clear c31
                     try clear c31b0
                     try clear c32
                     try clear c32b0
                     try clear q33
                     try clear c34
                     try clear c36
                     try clear c36b0
                     try clear c37
                     try clear c37b0
                     try clear q38
                     try clear c39
                     try clear c41
                     try clear c41b0
                     try clear c42
                     try clear c42b0
                     try clear c42b1
                     try clear c43
                     try clear c43b0
                     try clear c44
                     try clear c44b0
                     try clear c44b1
                     try clear c45
                     try clear c45b0
                     try clear c46
                     try clear c46b0
                     try clear c47
                     try clear c47b0
                     try clear c47b1
                     try clear c50
                     try clear c50b0
                     try clear c51
                     try clear c51b0
                     try clear c51b1
                     try clear c54
                     try clear c54b0
                     try clear c59
                     try clear c60
                     try clear c60b0
                     try clear c61
                     try clear c61b0
                     try clear c63
                     try clear c63b0
                     try clear c64
                     try clear c64b0
                     try clear c69
                     try clear c70
                     try clear c71
                     try clear c72
                     try clear hx234_0
                     try clear hx234_1
                     try clear hx235_0
                     try clear hx235_1
                     try clear hx236_0
                     try clear hx237_0
                     try clear hx238_0
                     try clear hx239_0
                     try clear hx240_0
                     try clear hx241_0
                     try clear hx242_0
                     try clear hx243_0
                     try clear hx244_0
                     try clear hx248_0
                     try clear p2
                     try clear p23
                     try clear p234
                     try clear p235
                     try clear p236
                     try clear p237
                     try clear p238
                     try clear p239
                     try clear p24
                     try clear p240
                     try clear p241
                     try clear p242
                     try clear p243
                     try clear p244
                     try clear p248
                     try clear q2
                     try clear q23
                     try clear q234
                     try clear q235
                     try clear q236
                     try clear q237
                     try clear q238
                     try clear q239
                     try clear q24
                     try clear q240
                     try clear q241
                     try clear q242
                     try clear q243
                     try clear q244
                     try clear q248
                     try clear q3
                     try clear q33
                     try clear q38
                     obtain ⟨kq, x183_65, rfl, HA, HJ65, HO_11, HO_12, HO_14, HB⟩ := hcut
                     cases kq with
                     | zero => exact absurd HA.out (by simp [selvedgelaw17_PairsNest.j4])
                     | succ kj65 =>
                      have H := HA.out
                      clear HA
                      simp only [selvedgelaw17_PairsNest.j4] at H
                      by_cases c73 : x183_65 = true
                      ·subst c73
                       have H1 : (some false) = some r := by rw [if_pos rfl] at H; exact H
                       clear H
                       have H := H1
                       clear H1
                       obtain rfl := Option.some.inj H
                       go_wp2
                       repeat (go_quiet (fail); try go_wp2)
                       go_ret
                       exact ⟨by first | rfl | (simp [errW_none, errW_some] <;> rfl) | (simp [*, errW_none, errW_some] <;> rfl), mvB HB⟩
                      ·replace c73 := Bool.eq_false_iff.mpr c73
                       subst c73
                       have H1 : (if 0 ≤ ((rd_T30 t224 x15_3).f0) then (if ((rd_T30 t224 x15_3).f0) < (x14_3.length : Int) then (if 0 ≤ ((rd_T30 t224 x15_3).f1) then (if ((rd_T30 t224 x15_3).f1) < (x14_3.length : Int) then (selvedgelaw17_PairsNest.l1 kj65 l0 l1 l2 t224 t227 ((x14_3.set (((rd_T30 t224 x15_3).f0) : Int).toNat true).set (((rd_T30 t224 x15_3).f1) : Int).toNat true) x15_3 ((rd_T30 t224 x15_3).f0) ((rd_T30 t224 x15_3).f1) 0) else (none)) else (none)) else (none)) else (none)) = some r := by rw [if_neg (show ¬ (false = true) by decide)] at H; exact H
                       clear H
                       have H := H1
                       clear H1
                       by_cases c74 : 0 ≤ ((rd_T30 t224 x15_3).f0)
                       ·rw [if_pos c74] at H
                        have c74b0 : decide (0 ≤ ((rd_T30 t224 x15_3).f0)) = true := decide_eq_true c74
                        clear c74
                        by_cases c75 : ((rd_T30 t224 x15_3).f0) < (x14_3.length : Int)
                        ·rw [if_pos c75] at H
                         have c75b0 : decide (((rd_T30 t224 x15_3).f0) < (x14_3.length : Int)) = true := decide_eq_true c75
                         clear c75
                         obtain ⟨y252, hy252⟩ : ∃ y_ : List Bool, y_ = (x14_3.set (((rd_T30 t224 x15_3).f0) : Int).toNat true) := ⟨_, rfl⟩
                         replace H : (if 0 ≤ ((rd_T30 t224 x15_3).f1) then (if ((rd_T30 t224 x15_3).f1) < (x14_3.length : Int) then (selvedgelaw17_PairsNest.l1 kj65 l0 l1 l2 t224 t227 (y252.set (((rd_T30 t224 x15_3).f1) : Int).toNat true) x15_3 ((rd_T30 t224 x15_3).f0) ((rd_T30 t224 x15_3).f1) 0) else (none)) else (none)) = some r := by first | (rw [hy252]; with_reducible exact H) | (have H2_ := (Option.bind_some _ _).symm.trans H; rw [hy252]; with_reducible exact H2_) | (have H2_ := (Option.bind_some _ _).symm.trans H; with_reducible exact H2_) | with_reducible exact H | (rw [hy252]; exact H) | exact H
                         have Ny252 := Aside0.mk hy252
                         clear hy252
                         by_cases c77 : 0 ≤ ((rd_T30 t224 x15_3).f1)
                         ·rw [if_pos c77] at H
                          have c77b0 : decide (0 ≤ ((rd_T30 t224 x15_3).f1)) = true := decide_eq_true c77
                          clear c77
                          by_cases c78 : ((rd_T30 t224 x15_3).f1) < (x14_3.length : Int)
                          ·rw [if_pos c78] at H
                           have c78b0 : decide (((rd_T30 t224 x15_3).f1) < (x14_3.length : Int)) = true := decide_eq_true c78
                           clear c78
                           obtain ⟨y253, hy253⟩ : ∃ y_ : List Bool, y_ = (y252.set (((rd_T30 t224 x15_3).f1) : Int).toNat true) := ⟨_, rfl⟩
                           replace H : (selvedgelaw17_PairsNest.l1 kj65 l0 l1 l2 t224 t227 y253 x15_3 ((rd_T30 t224 x15_3).f0) ((rd_T30 t224 x15_3).f1) 0) = some r := by first | (rw [hy253]; with_reducible exact H) | (have H2_ := (Option.bind_some _ _).symm.trans H; rw [hy253]; with_reducible exact H2_) | (have H2_ := (Option.bind_some _ _).symm.trans H; with_reducible exact H2_) | with_reducible exact H | (rw [hy253]; exact H) | exact H
                           have Ny253 := Aside0.mk hy253
                           clear hy253
                           have H' := Aside0.mk H
                           clear H
                           have p76 := dT (0 ≤ (((rd_T30 t224 x15_3).f0) : Int))
                           have q76 : (((rd_T30 t224 x15_3).f0) : Int) < ((x14_3.length : Int) : Int) := of_decide_eq_true (by first | (with_reducible assumption) | assumption)
                           obtain ⟨go76, co76, eo76, gb76, gl76, cl76, HG76⟩ := Kd.R_form HO_14.out (by omega)
                           (first | cases eo76 | (injection eo76 with ea_ en_ ec_; (first | subst ea_ | (injection ea_ with ea_; subst ea_)); subst ec_; clear en_))
                           have GB76 := Aside0.mk gb76
                           have GG76 := Aside0.mk HG76
                           clear gb76 gl76 HG76
                           obtain ⟨hx76_0, hf76_0⟩ := Kd.R_celln false HO_14.out (((rd_T30 t224 x15_3).f0) : Int) p76 q76
                           replace p76 := eq_true p76
                           replace q76 := eq_true q76
                           have HP80 := Kd.R_putg HO_14.out (((rd_T30 t224 x15_3).f0) : Int) true
                           go_wp2_with (first | ((with_reducible refine gate_store (t := 4) (p := 186) rfl ?_); (try (rw [drewN_self wc]; generalize hq_ : World.drewN wc _ = wc; have n0_ := Aside0.mk (Kd.R_at hq_ HO_11.out); have n1_ := Aside0.mk (Kd.R_at hq_ HO_12.out); have n2_ := Aside0.mk (Kd.R_at hq_ HO_14.out); have n3_ := Aside0.mk (below_at hq_ HB.out); clear hq_ HO_11 HO_12 HO_14 HB; have HO_11 := n0_; have HO_12 := n1_; have HO_14 := n2_; have HB := n3_; clear n0_ n1_ n2_ n3_; (try (have HP80 := Kd.R_putg HO_14.out (((rd_T30 t224 x15_3).f0) : Int) true)))); refine store_event (t := 4) (p := 186) (v := ?vo_w81) (w1 := (wc.setCell ⟨go76, (((rd_T30 t224 x15_3).f0) : Int).toNat, none⟩ (.bool true))) ?hg ?ho ?hn ?hr ?_; (case ho => rfl); (case hg => rfl); (case hn => rfl); (case hr => first | (go_simp; done) | (go_simp; rfl)); intro w81 hw; have hg : wc.grownBy w81 (some go76) := (by rw [hw]; exact HP80.2); have hp_ : Kd.R Kd.bool 4 w81 w.heap.size (fun _ => True) (.slice (some ⟨go76, 0, none⟩) x14_3.length co76) y252 := (by rw [hw, Ny252.out]; exact HP80.1); clear HP80; have n0_ := Aside0.mk (Kd.R_over' (v := (.slice (some ⟨go76, 0, none⟩) x14_3.length co76)) (mvR HO_11) (Kd.R_typed HO_14.out) (by decide) hg); have n1_ := Aside0.mk (Kd.R_over' (v := (.slice (some ⟨go76, 0, none⟩) x14_3.length co76)) (mvR HO_12) (Kd.R_typed HO_14.out) (by decide) hg); have n2_ := Aside0.mk (hp_); have n3_ := Aside0.mk ((by rw [hw]; exact below_set (HB.out) GB76.out : Below w.heap.size w w81)); clear HO_11; clear HO_12; clear HO_14; clear HB; have HO_11 := n0_; have HO_12 := n1_; have HO_14 := n2_; have HB := n3_; clear n0_ n1_ n2_ n3_; clear hg hw hp_; have p79 := dT (0 ≤ (((rd_T30 t224 x15_3).f1) : Int)); have q79 : (((rd_T30 t224 x15_3).f1) : Int) < ((x14_3.length : Int) : Int) := of_decide_eq_true (by first | (with_reducible assumption) | assumption); obtain ⟨hx79_0, hf79_0⟩ := Kd.R_celln false HO_14.out (((rd_T30 t224 x15_3).f1) : Int) p79 q79; replace p79 := eq_true p79; replace q79 := eq_true q79; obtain ⟨hy82_, hz82_⟩ := Kd.R_celln false HO_14.out (((rd_T30 t224 x15_3).f1) : Int) (of_decide_eq_true (by first | (with_reducible assumption) | assumption)) (of_decide_eq_true (by first | (with_reducible assumption) | assumption)); have HP82 := Kd.R_putg HO_14.out (((rd_T30 t224 x15_3).f1) : Int) true) | ((with_reducible refine gate_store (t := 4) (p := 189) rfl ?_); (try (rw [drewN_self w81]; generalize hq_ : World.drewN w81 _ = w81; have n0_ := Aside0.mk (Kd.R_at hq_ HO_11.out); have n1_ := Aside0.mk (Kd.R_at hq_ HO_12.out); have n2_ := Aside0.mk (Kd.R_at hq_ HO_14.out); have n3_ := Aside0.mk (below_at hq_ HB.out); clear hq_ HO_11 HO_12 HO_14 HB; have HO_11 := n0_; have HO_12 := n1_; have HO_14 := n2_; have HB := n3_; clear n0_ n1_ n2_ n3_; (try (obtain ⟨hy82_, hz82_⟩ := Kd.R_celln false HO_14.out (((rd_T30 t224 x15_3).f1) : Int) (of_decide_eq_true (by first | (with_reducible assumption) | assumption)) (of_decide_eq_true (by first | (with_reducible assumption) | assumption)))); (try (have HP82 := Kd.R_putg HO_14.out (((rd_T30 t224 x15_3).f1) : Int) true)))); refine store_event (t := 4) (p := 189) (v := ?vo_w83) (w1 := (w81.setCell ⟨go76, (((rd_T30 t224 x15_3).f1) : Int).toNat, none⟩ (.bool true))) ?hg ?ho ?hn ?hr ?_; (case ho => rfl); (case hg => rfl); (case hn => rfl); (case hr => first | (go_simp; done) | (go_simp; rfl)); intro w83 hw; have hg : w81.grownBy w83 (some go76) := (by rw [hw]; exact HP82.2); have hp_ : Kd.R Kd.bool 4 w83 w.heap.size (fun _ => True) (.slice (some ⟨go76, 0, none⟩) x14_3.length co76) y253 := (by rw [hw, Ny253.out]; exact HP82.1); clear HP82; have n0_ := Aside0.mk (Kd.R_over' (v := (.slice (some ⟨go76, 0, none⟩) x14_3.length co76)) (mvR HO_11) (Kd.R_typed HO_14.out) (by decide) hg); have n1_ := Aside0.mk (Kd.R_over' (v := (.slice (some ⟨go76, 0, none⟩) x14_3.length co76)) (mvR HO_12) (Kd.R_typed HO_14.out) (by decide) hg); have n2_ := Aside0.mk (hp_); have n3_ := Aside0.mk ((by rw [hw]; exact below_set (HB.out) GB76.out : Below w.heap.size w w83)); clear HO_11; clear HO_12; clear HO_14; clear HB; have HO_11 := n0_; have HO_12 := n1_; have HO_14 := n2_; have HB := n3_; clear n0_ n1_ n2_ n3_; clear hg hw hp_))
                           repeat (go_quiet (first | ((with_reducible refine gate_store (t := 4) (p := 186) rfl ?_); (try (rw [drewN_self wc]; generalize hq_ : World.drewN wc _ = wc; have n0_ := Aside0.mk (Kd.R_at hq_ HO_11.out); have n1_ := Aside0.mk (Kd.R_at hq_ HO_12.out); have n2_ := Aside0.mk (Kd.R_at hq_ HO_14.out); have n3_ := Aside0.mk (below_at hq_ HB.out); clear hq_ HO_11 HO_12 HO_14 HB; have HO_11 := n0_; have HO_12 := n1_; have HO_14 := n2_; have HB := n3_; clear n0_ n1_ n2_ n3_; (try (have HP80 := Kd.R_putg HO_14.out (((rd_T30 t224 x15_3).f0) : Int) true)))); refine store_event (t := 4) (p := 186) (v := ?vo_w81) (w1 := (wc.setCell ⟨go76, (((rd_T30 t224 x15_3).f0) : Int).toNat, none⟩ (.bool true))) ?hg ?ho ?hn ?hr ?_; (case ho => rfl); (case hg => rfl); (case hn => rfl); (case hr => first | (go_simp; done) | (go_simp; rfl)); intro w81 hw; have hg : wc.grownBy w81 (some go76) := (by rw [hw]; exact HP80.2); have hp_ : Kd.R Kd.bool 4 w81 w.heap.size (fun _ => True) (.slice (some ⟨go76, 0, none⟩) x14_3.length co76) y252 := (by rw [hw, Ny252.out]; exact HP80.1); clear HP80; have n0_ := Aside0.mk (Kd.R_over' (v := (.slice (some ⟨go76, 0, none⟩) x14_3.length co76)) (mvR HO_11) (Kd.R_typed HO_14.out) (by decide) hg); have n1_ := Aside0.mk (Kd.R_over' (v := (.slice (some ⟨go76, 0, none⟩) x14_3.length co76)) (mvR HO_12) (Kd.R_typed HO_14.out) (by decide) hg); have n2_ := Aside0.mk (hp_); have n3_ := Aside0.mk ((by rw [hw]; exact below_set (HB.out) GB76.out : Below w.heap.size w w81)); clear HO_11; clear HO_12; clear HO_14; clear HB; have HO_11 := n0_; have HO_12 := n1_; have HO_14 := n2_; have HB := n3_; clear n0_ n1_ n2_ n3_; clear hg hw hp_; have p79 := dT (0 ≤ (((rd_T30 t224 x15_3).f1) : Int)); have q79 : (((rd_T30 t224 x15_3).f1) : Int) < ((x14_3.length : Int) : Int) := of_decide_eq_true (by first | (with_reducible assumption) | assumption); obtain ⟨hx79_0, hf79_0⟩ := Kd.R_celln false HO_14.out (((rd_T30 t224 x15_3).f1) : Int) p79 q79; replace p79 := eq_true p79; replace q79 := eq_true q79; obtain ⟨hy82_, hz82_⟩ := Kd.R_celln false HO_14.out (((rd_T30 t224 x15_3).f1) : Int) (of_decide_eq_true (by first | (with_reducible assumption) | assumption)) (of_decide_eq_true (by first | (with_reducible assumption) | assumption)); have HP82 := Kd.R_putg HO_14.out (((rd_T30 t224 x15_3).f1) : Int) true) | ((with_reducible refine gate_store (t := 4) (p := 189) rfl ?_); (try (rw [drewN_self w81]; generalize hq_ : World.drewN w81 _ = w81; have n0_ := Aside0.mk (Kd.R_at hq_ HO_11.out); have n1_ := Aside0.mk (Kd.R_at hq_ HO_12.out); have n2_ := Aside0.mk (Kd.R_at hq_ HO_14.out); have n3_ := Aside0.mk (below_at hq_ HB.out); clear hq_ HO_11 HO_12 HO_14 HB; have HO_11 := n0_; have HO_12 := n1_; have HO_14 := n2_; have HB := n3_; clear n0_ n1_ n2_ n3_; (try (obtain ⟨hy82_, hz82_⟩ := Kd.R_celln false HO_14.out (((rd_T30 t224 x15_3).f1) : Int) (of_decide_eq_true (by first | (with_reducible assumption) | assumption)) (of_decide_eq_true (by first | (with_reducible assumption) | assumption)))); (try (have HP82 := Kd.R_putg HO_14.out (((rd_T30 t224 x15_3).f1) : Int) true)))); refine store_event (t := 4) (p := 189) (v := ?vo_w83) (w1 := (w81.setCell ⟨go76, (((rd_T30 t224 x15_3).f1) : Int).toNat, none⟩ (.bool true))) ?hg ?ho ?hn ?hr ?_; (case ho => rfl); (case hg => rfl); (case hn => rfl); (case hr => first | (go_simp; done) | (go_simp; rfl)); intro w83 hw; have hg : w81.grownBy w83 (some go76) := (by rw [hw]; exact HP82.2); have hp_ : Kd.R Kd.bool 4 w83 w.heap.size (fun _ => True) (.slice (some ⟨go76, 0, none⟩) x14_3.length co76) y253 := (by rw [hw, Ny253.out]; exact HP82.1); clear HP82; have n0_ := Aside0.mk (Kd.R_over' (v := (.slice (some ⟨go76, 0, none⟩) x14_3.length co76)) (mvR HO_11) (Kd.R_typed HO_14.out) (by decide) hg); have n1_ := Aside0.mk (Kd.R_over' (v := (.slice (some ⟨go76, 0, none⟩) x14_3.length co76)) (mvR HO_12) (Kd.R_typed HO_14.out) (by decide) hg); have n2_ := Aside0.mk (hp_); have n3_ := Aside0.mk ((by rw [hw]; exact below_set (HB.out) GB76.out : Below w.heap.size w w83)); clear HO_11; clear HO_12; clear HO_14; clear HB; have HO_11 := n0_; have HO_12 := n1_; have HO_14 := n2_; have HB := n3_; clear n0_ n1_ n2_ n3_; clear hg hw hp_)); try go_wp2_with (first | ((with_reducible refine gate_store (t := 4) (p := 186) rfl ?_); (try (rw [drewN_self wc]; generalize hq_ : World.drewN wc _ = wc; have n0_ := Aside0.mk (Kd.R_at hq_ HO_11.out); have n1_ := Aside0.mk (Kd.R_at hq_ HO_12.out); have n2_ := Aside0.mk (Kd.R_at hq_ HO_14.out); have n3_ := Aside0.mk (below_at hq_ HB.out); clear hq_ HO_11 HO_12 HO_14 HB; have HO_11 := n0_; have HO_12 := n1_; have HO_14 := n2_; have HB := n3_; clear n0_ n1_ n2_ n3_; (try (have HP80 := Kd.R_putg HO_14.out (((rd_T30 t224 x15_3).f0) : Int) true)))); refine store_event (t := 4) (p := 186) (v := ?vo_w81) (w1 := (wc.setCell ⟨go76, (((rd_T30 t224 x15_3).f0) : Int).toNat, none⟩ (.bool true))) ?hg ?ho ?hn ?hr ?_; (case ho => rfl); (case hg => rfl); (case hn => rfl); (case hr => first | (go_simp; done) | (go_simp; rfl)); intro w81 hw; have hg : wc.grownBy w81 (some go76) := (by rw [hw]; exact HP80.2); have hp_ : Kd.R Kd.bool 4 w81 w.heap.size (fun _ => True) (.slice (some ⟨go76, 0, none⟩) x14_3.length co76) y252 := (by rw [hw, Ny252.out]; exact HP80.1); clear HP80; have n0_ := Aside0.mk (Kd.R_over' (v := (.slice (some ⟨go76, 0, none⟩) x14_3.length co76)) (mvR HO_11) (Kd.R_typed HO_14.out) (by decide) hg); have n1_ := Aside0.mk (Kd.R_over' (v := (.slice (some ⟨go76, 0, none⟩) x14_3.length co76)) (mvR HO_12) (Kd.R_typed HO_14.out) (by decide) hg); have n2_ := Aside0.mk (hp_); have n3_ := Aside0.mk ((by rw [hw]; exact below_set (HB.out) GB76.out : Below w.heap.size w w81)); clear HO_11; clear HO_12; clear HO_14; clear HB; have HO_11 := n0_; have HO_12 := n1_; have HO_14 := n2_; have HB := n3_; clear n0_ n1_ n2_ n3_; clear hg hw hp_; have p79 := dT (0 ≤ (((rd_T30 t224 x15_3).f1) : Int)); have q79 : (((rd_T30 t224 x15_3).f1) : Int) < ((x14_3.length : Int) : Int) := of_decide_eq_true (by first | (with_reducible assumption) | assumption); obtain ⟨hx79_0, hf79_0⟩ := Kd.R_celln false HO_14.out (((rd_T30 t224 x15_3).f1) : Int) p79 q79; replace p79 := eq_true p79; replace q79 := eq_true q79; obtain ⟨hy82_, hz82_⟩ := Kd.R_celln false HO_14.out (((rd_T30 t224 x15_3).f1) : Int) (of_decide_eq_true (by first | (with_reducible assumption) | assumption)) (of_decide_eq_true (by first | (with_reducible assumption) | assumption)); have HP82 := Kd.R_putg HO_14.out (((rd_T30 t224 x15_3).f1) : Int) true) | ((with_reducible refine gate_store (t := 4) (p := 189) rfl ?_); (try (rw [drewN_self w81]; generalize hq_ : World.drewN w81 _ = w81; have n0_ := Aside0.mk (Kd.R_at hq_ HO_11.out); have n1_ := Aside0.mk (Kd.R_at hq_ HO_12.out); have n2_ := Aside0.mk (Kd.R_at hq_ HO_14.out); have n3_ := Aside0.mk (below_at hq_ HB.out); clear hq_ HO_11 HO_12 HO_14 HB; have HO_11 := n0_; have HO_12 := n1_; have HO_14 := n2_; have HB := n3_; clear n0_ n1_ n2_ n3_; (try (obtain ⟨hy82_, hz82_⟩ := Kd.R_celln false HO_14.out (((rd_T30 t224 x15_3).f1) : Int) (of_decide_eq_true (by first | (with_reducible assumption) | assumption)) (of_decide_eq_true (by first | (with_reducible assumption) | assumption)))); (try (have HP82 := Kd.R_putg HO_14.out (((rd_T30 t224 x15_3).f1) : Int) true)))); refine store_event (t := 4) (p := 189) (v := ?vo_w83) (w1 := (w81.setCell ⟨go76, (((rd_T30 t224 x15_3).f1) : Int).toNat, none⟩ (.bool true))) ?hg ?ho ?hn ?hr ?_; (case ho => rfl); (case hg => rfl); (case hn => rfl); (case hr => first | (go_simp; done) | (go_simp; rfl)); intro w83 hw; have hg : w81.grownBy w83 (some go76) := (by rw [hw]; exact HP82.2); have hp_ : Kd.R Kd.bool 4 w83 w.heap.size (fun _ => True) (.slice (some ⟨go76, 0, none⟩) x14_3.length co76) y253 := (by rw [hw, Ny253.out]; exact HP82.1); clear HP82; have n0_ := Aside0.mk (Kd.R_over' (v := (.slice (some ⟨go76, 0, none⟩) x14_3.length co76)) (mvR HO_11) (Kd.R_typed HO_14.out) (by decide) hg); have n1_ := Aside0.mk (Kd.R_over' (v := (.slice (some ⟨go76, 0, none⟩) x14_3.length co76)) (mvR HO_12) (Kd.R_typed HO_14.out) (by decide) hg); have n2_ := Aside0.mk (hp_); have n3_ := Aside0.mk ((by rw [hw]; exact below_set (HB.out) GB76.out : Below w.heap.size w w83)); clear HO_11; clear HO_12; clear HO_14; clear HB; have HO_11 := n0_; have HO_12 := n1_; have HO_14 := n2_; have HB := n3_; clear n0_ n1_ n2_ n3_; clear hg hw hp_)))
                           go_loopg [24] kj65 (fun kq v24 w' => ∃ (x24_6 : Int), v24 = .int .i64 x24_6 ∧ Aside0 (selvedgelaw17_PairsNest.l1 kq l0 l1 l2 t224 t227 y253 x15_3 ((rd_T30 t224 x15_3).f0) ((rd_T30 t224 x15_3).f1) x24_6 = some r) ∧ Aside0 (kq ≤ kj65) ∧ Aside0 (Kd.R k30 30 w' w.heap.size (fun _ => True) (.slice (some ad234) t224.length co27) t224) ∧ Aside0 (Kd.R (Kd.int .u8) 33 w' w.heap.size (fun _ => True) v229 t227) ∧ Aside0 (Kd.R Kd.bool 4 w' w.heap.size (fun _ => True) (.slice (some ⟨go76, 0, none⟩) x14_3.length co76) y253) ∧ Aside0 (Below w.heap.size w w'))
                           case atStart => exact ⟨(0), (by first | rfl | (simp; done) | (simp [*]; done)), H', ⟨Nat.le_refl _⟩, ⟨mvR HO_11⟩, ⟨mvR HO_12⟩, ⟨mvR HO_14⟩, ⟨mvB HB⟩⟩
                           case round =>
                            as_aux_lemma =>
                            clear H'
                            try clear c1
                            try clear c2
                            try clear p2
                            try clear q2
                            try clear hx2
                            try clear c3
                            try clear q3
                            try clear c4
                            try clear c5
                            try clear c6
                            try clear c7
                            try clear c7b0
                            try clear c7b1
                            try clear p7
                            try clear q7
                            try clear hx7
                            try clear hf7
                            try clear c8
                            try clear c8b0
                            try clear c8b1
                            try clear c8b2
                            try clear c9
                            try clear c17
                            try clear c17b0
                            try clear c17b1
                            try clear c19
                            try clear c20
                            try clear c20b0
                            try clear c20b1
                            try clear c21
                            try clear c21b0
                            try clear c21b1
                            try clear p23
                            try clear q23
                            try clear hx23
                            try clear c24
                            try clear c24b0
                            try clear p24
                            try clear q24
                            try clear hx24
                            try clear c25
                            try clear c25b0
                            try clear c28
                            try clear c28b0
                            try clear c29
                            try clear c29b0
                            try clear c30
                            try clear c30b0
                            try clear c31
                            try clear c31b0
                            try clear c32
                            try clear c32b0
                            try clear q33
                            try clear c34
                            try clear c36
                            try clear c36b0
                            try clear c37
                            try clear c37b0
                            try clear q38
                            try clear c39
                            try clear c41
                            try clear c41b0
                            try clear c42
                            try clear c42b0
                            try clear c42b1
                            try clear c43
                            try clear c43b0
                            try clear c44
                            try clear c44b0
                            try clear c44b1
                            try clear c45
                            try clear c45b0
                            try clear c46
                            try clear c46b0
                            try clear c47
                            try clear c47b0
                            try clear c47b1
                            try clear c50
                            try clear c50b0
                            try clear c51
                            try clear c51b0
                            try clear c51b1
                            try clear c54
                            try clear c54b0
                            try clear c59
                            try clear c60
                            try clear c60b0
                            try clear c61
                            try clear c61b0
                            try clear c63
                            try clear c63b0
                            try clear c64
                            try clear c64b0
                            try clear c69
                            try clear c70
                            try clear c71
                            try clear c72
                            try clear c73
                            try clear c74
                            try clear c74b0
                            try clear c75
                            try clear c75b0
                            try clear p76
                            try clear q76
                            try clear hx76
                            try clear hf76
                            try clear c77
                            try clear c77b0
                            try clear c78
                            try clear c78b0
                            try clear p79
                            try clear q79
                            try clear hx79
                            try clear hf79
                            try clear hx234_0
                            try clear hx234_1
                            try clear hx235_0
                            try clear hx235_1
                            try clear hx236_0
                            try clear hx237_0
                            try clear hx238_0
                            try clear hx239_0
                            try clear hx240_0
                            try clear hx241_0
                            try clear hx242_0
                            try clear hx243_0
                            try clear hx244_0
                            try clear hx248_0
                            try clear hx76_0
                            try clear hx79_0
                            try clear p2
                            try clear p23
                            try clear p234
                            try clear p235
                            try clear p236
                            try clear p237
                            try clear p238
                            try clear p239
                            try clear p24
                            try clear p240
                            try clear p241
                            try clear p242
                            try clear p243
                            try clear p244
                            try clear p248
                            try clear p76
                            try clear p79
                            try clear q2
                            try clear q23
                            try clear q234
                            try clear q235
                            try clear q236
                            try clear q237
                            try clear q238
                            try clear q239
                            try clear q24
                            try clear q240
                            try clear q241
                            try clear q242
                            try clear q243
                            try clear q244
                            try clear q248
                            try clear q3
                            try clear q33
                            try clear q38
                            try clear q76
                            try clear q79
                            obtain ⟨x24_6, rfl, HA, HK6, HO_11, HO_12, HO_14, HB⟩ := hrel
                            have hl14_6 := (Kd.R_reads' HO_14.out).1
                            rw [hl14_6] at HO_14
                            (try simp only [hl14_6])
                            (try simp only [hl14_6] at HO_11)
                            (try simp only [hl14_6] at HO_12)
                            cases gk with
                            | zero => exact absurd HA.out (by simp [selvedgelaw17_PairsNest.l1])
                            | succ k6 =>
                             have H := HA.out
                             clear HA
                             simp only [selvedgelaw17_PairsNest.l1] at H
                             by_cases c84 : x24_6 < x15_3
                             ·rw [if_pos c84] at H
                              have c84b0 : decide (x24_6 < x15_3) = true := decide_eq_true c84
                              clear c84
                              by_cases c85 : 0 ≤ x24_6
                              ·rw [if_pos c85] at H
                               have c85b0 : decide (0 ≤ x24_6) = true := decide_eq_true c85
                               clear c85
                               by_cases c86 : x24_6 < (t224.length : Int)
                               ·rw [if_pos c86] at H
                                have c86b0 : decide (x24_6 < (t224.length : Int)) = true := decide_eq_true c86
                                clear c86
                                by_cases c87 : ((rd_T30 t224 x24_6).f0) ≥ ((rd_T30 t224 x15_3).f0)
                                ·rw [if_pos c87] at H
                                 have c87b0 : decide (((rd_T30 t224 x15_3).f0) ≤ ((rd_T30 t224 x24_6).f0)) = true := decide_eq_true c87
                                 clear c87
                                 obtain rfl := Option.some.inj H
                                 have p254 := dT (0 ≤ (x24_6 : Int))
                                 have q254 := dT (x24_6 < (t224.length : Int))
                                 obtain ⟨ad254, e254, hx254_0, hx254_1⟩ := at_T30 (Kd.R_reads' HO_11.out).2.2 x24_6 p254 q254
                                 obtain rfl : ad234 = ad254 := (by injection e254)
                                 replace p254 := eq_true p254
                                 replace q254 := eq_true q254
                                 go_wp2
                                 repeat (go_quiet (fail); try go_wp2)
                                 go_ret
                                 exact ⟨by first | rfl | (simp [errW_none, errW_some] <;> rfl) | (simp [*, errW_none, errW_some] <;> rfl), mvB HB⟩
                                ·rw [if_neg c87] at H
                                 have c87b0 : decide (((rd_T30 t224 x15_3).f0) ≤ ((rd_T30 t224 x24_6).f0)) = false := decide_eq_false c87
                                 clear c87
                                 by_cases c88 : ((rd_T30 t224 x24_6).f1) > ((rd_T30 t224 x15_3).f0)
                                 ·rw [if_pos c88] at H
                                  have c88b0 : decide (((rd_T30 t224 x15_3).f0) < ((rd_T30 t224 x24_6).f1)) = true := decide_eq_true c88
                                  clear c88
                                  by_cases c89 : ((rd_T30 t224 x24_6).f1) < ((rd_T30 t224 x15_3).f1)
                                  ·rw [if_pos c89] at H
                                   have c89b0 : decide (((rd_T30 t224 x24_6).f1) < ((rd_T30 t224 x15_3).f1)) = true := decide_eq_true c89
                                   clear c89
                                   obtain rfl := Option.some.inj H
                                   have p254 := dT (0 ≤ (x24_6 : Int))
                                   have q254 := dT (x24_6 < (t224.length : Int))
                                   obtain ⟨ad254, e254, hx254_0, hx254_1⟩ := at_T30 (Kd.R_reads' HO_11.out).2.2 x24_6 p254 q254
                                   obtain rfl : ad234 = ad254 := (by injection e254)
                                   replace p254 := eq_true p254
                                   replace q254 := eq_true q254
                                   have p255 := dT (0 ≤ (x24_6 : Int))
                                   have q255 := dT (x24_6 < (t224.length : Int))
                                   obtain ⟨ad255, e255, hx255_0, hx255_1⟩ := at_T30 (Kd.R_reads' HO_11.out).2.2 x24_6 p255 q255
                                   obtain rfl : ad234 = ad255 := (by injection e255)
                                   replace p255 := eq_true p255
                                   replace q255 := eq_true q255
                                   have p256 := dT (0 ≤ (x24_6 : Int))
                                   have q256 := dT (x24_6 < (t224.length : Int))
                                   obtain ⟨ad256, e256, hx256_0, hx256_1⟩ := at_T30 (Kd.R_reads' HO_11.out).2.2 x24_6 p256 q256
                                   obtain rfl : ad234 = ad256 := (by injection e256)
                                   replace p256 := eq_true p256
                                   replace q256 := eq_true q256
                                   go_wp2
                                   repeat (go_quiet (fail); try go_wp2)
                                   go_ret
                                   exact ⟨by first | rfl | (simp [errW_none, errW_some] <;> rfl) | (simp [*, errW_none, errW_some] <;> rfl), mvB HB⟩
                                  ·rw [if_neg c89] at H
                                   have c89b0 : decide (((rd_T30 t224 x24_6).f1) < ((rd_T30 t224 x15_3).f1)) = false := decide_eq_false c89
                                   clear c89
                                   have H' := Aside0.mk H
                                   clear H
                                   have p254 := dT (0 ≤ (x24_6 : Int))
                                   have q254 := dT (x24_6 < (t224.length : Int))
                                   obtain ⟨ad254, e254, hx254_0, hx254_1⟩ := at_T30 (Kd.R_reads' HO_11.out).2.2 x24_6 p254 q254
                                   obtain rfl : ad234 = ad254 := (by injection e254)
                                   replace p254 := eq_true p254
                                   replace q254 := eq_true q254
                                   have p255 := dT (0 ≤ (x24_6 : Int))
                                   have q255 := dT (x24_6 < (t224.length : Int))
                                   obtain ⟨ad255, e255, hx255_0, hx255_1⟩ := at_T30 (Kd.R_reads' HO_11.out).2.2 x24_6 p255 q255
                                   obtain rfl : ad234 = ad255 := (by injection e255)
                                   replace p255 := eq_true p255
                                   replace q255 := eq_true q255
                                   have p256 := dT (0 ≤ (x24_6 : Int))
                                   have q256 := dT (x24_6 < (t224.length : Int))
                                   obtain ⟨ad256, e256, hx256_0, hx256_1⟩ := at_T30 (Kd.R_reads' HO_11.out).2.2 x24_6 p256 q256
                                   obtain rfl : ad234 = ad256 := (by injection e256)
                                   replace p256 := eq_true p256
                                   replace q256 := eq_true q256
                                   go_wp2
                                   repeat (go_quiet (fail); try go_wp2)
                                   (try simp only [← hl14_6])
                                   go_roundg k6
                                   case measure => have := HJ5.out; have := HJ13.out; have := HK3.out; have := HJ25.out; have := HJ65.out; have := HK6.out; omega
                                   case rel => exact ⟨(wrap64 (x24_6 + 1)), (by first | rfl | (simp; done) | (simp [*]; done)), H', ⟨by have := HJ5.out; have := HJ13.out; have := HK3.out; have := HJ25.out; have := HJ65.out; have := HK6.out; omega⟩, ⟨by (try simp only [hl14_6]); (with_reducible repeat (first | apply Kd.R_alloc | apply Kd.R_drewN | apply Kd.R_drew)); exact HO_11.out⟩, ⟨by (try simp only [hl14_6]); (with_reducible repeat (first | apply Kd.R_alloc | apply Kd.R_drewN | apply Kd.R_drew)); exact HO_12.out⟩, ⟨by (try simp only [hl14_6]); (with_reducible repeat (first | apply Kd.R_alloc | apply Kd.R_drewN | apply Kd.R_drew)); exact HO_14.out⟩, ⟨mvB HB⟩⟩
                                 ·rw [if_neg c88] at H
                                  have c88b0 : decide (((rd_T30 t224 x15_3).f0) < ((rd_T30 t224 x24_6).f1)) = false := decide_eq_false c88
                                  clear c88
                                  have H' := Aside0.mk H
                                  clear H
                                  have p254 := dT (0 ≤ (x24_6 : Int))
                                  have q254 := dT (x24_6 < (t224.length : Int))
                                  obtain ⟨ad254, e254, hx254_0, hx254_1⟩ := at_T30 (Kd.R_reads' HO_11.out).2.2 x24_6 p254 q254
                                  obtain rfl : ad234 = ad254 := (by injection e254)
                                  replace p254 := eq_true p254
                                  replace q254 := eq_true q254
                                  have p255 := dT (0 ≤ (x24_6 : Int))
                                  have q255 := dT (x24_6 < (t224.length : Int))
                                  obtain ⟨ad255, e255, hx255_0, hx255_1⟩ := at_T30 (Kd.R_reads' HO_11.out).2.2 x24_6 p255 q255
                                  obtain rfl : ad234 = ad255 := (by injection e255)
                                  replace p255 := eq_true p255
                                  replace q255 := eq_true q255
                                  go_wp2
                                  repeat (go_quiet (fail); try go_wp2)
                                  (try simp only [← hl14_6])
                                  go_roundg k6
                                  case measure => have := HJ5.out; have := HJ13.out; have := HK3.out; have := HJ25.out; have := HJ65.out; have := HK6.out; omega
                                  case rel => exact ⟨(wrap64 (x24_6 + 1)), (by first | rfl | (simp; done) | (simp [*]; done)), H', ⟨by have := HJ5.out; have := HJ13.out; have := HK3.out; have := HJ25.out; have := HJ65.out; have := HK6.out; omega⟩, ⟨by (try simp only [hl14_6]); (with_reducible repeat (first | apply Kd.R_alloc | apply Kd.R_drewN | apply Kd.R_drew)); exact HO_11.out⟩, ⟨by (try simp only [hl14_6]); (with_reducible repeat (first | apply Kd.R_alloc | apply Kd.R_drewN | apply Kd.R_drew)); exact HO_12.out⟩, ⟨by (try simp only [hl14_6]); (with_reducible repeat (first | apply Kd.R_alloc | apply Kd.R_drewN | apply Kd.R_drew)); exact HO_14.out⟩, ⟨mvB HB⟩⟩
                               ·rw [if_neg c86] at H
                                exact absurd H (by simp)
                              ·rw [if_neg c85] at H
                               exact absurd H (by simp)
                             ·rw [if_neg c84] at H
                              have c84b0 : decide (x24_6 < x15_3) = false := decide_eq_false c84
                              clear c84
                              have H' := Aside0.mk H
                              clear H
                              go_wp2
                              repeat (go_quiet (fail); try go_wp2)
                              (try simp only [← hl14_6])
                              go_roundg k6
                              case measure => have := HJ5.out; have := HJ13.out; have := HK3.out; have := HJ25.out; have := HJ65.out; have := HK6.out; omega
                              case rel => exact ⟨(y253), (wrap64 (x15_3 + 1)), (by first | rfl | (simp; done) | (simp [*]; done)), H', ⟨by have := HJ5.out; have := HJ13.out; have := HK3.out; have := HJ25.out; have := HJ65.out; have := HK6.out; omega⟩, ⟨by (try simp only [hl14_6]); (with_reducible repeat (first | apply Kd.R_alloc | apply Kd.R_drewN | apply Kd.R_drew)); exact HO_11.out⟩, ⟨by (try simp only [hl14_6]); (with_reducible repeat (first | apply Kd.R_alloc | apply Kd.R_drewN | apply Kd.R_drew)); exact HO_12.out⟩, ⟨by (try simp only [hl14_6]); (with_reducible repeat (first | apply Kd.R_alloc | apply Kd.R_drewN | apply Kd.R_drew)); exact HO_14.out⟩, ⟨mvB HB⟩⟩
                          ·rw [if_neg c78] at H
                           exact absurd H (by simp)
                         ·rw [if_neg c77] at H
                          exact absurd H (by simp)
                        ·rw [if_neg c75] at H
                         exact absurd H (by simp)
                       ·rw [if_neg c74] at H
                        exact absurd H (by simp)
                   ·rw [if_neg c64] at H
                    exact absurd H (by simp)
                  ·rw [if_neg c63] at H
                   exact absurd H (by simp)
                 ·rw [if_neg c61] at H
                  exact absurd H (by simp)
                ·rw [if_neg c60] at H
                 exact absurd H (by simp)
            ·rw [if_neg c25] at H
             exact absurd H (by simp)
           ·rw [if_neg c24] at H
            have c24b0 : decide (x15_3 < (t224.length : Int)) = false := decide_eq_false c24
            clear c24
            have H' := Aside0.mk H
            clear H
            obtain ⟨Ao90, co90, eo90⟩ := Kd.R_slice HO_11.out
            subst eo90
            go_wp2
            repeat (go_quiet (fail); try go_wp2)
            go_loopg [25] k3 (fun kq v25 w' => ∃ (x25_4 : Int), v25 = .int .i64 x25_4 ∧ Aside0 (selvedgelaw17_PairsNest.l2 kq l0 l1 l2 t227 x14_3 x25_4 = some r) ∧ Aside0 (kq ≤ k3) ∧ Aside0 (Kd.R (Kd.int .u8) 33 w' w.heap.size (fun _ => True) v229 t227) ∧ Aside0 (Kd.R Kd.bool 4 w' w.heap.size (fun _ => True) v232 x14_3) ∧ Aside0 (Below w.heap.size w w'))
            case atStart => exact ⟨(0), (by first | rfl | (simp; done) | (simp [*]; done)), H', ⟨Nat.le_refl _⟩, ⟨mvR HO_12⟩, ⟨mvR HO_14⟩, ⟨mvB HB⟩⟩
            case round =>
             as_aux_lemma =>
             clear H'
             try clear c1
             try clear c2
             try clear p2
             try clear q2
             try clear hx2
             try clear c3
             try clear q3
             try clear c4
             try clear c5
             try clear c6
             try clear p6
             try clear c7
             try clear c7b0
             try clear c7b1
             try clear p7
             try clear q7
             try clear hx7
             try clear hf7
             try clear c8
             try clear c8b0
             try clear c8b1
             try clear c8b2
             try clear c9
             try clear c17
             try clear c17b0
             try clear c17b1
             try clear c19
             try clear c20
             try clear c20b0
             try clear c20b1
             try clear c21
             try clear c21b0
             try clear c21b1
             try clear p23
             try clear q23
             try clear hx23
             try clear c24
             try clear c24b0
             try clear p24
             try clear q24
             try clear hx24
             try clear c25
             try clear c25b0
             try clear p25
             try clear q25
             try clear hx25
             try clear c28
             try clear c28b0
             try clear c29
             try clear c29b0
             try clear c30
             try clear c30b0
             try clear c31
             try clear c31b0
             try clear c32
             try clear c32b0
             try clear q33
             try clear c34
             try clear c36
             try clear c36b0
             try clear c37
             try clear c37b0
             try clear q38
             try clear c39
             try clear c41
             try clear c41b0
             try clear c42
             try clear c42b0
             try clear c42b1
             try clear c43
             try clear c43b0
             try clear c44
             try clear c44b0
             try clear c44b1
             try clear c45
             try clear c45b0
             try clear c46
             try clear c46b0
             try clear c47
             try clear c47b0
             try clear c47b1
             try clear c50
             try clear c50b0
             try clear c51
             try clear c51b0
             try clear c51b1
             try clear c54
             try clear c54b0
             try clear c59
             try clear c60
             try clear c60b0
             try clear c61
             try clear c61b0
             try clear c63
             try clear c63b0
             try clear c64
             try clear c64b0
             try clear p64
             try clear c69
             try clear c70
             try clear c71
             try clear c72
             try clear c73
             try clear c74
             try clear c74b0
             try clear c75
             try clear c75b0
             try clear p76
             try clear q76
             try clear hx76
             try clear hf76
             try clear c77
             try clear c77b0
             try clear c78
             try clear c78b0
             try clear p79
             try clear q79
             try clear hx79
             try clear hf79
             try clear c84
             try clear c84b0
             try clear c85
             try clear c85b0
             try clear c86
             try clear c86b0
             try clear c87
             try clear c87b0
             try clear c88
             try clear c88b0
             try clear c89
             try clear c89b0
             try clear hx234_0
             try clear hx234_1
             try clear hx235_0
             try clear hx235_1
             try clear hx236_0
             try clear hx237_0
             try clear hx238_0
             try clear hx239_0
             try clear hx240_0
             try clear hx241_0
             try clear hx242_0
             try clear hx243_0
             try clear hx244_0
             try clear hx248_0
             try clear hx254_0
             try clear hx254_1
             try clear hx255_0
             try clear hx255_1
             try clear hx256_0
             try clear hx256_1
             try clear hx76_0
             try clear hx79_0
             try clear p2
             try clear p23
             try clear p234
             try clear p235
             try clear p236
             try clear p237
             try clear p238
             try clear p239
             try clear p24
             try clear p240
             try clear p241
             try clear p242
             try clear p243
             try clear p244
             try clear p248
             try clear p254
             try clear p255
             try clear p256
             try clear p7
             try clear p76
             try clear p79
             try clear q2
             try clear q23
             try clear q234
             try clear q235
             try clear q236
             try clear q237
             try clear q238
             try clear q239
             try clear q24
             try clear q240
             try clear q241
             try clear q242
             try clear q243
             try clear q244
             try clear q248
             try clear q254
             try clear q255
             try clear q256
             try clear q3
             try clear q33
             try clear q38
             try clear q7
             try clear q76
             try clear q79
             obtain ⟨x25_4, rfl, HA, HK4, HO_12, HO_14, HB⟩ := hrel
             cases gk with
             | zero => exact absurd HA.out (by simp [selvedgelaw17_PairsNest.l2])
             | succ k4 =>
              have H := HA.out
              clear HA
              simp only [selvedgelaw17_PairsNest.l2] at H
              by_cases c91 : x25_4 < (l0.length : Int)
              ·rw [if_pos c91] at H
               have c91b0 : decide (x25_4 < (l0.length : Int)) = true := decide_eq_true c91
               clear c91
               by_cases c92 : 0 ≤ x25_4
               ·rw [if_pos c92] at H
                have c92b0 : decide (0 ≤ x25_4) = true := decide_eq_true c92
                clear c92
                by_cases c93 : x25_4 < (t227.length : Int)
                ·rw [if_pos c93] at H
                 have c93b0 : decide (x25_4 < (t227.length : Int)) = true := decide_eq_true c93
                 clear c93
                 by_cases c94 : x25_4 < (l2.length : Int)
                 ·rw [if_pos c94] at H
                  have c94b0 : decide (x25_4 < (l2.length : Int)) = true := decide_eq_true c94
                  clear c94
                  by_cases c95 : (rd t227 x25_4) = (rd l2 x25_4)
                  ·rw [if_pos c95] at H
                   have c95b0 : ((rd t227 x25_4) == (rd l2 x25_4)) = true := beq_iff_eq.mpr c95
                   have c95b1 : ((rd t227 x25_4) != (rd l2 x25_4)) = false := bne_eq_false_iff_eq.mpr c95
                   clear c95
                   have H' := Aside0.mk H
                   clear H
                   obtain ⟨Ao96, co96, eo96⟩ := Kd.R_slice HO_12.out
                   subst eo96
                   obtain ⟨ad257, e257, hx257_0, p257, q257⟩ := atI (Kd.R_reads' HO_12.out).2.2 x25_4
                   cases e257
                   obtain ⟨ad258, e258, hx258_0, p258, q258⟩ := atI HR2.out x25_4
                   cases e258
                   replace hx258_0 := (HB.out.cell (World.block_lt_of_cell? w _ hx258_0)).trans hx258_0
                   obtain ⟨ad259, e259, hx259_0, p259, q259⟩ := atI (Kd.R_reads' HO_12.out).2.2 x25_4
                   obtain rfl : ad257 = ad259 := (by injection e259)
                   obtain ⟨ad260, e260, hx260_0, p260, q260⟩ := atI HR2.out x25_4
                   obtain rfl : ad258 = ad260 := (by injection e260)
                   replace hx260_0 := (HB.out.cell (World.block_lt_of_cell? w _ hx260_0)).trans hx260_0
                   go_wp2
                   repeat (go_quiet (fail); try go_wp2)
                   go_roundg k4
                   case measure => have := HJ5.out; have := HJ13.out; have := HK3.out; have := HK4.out; omega
                   case rel => exact ⟨(wrap64 (x25_4 + 1)), (by first | rfl | (simp; done) | (simp [*]; done)), H', ⟨by have := HJ5.out; have := HJ13.out; have := HK3.out; have := HK4.out; omega⟩, ⟨mvR HO_12⟩, ⟨mvR HO_14⟩, ⟨mvB HB⟩⟩
                  ·rw [if_neg c95] at H
                   have c95b0 : ((rd t227 x25_4) == (rd l2 x25_4)) = false := beq_eq_false_iff_ne.mpr c95
                   have c95b1 : ((rd t227 x25_4) != (rd l2 x25_4)) = true := bne_iff_ne.mpr c95
                   by_cases c97 : x25_4 < (x14_3.length : Int)
                   ·rw [if_pos c97] at H
                    have c97b0 : decide (x25_4 < (x14_3.length : Int)) = true := decide_eq_true c97
                    clear c97
                    obtain ⟨bq98, hbq98⟩ : ∃ b_ : Bool, b_ = (rdOf false x14_3 x25_4) := ⟨_, rfl⟩
                    replace H : (if bq98 = true then (if (rd t227 x25_4) = 1 then (selvedgelaw17_PairsNest.l2 k4 l0 l1 l2 t227 x14_3 (wrap64 (x25_4 + 1))) else (if (rd t227 x25_4) = 2 then (selvedgelaw17_PairsNest.l2 k4 l0 l1 l2 t227 x14_3 (wrap64 (x25_4 + 1))) else (some false))) else (if x25_4 < (l1.length : Int) then (if (rd l1 x25_4) = 9 then (if (rd t227 x25_4) = 1 then (selvedgelaw17_PairsNest.l2 k4 l0 l1 l2 t227 x14_3 (wrap64 (x25_4 + 1))) else (if (rd t227 x25_4) = 2 then (selvedgelaw17_PairsNest.l2 k4 l0 l1 l2 t227 x14_3 (wrap64 (x25_4 + 1))) else (some false))) else (some false)) else (none))) = some r := by rw [← hbq98] at H; exact H
                    have Nbq98 := Aside0.mk hbq98
                    clear hbq98
                    by_cases c99 : bq98 = true
                    ·subst c99
                     have H1 : (if (rd t227 x25_4) = 1 then (selvedgelaw17_PairsNest.l2 k4 l0 l1 l2 t227 x14_3 (wrap64 (x25_4 + 1))) else (if (rd t227 x25_4) = 2 then (selvedgelaw17_PairsNest.l2 k4 l0 l1 l2 t227 x14_3 (wrap64 (x25_4 + 1))) else (some false))) = some r := by rw [if_pos rfl] at H; exact H
                     clear H
                     have H := H1
                     clear H1
                     by_cases c100 : (rd t227 x25_4) = 1
                     ·rw [if_pos c100] at H
                      have c100b0 : ((rd t227 x25_4) == 1) = true := beq_iff_eq.mpr c100
                      have c100b1 : ((rd t227 x25_4) != 1) = false := bne_eq_false_iff_eq.mpr c100
                      clear c100
                      have H' := Aside0.mk H
                      clear H
                      obtain ⟨Ao101, co101, eo101⟩ := Kd.R_slice HO_12.out
                      subst eo101
                      obtain ⟨ad257, e257, hx257_0, p257, q257⟩ := atI (Kd.R_reads' HO_12.out).2.2 x25_4
                      cases e257
                      obtain ⟨ad258, e258, hx258_0, p258, q258⟩ := atI HR2.out x25_4
                      cases e258
                      replace hx258_0 := (HB.out.cell (World.block_lt_of_cell? w _ hx258_0)).trans hx258_0
                      obtain ⟨Ao102, co102, eo102⟩ := Kd.R_slice HO_14.out
                      subst eo102
                      have p261 := dT (0 ≤ (x25_4 : Int))
                      have q261 := dT (x25_4 < (x14_3.length : Int))
                      obtain ⟨ad261, e261, hx261_0⟩ := Kd.at_bool (Kd.R_reads' HO_14.out).2.2 x25_4 p261 q261
                      (try rw [← Nbq98.out] at hx261_0)
                      cases e261
                      replace p261 := eq_true p261
                      replace q261 := eq_true q261
                      obtain ⟨ad262, e262, hx262_0, p262, q262⟩ := atI (Kd.R_reads' HO_12.out).2.2 x25_4
                      obtain rfl : ad257 = ad262 := (by injection e262)
                      obtain ⟨ad263, e263, hx263_0, p263, q263⟩ := atI HR2.out x25_4
                      obtain rfl : ad258 = ad263 := (by injection e263)
                      replace hx263_0 := (HB.out.cell (World.block_lt_of_cell? w _ hx263_0)).trans hx263_0
                      obtain ⟨ad264, e264, hx264_0, p264, q264⟩ := atI (Kd.R_reads' HO_12.out).2.2 x25_4
                      obtain rfl : ad257 = ad264 := (by injection e264)
                      go_wp2
                      repeat (go_quiet (fail); try go_wp2)
                      go_roundg k4
                      case measure => have := HJ5.out; have := HJ13.out; have := HK3.out; have := HK4.out; omega
                      case rel => exact ⟨(wrap64 (x25_4 + 1)), (by first | rfl | (simp; done) | (simp [*]; done)), H', ⟨by have := HJ5.out; have := HJ13.out; have := HK3.out; have := HK4.out; omega⟩, ⟨mvR HO_12⟩, ⟨mvR HO_14⟩, ⟨mvB HB⟩⟩
                     ·rw [if_neg c100] at H
                      have c100b0 : ((rd t227 x25_4) == 1) = false := beq_eq_false_iff_ne.mpr c100
                      have c100b1 : ((rd t227 x25_4) != 1) = true := bne_iff_ne.mpr c100
                      by_cases c103 : (rd t227 x25_4) = 2
                      ·rw [if_pos c103] at H
                       have c103b0 : ((rd t227 x25_4) == 2) = true := beq_iff_eq.mpr c103
                       have c103b1 : ((rd t227 x25_4) != 2) = false := bne_eq_false_iff_eq.mpr c103
                       clear c103
                       have H' := Aside0.mk H
                       clear H
                       obtain ⟨Ao104, co104, eo104⟩ := Kd.R_slice HO_12.out
                       subst eo104
                       obtain ⟨ad257, e257, hx257_0, p257, q257⟩ := atI (Kd.R_reads' HO_12.out).2.2 x25_4
                       cases e257
                       obtain ⟨ad258, e258, hx258_0, p258, q258⟩ := atI HR2.out x25_4
                       cases e258
                       replace hx258_0 := (HB.out.cell (World.block_lt_of_cell? w _ hx258_0)).trans hx258_0
                       obtain ⟨Ao105, co105, eo105⟩ := Kd.R_slice HO_14.out
                       subst eo105
                       have p261 := dT (0 ≤ (x25_4 : Int))
                       have q261 := dT (x25_4 < (x14_3.length : Int))
                       obtain ⟨ad261, e261, hx261_0⟩ := Kd.at_bool (Kd.R_reads' HO_14.out).2.2 x25_4 p261 q261
                       (try rw [← Nbq98.out] at hx261_0)
                       cases e261
                       replace p261 := eq_true p261
                       replace q261 := eq_true q261
                       obtain ⟨ad262, e262, hx262_0, p262, q262⟩ := atI (Kd.R_reads' HO_12.out).2.2 x25_4
                       obtain rfl : ad257 = ad262 := (by injection e262)
                       obtain ⟨ad263, e263, hx263_0, p263, q263⟩ := atI HR2.out x25_4
                       obtain rfl : ad258 = ad263 := (by injection e263)
                       replace hx263_0 := (HB.out.cell (World.block_lt_of_cell? w _ hx263_0)).trans hx263_0
                       obtain ⟨ad264, e264, hx264_0, p264, q264⟩ := atI (Kd.R_reads' HO_12.out).2.2 x25_4
                       obtain rfl : ad257 = ad264 := (by injection e264)
                       obtain ⟨ad265, e265, hx265_0, p265, q265⟩ := atI (Kd.R_reads' HO_12.out).2.2 x25_4
                       obtain rfl : ad257 = ad265 := (by injection e265)
                       go_wp2
                       repeat (go_quiet (fail); try go_wp2)
                       go_roundg k4
                       case measure => have := HJ5.out; have := HJ13.out; have := HK3.out; have := HK4.out; omega
                       case rel => exact ⟨(wrap64 (x25_4 + 1)), (by first | rfl | (simp; done) | (simp [*]; done)), H', ⟨by have := HJ5.out; have := HJ13.out; have := HK3.out; have := HK4.out; omega⟩, ⟨mvR HO_12⟩, ⟨mvR HO_14⟩, ⟨mvB HB⟩⟩
                      ·rw [if_neg c103] at H
                       have c103b0 : ((rd t227 x25_4) == 2) = false := beq_eq_false_iff_ne.mpr c103
                       have c103b1 : ((rd t227 x25_4) != 2) = true := bne_iff_ne.mpr c103
                       obtain rfl := Option.some.inj H
                       obtain ⟨Ao106, co106, eo106⟩ := Kd.R_slice HO_12.out
                       subst eo106
                       obtain ⟨ad257, e257, hx257_0, p257, q257⟩ := atI (Kd.R_reads' HO_12.out).2.2 x25_4
                       cases e257
                       obtain ⟨ad258, e258, hx258_0, p258, q258⟩ := atI HR2.out x25_4
                       cases e258
                       replace hx258_0 := (HB.out.cell (World.block_lt_of_cell? w _ hx258_0)).trans hx258_0
                       obtain ⟨Ao107, co107, eo107⟩ := Kd.R_slice HO_14.out
                       subst eo107
                       have p261 := dT (0 ≤ (x25_4 : Int))
                       have q261 := dT (x25_4 < (x14_3.length : Int))
                       obtain ⟨ad261, e261, hx261_0⟩ := Kd.at_bool (Kd.R_reads' HO_14.out).2.2 x25_4 p261 q261
                       (try rw [← Nbq98.out] at hx261_0)
                       cases e261
                       replace p261 := eq_true p261
                       replace q261 := eq_true q261
                       obtain ⟨ad262, e262, hx262_0, p262, q262⟩ := atI (Kd.R_reads' HO_12.out).2.2 x25_4
                       obtain rfl : ad257 = ad262 := (by injection e262)
                       obtain ⟨ad263, e263, hx263_0, p263, q263⟩ := atI HR2.out x25_4
                       obtain rfl : ad258 = ad263 := (by injection e263)
                       replace hx263_0 := (HB.out.cell (World.block_lt_of_cell? w _ hx263_0)).trans hx263_0
                       obtain ⟨ad264, e264, hx264_0, p264, q264⟩ := atI (Kd.R_reads' HO_12.out).2.2 x25_4
                       obtain rfl : ad257 = ad264 := (by injection e264)
                       obtain ⟨ad265, e265, hx265_0, p265, q265⟩ := atI (Kd.R_reads' HO_12.out).2.2 x25_4
                       obtain rfl : ad257 = ad265 := (by injection e265)
                       go_wp2
                       repeat (go_quiet (fail); try go_wp2)
                       go_ret
                       exact ⟨by first | rfl | (simp [errW_none, errW_some] <;> rfl) | (simp [*, errW_none, errW_some] <;> rfl), mvB HB⟩
                    ·replace c99 := Bool.eq_false_iff.mpr c99
                     subst c99
                     have H1 : (if x25_4 < (l1.length : Int) then (if (rd l1 x25_4) = 9 then (if (rd t227 x25_4) = 1 then (selvedgelaw17_PairsNest.l2 k4 l0 l1 l2 t227 x14_3 (wrap64 (x25_4 + 1))) else (if (rd t227 x25_4) = 2 then (selvedgelaw17_PairsNest.l2 k4 l0 l1 l2 t227 x14_3 (wrap64 (x25_4 + 1))) else (some false))) else (some false)) else (none)) = some r := by rw [if_neg (show ¬ (false = true) by decide)] at H; exact H
                     clear H
                     have H := H1
                     clear H1
                     by_cases c108 : x25_4 < (l1.length : Int)
                     ·rw [if_pos c108] at H
                      have c108b0 : decide (x25_4 < (l1.length : Int)) = true := decide_eq_true c108
                      clear c108
                      by_cases c109 : (rd l1 x25_4) = 9
                      ·rw [if_pos c109] at H
                       have c109b0 : ((rd l1 x25_4) == 9) = true := beq_iff_eq.mpr c109
                       have c109b1 : ((rd l1 x25_4) != 9) = false := bne_eq_false_iff_eq.mpr c109
                       clear c109
                       by_cases c110 : (rd t227 x25_4) = 1
                       ·rw [if_pos c110] at H
                        have c110b0 : ((rd t227 x25_4) == 1) = true := beq_iff_eq.mpr c110
                        have c110b1 : ((rd t227 x25_4) != 1) = false := bne_eq_false_iff_eq.mpr c110
                        clear c110
                        have H' := Aside0.mk H
                        clear H
                        obtain ⟨Ao111, co111, eo111⟩ := Kd.R_slice HO_12.out
                        subst eo111
                        obtain ⟨ad257, e257, hx257_0, p257, q257⟩ := atI (Kd.R_reads' HO_12.out).2.2 x25_4
                        cases e257
                        obtain ⟨ad258, e258, hx258_0, p258, q258⟩ := atI HR2.out x25_4
                        cases e258
                        replace hx258_0 := (HB.out.cell (World.block_lt_of_cell? w _ hx258_0)).trans hx258_0
                        obtain ⟨Ao112, co112, eo112⟩ := Kd.R_slice HO_14.out
                        subst eo112
                        have p261 := dT (0 ≤ (x25_4 : Int))
                        have q261 := dT (x25_4 < (x14_3.length : Int))
                        obtain ⟨ad261, e261, hx261_0⟩ := Kd.at_bool (Kd.R_reads' HO_14.out).2.2 x25_4 p261 q261
                        (try rw [← Nbq98.out] at hx261_0)
                        cases e261
                        replace p261 := eq_true p261
                        replace q261 := eq_true q261
                        obtain ⟨ad266, e266, hx266_0, p266, q266⟩ := atI HR1.out x25_4
                        cases e266
                        replace hx266_0 := (HB.out.cell (World.block_lt_of_cell? w _ hx266_0)).trans hx266_0
                        obtain ⟨ad267, e267, hx267_0, p267, q267⟩ := atI (Kd.R_reads' HO_12.out).2.2 x25_4
                        obtain rfl : ad257 = ad267 := (by injection e267)
                        obtain ⟨ad268, e268, hx268_0, p268, q268⟩ := atI HR2.out x25_4
                        obtain rfl : ad258 = ad268 := (by injection e268)
                        replace hx268_0 := (HB.out.cell (World.block_lt_of_cell? w _ hx268_0)).trans hx268_0
                        obtain ⟨ad269, e269, hx269_0, p269, q269⟩ := atI (Kd.R_reads' HO_12.out).2.2 x25_4
                        obtain rfl : ad257 = ad269 := (by injection e269)
                        go_wp2
                        repeat (go_quiet (fail); try go_wp2)
                        go_roundg k4
                        case measure => have := HJ5.out; have := HJ13.out; have := HK3.out; have := HK4.out; omega
                        case rel => exact ⟨(wrap64 (x25_4 + 1)), (by first | rfl | (simp; done) | (simp [*]; done)), H', ⟨by have := HJ5.out; have := HJ13.out; have := HK3.out; have := HK4.out; omega⟩, ⟨mvR HO_12⟩, ⟨mvR HO_14⟩, ⟨mvB HB⟩⟩
                       ·rw [if_neg c110] at H
                        have c110b0 : ((rd t227 x25_4) == 1) = false := beq_eq_false_iff_ne.mpr c110
                        have c110b1 : ((rd t227 x25_4) != 1) = true := bne_iff_ne.mpr c110
                        by_cases c113 : (rd t227 x25_4) = 2
                        ·rw [if_pos c113] at H
                         have c113b0 : ((rd t227 x25_4) == 2) = true := beq_iff_eq.mpr c113
                         have c113b1 : ((rd t227 x25_4) != 2) = false := bne_eq_false_iff_eq.mpr c113
                         clear c113
                         have H' := Aside0.mk H
                         clear H
                         obtain ⟨Ao114, co114, eo114⟩ := Kd.R_slice HO_12.out
                         subst eo114
                         obtain ⟨ad257, e257, hx257_0, p257, q257⟩ := atI (Kd.R_reads' HO_12.out).2.2 x25_4
                         cases e257
                         obtain ⟨ad258, e258, hx258_0, p258, q258⟩ := atI HR2.out x25_4
                         cases e258
                         replace hx258_0 := (HB.out.cell (World.block_lt_of_cell? w _ hx258_0)).trans hx258_0
                         obtain ⟨Ao115, co115, eo115⟩ := Kd.R_slice HO_14.out
                         subst eo115
                         have p261 := dT (0 ≤ (x25_4 : Int))
                         have q261 := dT (x25_4 < (x14_3.length : Int))
                         obtain ⟨ad261, e261, hx261_0⟩ := Kd.at_bool (Kd.R_reads' HO_14.out).2.2 x25_4 p261 q261
                         (try rw [← Nbq98.out] at hx261_0)
                         cases e261
                         replace p261 := eq_true p261
                         replace q261 := eq_true q261
                         obtain ⟨ad266, e266, hx266_0, p266, q266⟩ := atI HR1.out x25_4
                         cases e266
                         replace hx266_0 := (HB.out.cell (World.block_lt_of_cell? w _ hx266_0)).trans hx266_0
                         obtain ⟨ad267, e267, hx267_0, p267, q267⟩ := atI (Kd.R_reads' HO_12.out).2.2 x25_4
                         obtain rfl : ad257 = ad267 := (by injection e267)
                         obtain ⟨ad268, e268, hx268_0, p268, q268⟩ := atI HR2.out x25_4
                         obtain rfl : ad258 = ad268 := (by injection e268)
                         replace hx268_0 := (HB.out.cell (World.block_lt_of_cell? w _ hx268_0)).trans hx268_0
                         obtain ⟨ad269, e269, hx269_0, p269, q269⟩ := atI (Kd.R_reads' HO_12.out).2.2 x25_4
                         obtain rfl : ad257 = ad269 := (by injection e269)
                         obtain ⟨ad270, e270, hx270_0, p270, q270⟩ := atI (Kd.R_reads' HO_12.out).2.2 x25_4
                         obtain rfl : ad257 = ad270 := (by injection e270)
                         go_wp2
                         repeat (go_quiet (fail); try go_wp2)
                         go_roundg k4
                         case measure => have := HJ5.out; have := HJ13.out; have := HK3.out; have := HK4.out; omega
                         case rel => exact ⟨(wrap64 (x25_4 + 1)), (by first | rfl | (simp; done) | (simp [*]; done)), H', ⟨by have := HJ5.out; have := HJ13.out; have := HK3.out; have := HK4.out; omega⟩, ⟨mvR HO_12⟩, ⟨mvR HO_14⟩, ⟨mvB HB⟩⟩
                        ·rw [if_neg c113] at H
                         have c113b0 : ((rd t227 x25_4) == 2) = false := beq_eq_false_iff_ne.mpr c113
                         have c113b1 : ((rd t227 x25_4) != 2) = true := bne_iff_ne.mpr c113
                         obtain rfl := Option.some.inj H
                         obtain ⟨Ao116, co116, eo116⟩ := Kd.R_slice HO_12.out
                         subst eo116
                         obtain ⟨ad257, e257, hx257_0, p257, q257⟩ := atI (Kd.R_reads' HO_12.out).2.2 x25_4
                         cases e257
                         obtain ⟨ad258, e258, hx258_0, p258, q258⟩ := atI HR2.out x25_4
                         cases e258
                         replace hx258_0 := (HB.out.cell (World.block_lt_of_cell? w _ hx258_0)).trans hx258_0
                         obtain ⟨Ao117, co117, eo117⟩ := Kd.R_slice HO_14.out
                         subst eo117
                         have p261 := dT (0 ≤ (x25_4 : Int))
                         have q261 := dT (x25_4 < (x14_3.length : Int))
                         obtain ⟨ad261, e261, hx261_0⟩ := Kd.at_bool (Kd.R_reads' HO_14.out).2.2 x25_4 p261 q261
                         (try rw [← Nbq98.out] at hx261_0)
                         cases e261
                         replace p261 := eq_true p261
                         replace q261 := eq_true q261
                         obtain ⟨ad266, e266, hx266_0, p266, q266⟩ := atI HR1.out x25_4
                         cases e266
                         replace hx266_0 := (HB.out.cell (World.block_lt_of_cell? w _ hx266_0)).trans hx266_0
                         obtain ⟨ad267, e267, hx267_0, p267, q267⟩ := atI (Kd.R_reads' HO_12.out).2.2 x25_4
                         obtain rfl : ad257 = ad267 := (by injection e267)
                         obtain ⟨ad268, e268, hx268_0, p268, q268⟩ := atI HR2.out x25_4
                         obtain rfl : ad258 = ad268 := (by injection e268)
                         replace hx268_0 := (HB.out.cell (World.block_lt_of_cell? w _ hx268_0)).trans hx268_0
                         obtain ⟨ad269, e269, hx269_0, p269, q269⟩ := atI (Kd.R_reads' HO_12.out).2.2 x25_4
                         obtain rfl : ad257 = ad269 := (by injection e269)
                         obtain ⟨ad270, e270, hx270_0, p270, q270⟩ := atI (Kd.R_reads' HO_12.out).2.2 x25_4
                         obtain rfl : ad257 = ad270 := (by injection e270)
                         go_wp2
                         repeat (go_quiet (fail); try go_wp2)
                         go_ret
                         exact ⟨by first | rfl | (simp [errW_none, errW_some] <;> rfl) | (simp [*, errW_none, errW_some] <;> rfl), mvB HB⟩
                      ·rw [if_neg c109] at H
                       have c109b0 : ((rd l1 x25_4) == 9) = false := beq_eq_false_iff_ne.mpr c109
                       have c109b1 : ((rd l1 x25_4) != 9) = true := bne_iff_ne.mpr c109
                       obtain rfl := Option.some.inj H
                       obtain ⟨Ao118, co118, eo118⟩ := Kd.R_slice HO_12.out
                       subst eo118
                       obtain ⟨ad257, e257, hx257_0, p257, q257⟩ := atI (Kd.R_reads' HO_12.out).2.2 x25_4
                       cases e257
                       obtain ⟨ad258, e258, hx258_0, p258, q258⟩ := atI HR2.out x25_4
                       cases e258
                       replace hx258_0 := (HB.out.cell (World.block_lt_of_cell? w _ hx258_0)).trans hx258_0
                       obtain ⟨Ao119, co119, eo119⟩ := Kd.R_slice HO_14.out
                       subst eo119
                       have p261 := dT (0 ≤ (x25_4 : Int))
                       have q261 := dT (x25_4 < (x14_3.length : Int))
                       obtain ⟨ad261, e261, hx261_0⟩ := Kd.at_bool (Kd.R_reads' HO_14.out).2.2 x25_4 p261 q261
                       (try rw [← Nbq98.out] at hx261_0)
                       cases e261
                       replace p261 := eq_true p261
                       replace q261 := eq_true q261
                       obtain ⟨ad266, e266, hx266_0, p266, q266⟩ := atI HR1.out x25_4
                       cases e266
                       replace hx266_0 := (HB.out.cell (World.block_lt_of_cell? w _ hx266_0)).trans hx266_0
                       go_wp2
                       repeat (go_quiet (fail); try go_wp2)
                       go_ret
                       exact ⟨by first | rfl | (simp [errW_none, errW_some] <;> rfl) | (simp [*, errW_none, errW_some] <;> rfl), mvB HB⟩
                     ·rw [if_neg c108] at H
                      exact absurd H (by simp)
                   ·rw [if_neg c97] at H
                    exact absurd H (by simp)
                 ·rw [if_neg c94] at H
                  exact absurd H (by simp)
                ·rw [if_neg c93] at H
                 exact absurd H (by simp)
               ·rw [if_neg c92] at H
                exact absurd H (by simp)
              ·rw [if_neg c91] at H
               have c91b0 : decide (x25_4 < (l0.length : Int)) = false := decide_eq_false c91
               clear c91
               replace H := Option.bind_eq_some_iff.mp H
               obtain ⟨t271, A1200, H⟩ := H
               replace H : (some t271) = some r := H
               have A120 := Aside0.mk A1200
               clear A1200
               obtain rfl := Option.some.inj H
               go_wp2_with (first | (go_at_call 8; (with_reducible refine (selvedgelaw17_works.calls k4  t271 _ A120.out (by exact HT.out.below (mvB HB))).mono ?_); rintro e w121 ⟨rfl, hb⟩; have n0_ := Aside0.mk (Kd.R_below (mvR HO_12) hb); have n1_ := Aside0.mk (Kd.R_below (mvR HO_14) hb); have n2_ := Aside0.mk (below_step (mvB HB) hb); clear HO_12; clear HO_14; clear HB; have HO_12 := n0_; have HO_14 := n1_; have HB := n2_; clear n0_ n1_ n2_; (try clear hb); (try clear hb2); (try clear hk); (try clear hi)))
               repeat (go_quiet (first | (go_at_call 8; (with_reducible refine (selvedgelaw17_works.calls k4  t271 _ A120.out (by exact HT.out.below (mvB HB))).mono ?_); rintro e w121 ⟨rfl, hb⟩; have n0_ := Aside0.mk (Kd.R_below (mvR HO_12) hb); have n1_ := Aside0.mk (Kd.R_below (mvR HO_14) hb); have n2_ := Aside0.mk (below_step (mvB HB) hb); clear HO_12; clear HO_14; clear HB; have HO_12 := n0_; have HO_14 := n1_; have HB := n2_; clear n0_ n1_ n2_; (try clear hb); (try clear hb2); (try clear hk); (try clear hi))); try go_wp2_with (first | (go_at_call 8; (with_reducible refine (selvedgelaw17_works.calls k4  t271 _ A120.out (by exact HT.out.below (mvB HB))).mono ?_); rintro e w121 ⟨rfl, hb⟩; have n0_ := Aside0.mk (Kd.R_below (mvR HO_12) hb); have n1_ := Aside0.mk (Kd.R_below (mvR HO_14) hb); have n2_ := Aside0.mk (below_step (mvB HB) hb); clear HO_12; clear HO_14; clear HB; have HO_12 := n0_; have HO_14 := n1_; have HB := n2_; clear n0_ n1_ n2_; (try clear hb); (try clear hb2); (try clear hk); (try clear hi))))
               go_ret
               exact ⟨by first | rfl | (simp [errW_none, errW_some] <;> rfl) | (simp [*, errW_none, errW_some] <;> rfl), mvB HB⟩
        ·rw [if_neg c21] at H
         exact absurd H (by simp)
       ·rw [if_neg c20] at H
        exact absurd H (by simp)

/-- THE ONE PURE STATEMENT of selvedgelaw17_PairsNest: yours. -/
def selvedgelaw17_PairsNest.Pure : Prop := ∀ (l0 : List Int) (l1 : List Int) (l2 : List Int) (a3 : Int) (a4 : Int), l0.length ≤ maxLen → l0.length * 4 ≤ 140737488351232 → (∀ x ∈ l0, (Lit.int .i32 x).wf = true) → l1.length ≤ maxLen → l1.length * 1 ≤ 140737488351232 → (∀ x ∈ l1, (Lit.int .u8 x).wf = true) → l2.length ≤ maxLen → l2.length * 1 ≤ 140737488351232 → (∀ x ∈ l2, (Lit.int .u8 x).wf = true) → (Lit.int .u8 a3).wf = true → (Lit.int .u8 a4).wf = true → ∃ k, selvedgelaw17_PairsNest.f k l0 l1 l2 a3 a4 = some true
theorem selvedgelaw17_PairsNest.walk (P : selvedgelaw17_PairsNest.Pure) (a0 : Option Addr) (len0 cap0 : Nat) (z0 : List Int) (a1 : Option Addr) (len1 cap1 : Nat) (z1 : List Int) (a2 : Option Addr) (len2 cap2 : Nat) (z2 : List Int) (a3 : Int) (a4 : Int) (w : World) (w0 : (a0 = none ∧ len0 = 0 ∧ cap0 = 0 ∧ z0 = []) ∨ ∃ x, a0 = some x ∧ len0 ≤ cap0 ∧ cap0 ≤ maxLen ∧ z0.length = cap0 ∧ (∀ i, i < z0.length → w.cell? (x.add i) = some (.int .i32 (z0.getD i 0))) ∧ ∀ n ∈ z0, (Lit.int .i32 n).wf = true) (y0 : len0 * 4 ≤ 140737488351232) (w1 : (a1 = none ∧ len1 = 0 ∧ cap1 = 0 ∧ z1 = []) ∨ ∃ x, a1 = some x ∧ len1 ≤ cap1 ∧ cap1 ≤ maxLen ∧ z1.length = cap1 ∧ (∀ i, i < z1.length → w.cell? (x.add i) = some (.int .u8 (z1.getD i 0))) ∧ ∀ n ∈ z1, (Lit.int .u8 n).wf = true) (y1 : len1 * 1 ≤ 140737488351232) (w2 : (a2 = none ∧ len2 = 0 ∧ cap2 = 0 ∧ z2 = []) ∨ ∃ x, a2 = some x ∧ len2 ≤ cap2 ∧ cap2 ≤ maxLen ∧ z2.length = cap2 ∧ (∀ i, i < z2.length → w.cell? (x.add i) = some (.int .u8 (z2.getD i 0))) ∧ ∀ n ∈ z2, (Lit.int .u8 n).wf = true) (y2 : len2 * 1 ≤ 140737488351232) (w3 : (Lit.int .u8 a3).wf = true) (w4 : (Lit.int .u8 a4).wf = true) (hT : Tabs w) :
  Calls Tryd.prog 5 #[.slice a0 len0 cap0, .slice a1 len1 cap1, .slice a2 len2 cap2, .int .u8 a3, .int .u8 a4] w fun e w' => e = .returned (.bool true) ∧ Below w.heap.size w w' := by
 obtain ⟨l0, rfl, hr0, hm0, hw0, hc0⟩ := ReadsInt.ofRowC w0
 obtain ⟨l1, rfl, hr1, hm1, hw1, hc1⟩ := ReadsInt.ofRowC w1
 obtain ⟨l2, rfl, hr2, hm2, hw2, hc2⟩ := ReadsInt.ofRowC w2
 obtain ⟨k, h⟩ := P l0 l1 l2 a3 a4 hm0 y0 hw0 hm1 y1 hw1 hm2 y2 hw2 w3 w4
 refine (selvedgelaw17_PairsNest.calls k _ _ l0 _ _ l1 _ _ l2 a3 a4 true w (Kd.C_of_reads (d := (0 : Int)) (h1 := fun _ => rfl) hr0) hc0 (Kd.C_of_reads (d := (0 : Int)) (h1 := fun _ => rfl) hr1) hc1 (Kd.C_of_reads (d := (0 : Int)) (h1 := fun _ => rfl) hr2) hc2 h hT).mono ?_
 rintro e w' ⟨rfl, hd⟩
 exact ⟨rfl, hd⟩

end Go.Proofs.YtiogpnefnapfeaaDoor.X
