-- by xprint.py: the kit's printer over texts of this session
import Derived.Test.YthckihfkhmoafaaX0
import Derived.Test.YthckihfkhmoafaaX2
import Derived.Test.YthckihfkhmoafaaX4
import Derived.Test.YthckihfkhmoafaaX9
import Derived.Test.YthckihfkhmoafaaX10
import Derived.Test.YthckihfkhmoafaaT8
import Derived.Test.YthckihfkhmoafaaT9
namespace Go.Proofs.Ythckihfkhmoafaa.X
open Go.RowKit Go.Proofs.YthckihfkhmoafaaW.PrintWords Go.Proofs.YthckihfkhmoafaaW.PrintLast Go.Proofs.YthckihfkhmoafaaW.PrintMore
attribute [local go_sem] max2_int min2_int max_two min_two max_three min_three max_four min_four   -- for this text's walks alone
set_option linter.unusedVariables false
set_option linter.unusedSimpArgs false

/-! ### selvedgelaw21_BreaksKnown: function 9 -/
mutual
def selvedgelaw21_BreaksKnown.l0 : Nat → List ByteArray → Int → Int → Option (Bool)
 | 0, _, _, _ => none
 | k + 1, x13, x14, x15 => if x15 < x14 then (if 0 ≤ x15 then (if x15 < (x13.length : Int) then (selvedgelaw21_BreaksKnown.l1 k x15 (rdOf ByteArray.empty x13 x15) 1 x13 x14 x15) else (none)) else (none)) else (selvedgelaw21_BreaksKnown.l3 k 0)
def selvedgelaw21_BreaksKnown.l1 : Nat → Int → ByteArray → Int → List ByteArray → Int → Int → Option (Bool)
 | 0, _, _, _, _, _, _ => none
 | k + 1, x1, x2, x3, x13, x14, x15 => if x3 ≤ 90 then ((selvedgelaw21_items.f x2 10).bind fun t319 => (selvedgelaw21_BreaksKnown.l2 k x1 x2 x3 t319 0 x13 x14 x15)) else (selvedgelaw21_BreaksKnown.l0 k x13 x14 (wrap64 (x15 + 1)))
def selvedgelaw21_BreaksKnown.l2 : Nat → Int → ByteArray → Int → List (S36) → Int → List ByteArray → Int → Int → Option (Bool)
 | 0, _, _, _, _, _, _, _, _ => none
 | k + 1, x1, x2, x3, x4, x5, x13, x14, x15 => if x5 < 4 then (if x5 = 1 then (selvedgelaw21_BreaksKnown.j3 k x1 x2 x3 x4 x5 x13 x14 x15 (decide ((x4.length : Int) > 2))) else (selvedgelaw21_BreaksKnown.j3 k x1 x2 x3 x4 x5 x13 x14 x15 false)) else (selvedgelaw21_BreaksKnown.l1 k x1 x2 (wrap64 ((wrap64 (x3 + 1)) + (wrap64 (Int.tdiv x3 12)))) x13 x14 x15)
def selvedgelaw21_BreaksKnown.j3 : Nat → Int → ByteArray → Int → List (S36) → Int → List ByteArray → Int → Int → Bool → Option (Bool)
 | 0, _, _, _, _, _, _, _, _, _ => none
 | k + 1, x1, x2, x3, x4, x5, x13, x14, x15, x39 => if x39 = true then (if 1 < (x4.length : Int) then ((some (x4.set (1 : Int).toNat (⟨(rd_T36 x4 1).f0, (rd_T36 x4 1).f1, 7, (rd_T36 x4 1).f3⟩ : S36) : List (S36))).bind fun y322 => (if 2 < (x4.length : Int) then (selvedgelaw21_BreaksKnown.j4 k x1 x2 x3 (y322.set (2 : Int).toNat (⟨(rd_T36 y322 2).f0, (rd_T36 y322 2).f1, (rd_T36 y322 2).f2, 3⟩ : S36)) x5 x13 x14 x15) else (none))) else (none)) else (selvedgelaw21_BreaksKnown.j4 k x1 x2 x3 x4 x5 x13 x14 x15)
def selvedgelaw21_BreaksKnown.j4 : Nat → Int → ByteArray → Int → List (S36) → Int → List ByteArray → Int → Int → Option (Bool)
 | 0, _, _, _, _, _, _, _, _ => none
 | k + 1, x1, x2, x3, x4, x5, x13, x14, x15 => if x5 = 2 then (selvedgelaw21_BreaksKnown.j5 k x1 x2 x3 x4 x5 x13 x14 x15 (decide ((x4.length : Int) > 2))) else (selvedgelaw21_BreaksKnown.j5 k x1 x2 x3 x4 x5 x13 x14 x15 false)
def selvedgelaw21_BreaksKnown.j5 : Nat → Int → ByteArray → Int → List (S36) → Int → List ByteArray → Int → Int → Bool → Option (Bool)
 | 0, _, _, _, _, _, _, _, _, _ => none
 | k + 1, x1, x2, x3, x4, x5, x13, x14, x15, x52 => if x52 = true then (if 2 < (x4.length : Int) then (selvedgelaw21_BreaksKnown.j6 k x1 x2 x3 (x4.set (2 : Int).toNat (⟨(rd_T36 x4 2).f0, 0, (rd_T36 x4 2).f2, (rd_T36 x4 2).f3⟩ : S36)) x5 x13 x14 x15) else (none)) else (selvedgelaw21_BreaksKnown.j6 k x1 x2 x3 x4 x5 x13 x14 x15)
def selvedgelaw21_BreaksKnown.j6 : Nat → Int → ByteArray → Int → List (S36) → Int → List ByteArray → Int → Int → Option (Bool)
 | 0, _, _, _, _, _, _, _, _ => none
 | k + 1, x1, x2, x3, x4, x5, x13, x14, x15 => if x5 = 3 then (selvedgelaw21_BreaksKnown.j7 k x1 x2 x3 x4 x5 x13 x14 x15 (decide ((x4.length : Int) > 3))) else (selvedgelaw21_BreaksKnown.j7 k x1 x2 x3 x4 x5 x13 x14 x15 false)
def selvedgelaw21_BreaksKnown.j7 : Nat → Int → ByteArray → Int → List (S36) → Int → List ByteArray → Int → Int → Bool → Option (Bool)
 | 0, _, _, _, _, _, _, _, _, _ => none
 | k + 1, x1, x2, x3, x4, x5, x13, x14, x15, x62 => if x62 = true then (if 3 < (x4.length : Int) then (selvedgelaw21_BreaksKnown.j8 k x1 x2 x3 (x4.set (3 : Int).toNat (⟨8297, 0, 0, 0⟩ : S36)) x5 x13 x14 x15) else (none)) else (selvedgelaw21_BreaksKnown.j8 k x1 x2 x3 x4 x5 x13 x14 x15)
def selvedgelaw21_BreaksKnown.j8 : Nat → Int → ByteArray → Int → List (S36) → Int → List ByteArray → Int → Int → Option (Bool)
 | 0, _, _, _, _, _, _, _, _ => none
 | k + 1, x1, x2, x3, x4, x5, x13, x14, x15 => (selvedgelaw21_BreaksLines.f k x4 x3).bind fun t326 => (if t326 = true then ((selvedgelaw21_BreaksFit.f k x4 x3 x1).bind fun t327 => (if t327 = true then (if x5 = 0 then (if x3 < 9 then ((selvedgelaw21_BreaksMeasures.f k x4 (wrap64 (x3 - 3)) (wrap64 ((x4.length : Int) - (wrap64 (Int.tdiv x3 2))))).bind fun t328 => (if t328 = true then (selvedgelaw21_BreaksKnown.l2 k x1 x2 x3 x4 (wrap64 (x5 + 1)) x13 x14 x15) else (some false))) else (selvedgelaw21_BreaksKnown.l2 k x1 x2 x3 x4 (wrap64 (x5 + 1)) x13 x14 x15)) else (selvedgelaw21_BreaksKnown.l2 k x1 x2 x3 x4 (wrap64 (x5 + 1)) x13 x14 x15)) else (some false))) else (some false))
def selvedgelaw21_BreaksKnown.l3 : Nat → Int → Option (Bool)
 | 0, _ => none
 | k + 1, x6 => if x6 < 12 then (if x6 = 0 then (selvedgelaw21_BreaksKnown.j10 k x6 5 97 (-1) 0 0) else (if x6 = 1 then (selvedgelaw21_BreaksKnown.j10 k x6 5 97 4097 0 0) else (if x6 = 2 then (selvedgelaw21_BreaksKnown.j10 k x6 5 97 4096 0 0) else (if x6 = 3 then (selvedgelaw21_BreaksKnown.j10 k x6 5 97 1 (-1) 0) else (if x6 = 4 then (selvedgelaw21_BreaksKnown.j10 k x6 5 97 1 16777217 0) else (if x6 = 5 then (selvedgelaw21_BreaksKnown.j10 k x6 5 97 1 0 (-1)) else (if x6 = 6 then (selvedgelaw21_BreaksKnown.j10 k x6 5 97 1 0 16777217) else (if x6 = 7 then (selvedgelaw21_BreaksKnown.j10 k x6 5 97 1 0 16777216) else (if x6 = 8 then (selvedgelaw21_BreaksKnown.j10 k x6 0 97 1 0 0) else (if x6 = 9 then (selvedgelaw21_BreaksKnown.j10 k x6 16777217 97 1 0 0) else (if x6 = 10 then (selvedgelaw21_BreaksKnown.j10 k x6 16777216 97 1 0 0) else (selvedgelaw21_BreaksKnown.j10 k x6 (-9223372036854775808) 97 1 0 0)))))))))))) else (if 65537 ≤ 8796093022208 then ((some (List.replicate 65537 z36 : List (S36))).bind fun y337 => (if 1 ≤ (y337.length : Int) then ((breaks_Lines.f (y337.drop 1) 1).bind fun bt344 => ((selvedgelaw21_BreaksLines.f k y337 1).bind fun t348 => (if t348 = true then ((selvedgelaw21_BreaksMeasures.f k y337 0 0).bind fun t349 => (if t349 = true then (if bt344.2 = 0 then (if (bt344.1.length : Int) = 1 then ((selvedgelaw21_works.f k).bind fun t350 => (some t350)) else (some false)) else (some false)) else (some false))) else (some false)))) else (none))) else (none))
def selvedgelaw21_BreaksKnown.j10 : Nat → Int → Int → Int → Int → Int → Int → Option (Bool)
 | 0, _, _, _, _, _, _ => none
 | k + 1, x6, x8, x330000, x330001, x330002, x330003 => (some (([(⟨97, 1, 0, 0⟩ : S36), (⟨32, 1, 0, 0⟩ : S36), (⟨x330000, x330001, x330002, x330003⟩ : S36)] : List (S36)) : List (S36))).bind fun y330 => ((selvedgelaw21_BreaksLines.f k y330 x8).bind fun t333 => (if t333 = true then ((selvedgelaw21_BreaksMeasures.f k y330 0 3).bind fun t334 => (if t334 = true then ((selvedgelaw21_BreaksFit.f k y330 x8 1).bind fun t335 => (if t335 = true then ((selvedgelaw21_BreaksMeasures.f k y330 (wrap64 (x6 - 2)) (wrap64 (x6 - 1))).bind fun t336 => (if t336 = true then (selvedgelaw21_BreaksKnown.l3 k (wrap64 (x6 + 1))) else (some false))) else (some false))) else (some false))) else (some false)))
end
def selvedgelaw21_BreaksKnown.f (k : Nat)  : Option (Bool) := (some (([(⟨#[]⟩ : ByteArray), (⟨#[97]⟩ : ByteArray), (⟨#[32]⟩ : ByteArray), (⟨#[97, 98, 32, 99, 100, 32, 101]⟩ : ByteArray), (⟨#[97, 32, 32, 98]⟩ : ByteArray), (⟨#[32, 32, 97, 32, 98, 32, 32]⟩ : ByteArray), (⟨#[97, 226, 128, 139, 98]⟩ : ByteArray), (⟨#[97, 226, 128, 139, 32, 98]⟩ : ByteArray), (⟨#[97, 226, 128, 139, 226, 128, 139, 98]⟩ : ByteArray), (⟨#[97, 226, 128, 168, 98]⟩ : ByteArray), (⟨#[97, 32, 226, 128, 168, 32, 98]⟩ : ByteArray), (⟨#[226, 128, 168, 226, 128, 168]⟩ : ByteArray), (⟨#[97, 9, 98, 226, 129, 167, 32, 99, 226, 129, 169, 32, 100]⟩ : ByteArray), (⟨#[97, 98, 99, 32, 100, 101, 102, 32, 103, 104, 105, 32, 106, 107, 108]⟩ : ByteArray), (⟨#[97, 32, 98, 32, 99, 32, 100, 32, 101, 32, 102, 32, 103, 32, 104]⟩ : ByteArray), (⟨#[226, 128, 168, 97, 32, 98, 226, 128, 168]⟩ : ByteArray), (⟨#[97, 97, 97, 32, 97, 32, 97, 97, 97, 32, 97]⟩ : ByteArray)] : List ByteArray) : List ByteArray)).bind fun y315 => (selvedgelaw21_BreaksKnown.l0 k y315 (y315.length : Int) 0)
set_option maxHeartbeats 8000000 in
set_option maxRecDepth 100000 in
theorem selvedgelaw21_BreaksKnown.calls (k : Nat)  (r : Bool) (w : World) (h : selvedgelaw21_BreaksKnown.f k  = some r) :
  Calls Try.prog 9 #[] w fun e w' => e = .returned (.bool r) ∧ Below w.heap.size w w' := by
 have hu36 := Try.underlying36
 have HB := Aside0.mk (Below.refl w.heap.size w)
 have H : ((some (([(⟨#[]⟩ : ByteArray), (⟨#[97]⟩ : ByteArray), (⟨#[32]⟩ : ByteArray), (⟨#[97, 98, 32, 99, 100, 32, 101]⟩ : ByteArray), (⟨#[97, 32, 32, 98]⟩ : ByteArray), (⟨#[32, 32, 97, 32, 98, 32, 32]⟩ : ByteArray), (⟨#[97, 226, 128, 139, 98]⟩ : ByteArray), (⟨#[97, 226, 128, 139, 32, 98]⟩ : ByteArray), (⟨#[97, 226, 128, 139, 226, 128, 139, 98]⟩ : ByteArray), (⟨#[97, 226, 128, 168, 98]⟩ : ByteArray), (⟨#[97, 32, 226, 128, 168, 32, 98]⟩ : ByteArray), (⟨#[226, 128, 168, 226, 128, 168]⟩ : ByteArray), (⟨#[97, 9, 98, 226, 129, 167, 32, 99, 226, 129, 169, 32, 100]⟩ : ByteArray), (⟨#[97, 98, 99, 32, 100, 101, 102, 32, 103, 104, 105, 32, 106, 107, 108]⟩ : ByteArray), (⟨#[97, 32, 98, 32, 99, 32, 100, 32, 101, 32, 102, 32, 103, 32, 104]⟩ : ByteArray), (⟨#[226, 128, 168, 97, 32, 98, 226, 128, 168]⟩ : ByteArray), (⟨#[97, 97, 97, 32, 97, 32, 97, 97, 97, 32, 97]⟩ : ByteArray)] : List ByteArray) : List ByteArray)).bind fun y315 => (selvedgelaw21_BreaksKnown.l0 k y315 (y315.length : Int) 0)) = some r := h
 clear h
 obtain ⟨y315, hy315⟩ : ∃ y_ : List ByteArray, y_ = (([(⟨#[]⟩ : ByteArray), (⟨#[97]⟩ : ByteArray), (⟨#[32]⟩ : ByteArray), (⟨#[97, 98, 32, 99, 100, 32, 101]⟩ : ByteArray), (⟨#[97, 32, 32, 98]⟩ : ByteArray), (⟨#[32, 32, 97, 32, 98, 32, 32]⟩ : ByteArray), (⟨#[97, 226, 128, 139, 98]⟩ : ByteArray), (⟨#[97, 226, 128, 139, 32, 98]⟩ : ByteArray), (⟨#[97, 226, 128, 139, 226, 128, 139, 98]⟩ : ByteArray), (⟨#[97, 226, 128, 168, 98]⟩ : ByteArray), (⟨#[97, 32, 226, 128, 168, 32, 98]⟩ : ByteArray), (⟨#[226, 128, 168, 226, 128, 168]⟩ : ByteArray), (⟨#[97, 9, 98, 226, 129, 167, 32, 99, 226, 129, 169, 32, 100]⟩ : ByteArray), (⟨#[97, 98, 99, 32, 100, 101, 102, 32, 103, 104, 105, 32, 106, 107, 108]⟩ : ByteArray), (⟨#[97, 32, 98, 32, 99, 32, 100, 32, 101, 32, 102, 32, 103, 32, 104]⟩ : ByteArray), (⟨#[226, 128, 168, 97, 32, 98, 226, 128, 168]⟩ : ByteArray), (⟨#[97, 97, 97, 32, 97, 32, 97, 97, 97, 32, 97]⟩ : ByteArray)] : List ByteArray)) := ⟨_, rfl⟩
 replace H : (selvedgelaw21_BreaksKnown.l0 k y315 (y315.length : Int) 0) = some r := by first | (rw [hy315]; with_reducible exact H) | (have H2_ := (Option.bind_some _ _).symm.trans H; rw [hy315]; with_reducible exact H2_) | (have H2_ := (Option.bind_some _ _).symm.trans H; with_reducible exact H2_) | with_reducible exact H | (rw [hy315]; exact H) | exact H
 have Ny315 := Aside0.mk hy315
 clear hy315
 have H' := Aside0.mk H
 clear H
 go_enter Try.func9, Try.ntmps9
 go_wp2_with (first | ((with_reducible refine gate_dst (N := 13) rfl ?_); (try (refine gate_guard (by rfl) ?_; dsimp only)); refine Kd.R_lit Kd.string _ 9 ?hg (N := 13) ?hd (xs := ([(⟨#[]⟩ : ByteArray), (⟨#[97]⟩ : ByteArray), (⟨#[32]⟩ : ByteArray), (⟨#[97, 98, 32, 99, 100, 32, 101]⟩ : ByteArray), (⟨#[97, 32, 32, 98]⟩ : ByteArray), (⟨#[32, 32, 97, 32, 98, 32, 32]⟩ : ByteArray), (⟨#[97, 226, 128, 139, 98]⟩ : ByteArray), (⟨#[97, 226, 128, 139, 32, 98]⟩ : ByteArray), (⟨#[97, 226, 128, 139, 226, 128, 139, 98]⟩ : ByteArray), (⟨#[97, 226, 128, 168, 98]⟩ : ByteArray), (⟨#[97, 32, 226, 128, 168, 32, 98]⟩ : ByteArray), (⟨#[226, 128, 168, 226, 128, 168]⟩ : ByteArray), (⟨#[97, 9, 98, 226, 129, 167, 32, 99, 226, 129, 169, 32, 100]⟩ : ByteArray), (⟨#[97, 98, 99, 32, 100, 101, 102, 32, 103, 104, 105, 32, 106, 107, 108]⟩ : ByteArray), (⟨#[97, 32, 98, 32, 99, 32, 100, 32, 101, 32, 102, 32, 103, 32, 104]⟩ : ByteArray), (⟨#[226, 128, 168, 97, 32, 98, 226, 128, 168]⟩ : ByteArray), (⟨#[97, 97, 97, 32, 97, 32, 97, 97, 97, 32, 97]⟩ : ByteArray)] : List ByteArray)) (inner := [.string (⟨#[]⟩ : ByteArray), .string (⟨#[97]⟩ : ByteArray), .string (⟨#[32]⟩ : ByteArray), .string (⟨#[97, 98, 32, 99, 100, 32, 101]⟩ : ByteArray), .string (⟨#[97, 32, 32, 98]⟩ : ByteArray), .string (⟨#[32, 32, 97, 32, 98, 32, 32]⟩ : ByteArray), .string (⟨#[97, 226, 128, 139, 98]⟩ : ByteArray), .string (⟨#[97, 226, 128, 139, 32, 98]⟩ : ByteArray), .string (⟨#[97, 226, 128, 139, 226, 128, 139, 98]⟩ : ByteArray), .string (⟨#[97, 226, 128, 168, 98]⟩ : ByteArray), .string (⟨#[97, 32, 226, 128, 168, 32, 98]⟩ : ByteArray), .string (⟨#[226, 128, 168, 226, 128, 168]⟩ : ByteArray), .string (⟨#[97, 9, 98, 226, 129, 167, 32, 99, 226, 129, 169, 32, 100]⟩ : ByteArray), .string (⟨#[97, 98, 99, 32, 100, 101, 102, 32, 103, 104, 105, 32, 106, 107, 108]⟩ : ByteArray), .string (⟨#[97, 32, 98, 32, 99, 32, 100, 32, 101, 32, 102, 32, 103, 32, 104]⟩ : ByteArray), .string (⟨#[226, 128, 168, 97, 32, 98, 226, 128, 168]⟩ : ByteArray), .string (⟨#[97, 97, 97, 32, 97, 32, 97, 97, 97, 32, 97]⟩ : ByteArray)]) (ok := fun _ => True) (okp := fun _ => True) ?hr ?hp (fun _ hk => hk) trivial (Below.refl _ _) (Nat.le_refl _) (by simp) ?_; (case hd => rfl); (case hg => rfl); (case hr => first | (go_simp; done) | (go_simp; rfl)); (case hp => exact (Reps.one (show Kd.M Kd.string _ _ _ (⟨#[]⟩ : ByteArray) [.string (⟨#[]⟩ : ByteArray)] from rfl) (Reps.one (show Kd.M Kd.string _ _ _ (⟨#[97]⟩ : ByteArray) [.string (⟨#[97]⟩ : ByteArray)] from rfl) (Reps.one (show Kd.M Kd.string _ _ _ (⟨#[32]⟩ : ByteArray) [.string (⟨#[32]⟩ : ByteArray)] from rfl) (Reps.one (show Kd.M Kd.string _ _ _ (⟨#[97, 98, 32, 99, 100, 32, 101]⟩ : ByteArray) [.string (⟨#[97, 98, 32, 99, 100, 32, 101]⟩ : ByteArray)] from rfl) (Reps.one (show Kd.M Kd.string _ _ _ (⟨#[97, 32, 32, 98]⟩ : ByteArray) [.string (⟨#[97, 32, 32, 98]⟩ : ByteArray)] from rfl) (Reps.one (show Kd.M Kd.string _ _ _ (⟨#[32, 32, 97, 32, 98, 32, 32]⟩ : ByteArray) [.string (⟨#[32, 32, 97, 32, 98, 32, 32]⟩ : ByteArray)] from rfl) (Reps.one (show Kd.M Kd.string _ _ _ (⟨#[97, 226, 128, 139, 98]⟩ : ByteArray) [.string (⟨#[97, 226, 128, 139, 98]⟩ : ByteArray)] from rfl) (Reps.one (show Kd.M Kd.string _ _ _ (⟨#[97, 226, 128, 139, 32, 98]⟩ : ByteArray) [.string (⟨#[97, 226, 128, 139, 32, 98]⟩ : ByteArray)] from rfl) (Reps.one (show Kd.M Kd.string _ _ _ (⟨#[97, 226, 128, 139, 226, 128, 139, 98]⟩ : ByteArray) [.string (⟨#[97, 226, 128, 139, 226, 128, 139, 98]⟩ : ByteArray)] from rfl) (Reps.one (show Kd.M Kd.string _ _ _ (⟨#[97, 226, 128, 168, 98]⟩ : ByteArray) [.string (⟨#[97, 226, 128, 168, 98]⟩ : ByteArray)] from rfl) (Reps.one (show Kd.M Kd.string _ _ _ (⟨#[97, 32, 226, 128, 168, 32, 98]⟩ : ByteArray) [.string (⟨#[97, 32, 226, 128, 168, 32, 98]⟩ : ByteArray)] from rfl) (Reps.one (show Kd.M Kd.string _ _ _ (⟨#[226, 128, 168, 226, 128, 168]⟩ : ByteArray) [.string (⟨#[226, 128, 168, 226, 128, 168]⟩ : ByteArray)] from rfl) (Reps.one (show Kd.M Kd.string _ _ _ (⟨#[97, 9, 98, 226, 129, 167, 32, 99, 226, 129, 169, 32, 100]⟩ : ByteArray) [.string (⟨#[97, 9, 98, 226, 129, 167, 32, 99, 226, 129, 169, 32, 100]⟩ : ByteArray)] from rfl) (Reps.one (show Kd.M Kd.string _ _ _ (⟨#[97, 98, 99, 32, 100, 101, 102, 32, 103, 104, 105, 32, 106, 107, 108]⟩ : ByteArray) [.string (⟨#[97, 98, 99, 32, 100, 101, 102, 32, 103, 104, 105, 32, 106, 107, 108]⟩ : ByteArray)] from rfl) (Reps.one (show Kd.M Kd.string _ _ _ (⟨#[97, 32, 98, 32, 99, 32, 100, 32, 101, 32, 102, 32, 103, 32, 104]⟩ : ByteArray) [.string (⟨#[97, 32, 98, 32, 99, 32, 100, 32, 101, 32, 102, 32, 103, 32, 104]⟩ : ByteArray)] from rfl) (Reps.one (show Kd.M Kd.string _ _ _ (⟨#[226, 128, 168, 97, 32, 98, 226, 128, 168]⟩ : ByteArray) [.string (⟨#[226, 128, 168, 97, 32, 98, 226, 128, 168]⟩ : ByteArray)] from rfl) (Reps.one (show Kd.M Kd.string _ _ _ (⟨#[97, 97, 97, 32, 97, 32, 97, 97, 97, 32, 97]⟩ : ByteArray) [.string (⟨#[97, 97, 97, 32, 97, 32, 97, 97, 97, 32, 97]⟩ : ByteArray)] from rfl) (Reps.none _ _))))))))))))))))))); intro v316 w1 ho2 hb hg_ hnew_; clear hg_ hnew_; (first | rw [← Ny315.out] at ho2 | (simp only [Int.reduceToNat] at ho2; rw [← Ny315.out] at ho2)); have n0_ := Aside0.mk (Kd.R_lower ho2 (below_size (mvB HB))); have n1_ := Aside0.mk (below_step (mvB HB) hb); clear HB; have HO317 := n0_; have HB := n1_; clear n0_ n1_; clear hb ho2; obtain ⟨Ao3, co3, eo3⟩ := Kd.R_slice HO317.out; subst eo3))
 go_loopg [15] k (fun kq v15 w' => ∃ (x15_1 : Int), v15 = .int .i64 x15_1 ∧ Aside0 (selvedgelaw21_BreaksKnown.l0 kq y315 (y315.length : Int) x15_1 = some r) ∧ Aside0 (kq ≤ k) ∧ Aside0 (Kd.R Kd.string 9 w' w.heap.size (fun _ => True) (.slice Ao3 y315.length co3) y315) ∧ Aside0 (Below w.heap.size w w'))
 case atStart => exact ⟨(0), (by first | rfl | (simp; done) | (simp [*]; done)), H', ⟨Nat.le_refl _⟩, ⟨mvR HO317⟩, ⟨mvB HB⟩⟩
 case round =>
  clear H'
  try clear p2
  obtain ⟨x15_1, rfl, HA, HK1, HO_13, HB⟩ := hrel
  cases gk with
  | zero => exact absurd HA.out (by simp [selvedgelaw21_BreaksKnown.l0])
  | succ k1 =>
   have H := HA.out
   clear HA
   simp only [selvedgelaw21_BreaksKnown.l0] at H
   by_cases c4 : x15_1 < (y315.length : Int)
   ·rw [if_pos c4] at H
    have c4b0 : decide (x15_1 < (y315.length : Int)) = true := decide_eq_true c4
    clear c4
    by_cases c5 : 0 ≤ x15_1
    ·rw [if_pos c5] at H
     have c5b0 : decide (0 ≤ x15_1) = true := decide_eq_true c5
     clear c5
     by_cases c6 : x15_1 < (y315.length : Int)
     ·rw [if_pos c6] at H
      have c6b0 : decide (x15_1 < (y315.length : Int)) = true := decide_eq_true c6
      clear c6
      have H' := Aside0.mk H
      clear H
      have p318 := dT (0 ≤ (x15_1 : Int))
      have q318 := dT (x15_1 < (y315.length : Int))
      obtain ⟨ad318, e318, hx318_0⟩ := Kd.at_string (Kd.R_reads' HO_13.out).2.2 x15_1 p318 q318
      cases e318
      replace p318 := eq_true p318
      replace q318 := eq_true q318
      go_wp2
      go_loopg [3] k1 (fun kq v3 w' => ∃ (x3_2 : Int), v3 = .int .i64 x3_2 ∧ Aside0 (selvedgelaw21_BreaksKnown.l1 kq x15_1 (rdOf ByteArray.empty y315 x15_1) x3_2 y315 (y315.length : Int) x15_1 = some r) ∧ Aside0 (kq ≤ k1) ∧ Aside0 (Kd.R Kd.string 9 w' w.heap.size (fun _ => True) (.slice (some ad318) y315.length co3) y315) ∧ Aside0 (Below w.heap.size w w'))
      case atStart => exact ⟨(1), (by first | rfl | (simp; done) | (simp [*]; done)), H', ⟨Nat.le_refl _⟩, ⟨mvR HO_13⟩, ⟨mvB HB⟩⟩
      case round =>
       clear H'
       try clear p2
       try clear p3
       try clear q3
       try clear hx3
       try clear c4
       try clear c4b0
       try clear c5
       try clear c5b0
       try clear c6
       try clear c6b0
       try clear hx318_0
       try clear p2
       try clear p318
       try clear q318
       obtain ⟨x3_2, rfl, HA, HK2, HO_13, HB⟩ := hrel
       cases gk with
       | zero => exact absurd HA.out (by simp [selvedgelaw21_BreaksKnown.l1])
       | succ k2 =>
        have H := HA.out
        clear HA
        simp only [selvedgelaw21_BreaksKnown.l1] at H
        by_cases c7 : x3_2 ≤ 90
        ·rw [if_pos c7] at H
         have c7b0 : decide (x3_2 ≤ 90) = true := decide_eq_true c7
         clear c7
         replace H := Option.bind_eq_some_iff.mp H
         obtain ⟨t319, A80, H⟩ := H
         replace H : (selvedgelaw21_BreaksKnown.l2 k2 x15_1 (rdOf ByteArray.empty y315 x15_1) x3_2 t319 0 y315 (y315.length : Int) x15_1) = some r := H
         have A8 := Aside0.mk A80
         clear A80
         have H' := Aside0.mk H
         clear H
         go_wp2_with (first | ((with_reducible refine gate_callee (f := 20) rfl ?_); refine goesL_ (some 28) rfl rfl Try.func20 (by kernel_rfl) rfl #[.string (rdOf ByteArray.empty y315 x15_1), .int .i64 10] rfl (by (try simp only [List.map_toArray, List.map_cons, List.map_nil]); first | done | rfl | (simp only [List.length_drop, List.length_take]; rfl)) ?_; (with_reducible refine (selvedgelaw21_items.calls (rdOf ByteArray.empty y315 x15_1) 10 t319 _ A8.out).mono ?_); rintro e w9 ⟨v320, rfl, ho0, hb⟩; refine ⟨_, rfl, ?_⟩; have n0_ := Aside0.mk (Kd.R_below (mvR HO_13) hb); have n1_ := Aside0.mk (Kd.R_lower ho0 (below_size (mvB HB))); have n2_ := Aside0.mk (below_step (mvB HB) hb); clear HO_13; clear HB; have HO_13 := n0_; have HO321 := n1_; have HB := n2_; clear n0_ n1_ n2_; (try clear hb); (try clear hb2); (try clear hk); (try clear hi); (try clear ho0)))
         go_loopg [5] k2 (fun kq v5 w' => ∃ (x4_3 : List (S36)) (x5_3 : Int), v5 = .int .i64 x5_3 ∧ Aside0 (selvedgelaw21_BreaksKnown.l2 kq x15_1 (rdOf ByteArray.empty y315 x15_1) x3_2 x4_3 x5_3 y315 (y315.length : Int) x15_1 = some r) ∧ Aside0 (kq ≤ k2) ∧ Aside0 (Kd.R k36 36 w' w.heap.size (fun _ => True) v320 x4_3) ∧ Aside0 (Kd.R Kd.string 9 w' w.heap.size (fun _ => True) (.slice (some ad318) y315.length co3) y315) ∧ Aside0 (Below w.heap.size w w'))
         case atStart => exact ⟨(t319), (0), (by first | rfl | (simp; done) | (simp [*]; done)), H', ⟨Nat.le_refl _⟩, ⟨mvR HO321⟩, ⟨mvR HO_13⟩, ⟨mvB HB⟩⟩
         case round =>
          clear H'
          try clear c2
          try clear p2
          try clear p3
          try clear q3
          try clear hx3
          try clear c4
          try clear c4b0
          try clear c5
          try clear c5b0
          try clear c6
          try clear c6b0
          try clear c7
          try clear c7b0
          try clear c9
          try clear hx318_0
          try clear p2
          try clear p3
          try clear p318
          try clear q3
          try clear q318
          obtain ⟨x4_3, x5_3, rfl, HA, HK3, HO_4, HO_13, HB⟩ := hrel
          cases gk with
          | zero => exact absurd HA.out (by simp [selvedgelaw21_BreaksKnown.l2])
          | succ k3 =>
           have H := HA.out
           clear HA
           simp only [selvedgelaw21_BreaksKnown.l2] at H
           by_cases c10 : x5_3 < 4
           ·rw [if_pos c10] at H
            have c10b0 : decide (x5_3 < 4) = true := decide_eq_true c10
            clear c10
            have HC11 := Aside0.mk H
            clear H
            go_upto_region 11 with (fail)
            go_cut [39] (fun v39 wc => ∃ (kq : Nat) (x39_10 : Bool), v39 = .bool x39_10 ∧ Aside0 (selvedgelaw21_BreaksKnown.j3 kq x15_1 (rdOf ByteArray.empty y315 x15_1) x3_2 x4_3 x5_3 y315 (y315.length : Int) x15_1 x39_10 = some r) ∧ Aside0 (kq ≤ k3) ∧ Aside0 (Kd.R k36 36 wc w.heap.size (fun _ => True) v320 x4_3) ∧ Aside0 (Kd.R Kd.string 9 wc w.heap.size (fun _ => True) (.slice (some ad318) y315.length co3) y315) ∧ Aside0 (Below w.heap.size w wc))
            case first =>
             have H := HC11.out
             clear HC11
             by_cases c12 : x5_3 = 1
             ·rw [if_pos c12] at H
              have c12b0 : (x5_3 == 1) = true := beq_iff_eq.mpr c12
              have c12b1 : (x5_3 != 1) = false := bne_eq_false_iff_eq.mpr c12
              clear c12
              (first | rw [c12b0] | (simp only [i64_w, i32_w]; rw [c12b0]) | skip)
              have H' := Aside0.mk H
              clear H
              obtain ⟨Ao13, co13, eo13⟩ := Kd.R_slice HO_4.out
              subst eo13
              go_wp2
              go_meet
              case rel => exact ⟨_, (decide ((x4_3.length : Int) > 2)), (by first | rfl | (simp; done) | (simp [*]; done)), H', ⟨by have := HK1.out; have := HK2.out; have := HK3.out; first | omega | exact Nat.le_refl _⟩, ⟨mvR HO_4⟩, ⟨mvR HO_13⟩, ⟨mvB HB⟩⟩
             ·rw [if_neg c12] at H
              have c12b0 : (x5_3 == 1) = false := beq_eq_false_iff_ne.mpr c12
              have c12b1 : (x5_3 != 1) = true := bne_iff_ne.mpr c12
              (first | rw [c12b0] | (simp only [i64_w, i32_w]; rw [c12b0]) | skip)
              have H' := Aside0.mk H
              clear H
              go_wp2
              go_meet
              case rel => exact ⟨_, (false), (by first | rfl | (simp; done) | (simp [*]; done)), H', ⟨by have := HK1.out; have := HK2.out; have := HK3.out; first | omega | exact Nat.le_refl _⟩, ⟨mvR HO_4⟩, ⟨mvR HO_13⟩, ⟨mvB HB⟩⟩
            case rest =>
             clear HC11
             try clear c1
             try clear c2
             try clear p2
             try clear p3
             try clear q3
             try clear hx3
             try clear c4
             try clear c4b0
             try clear c5
             try clear c5b0
             try clear c6
             try clear c6b0
             try clear c7
             try clear c7b0
             try clear c9
             try clear c10
             try clear c10b0
             try clear c12
             try clear c12b0
             try clear c12b1
             try clear hx318_0
             try clear p2
             try clear p3
             try clear p318
             try clear q3
             try clear q318
             obtain ⟨kq, x39_10, rfl, HA, HJ10, HO_4, HO_13, HB⟩ := hcut
             cases kq with
             | zero => exact absurd HA.out (by simp [selvedgelaw21_BreaksKnown.j3])
             | succ kj10 =>
              have H := HA.out
              clear HA
              simp only [selvedgelaw21_BreaksKnown.j3] at H
              have HC14 := Aside0.mk H
              clear H
              go_upto_if 39 with (fail)
              go_cut [] (fun wc => ∃ (kq : Nat) (x4_13 : List (S36)), Aside0 (selvedgelaw21_BreaksKnown.j4 kq x15_1 (rdOf ByteArray.empty y315 x15_1) x3_2 x4_13 x5_3 y315 (y315.length : Int) x15_1 = some r) ∧ Aside0 (kq ≤ kj10) ∧ Aside0 (Kd.R k36 36 wc w.heap.size (fun _ => True) v320 x4_13) ∧ Aside0 (Kd.R Kd.string 9 wc w.heap.size (fun _ => True) (.slice (some ad318) y315.length co3) y315) ∧ Aside0 (Below w.heap.size w wc))
              case first =>
               have H := HC14.out
               clear HC14
               by_cases c15 : x39_10 = true
               ·subst c15
                have H1 : (if 1 < (x4_3.length : Int) then ((some (x4_3.set (1 : Int).toNat (⟨(rd_T36 x4_3 1).f0, (rd_T36 x4_3 1).f1, 7, (rd_T36 x4_3 1).f3⟩ : S36) : List (S36))).bind fun y322 => (if 2 < (x4_3.length : Int) then (selvedgelaw21_BreaksKnown.j4 kj10 x15_1 (rdOf ByteArray.empty y315 x15_1) x3_2 (y322.set (2 : Int).toNat (⟨(rd_T36 y322 2).f0, (rd_T36 y322 2).f1, (rd_T36 y322 2).f2, 3⟩ : S36)) x5_3 y315 (y315.length : Int) x15_1) else (none))) else (none)) = some r := by rw [if_pos rfl] at H; exact H
                clear H
                have H := H1
                clear H1
                by_cases c16 : 1 < (x4_3.length : Int)
                ·rw [if_pos c16] at H
                 have c16b0 : decide (1 < (x4_3.length : Int)) = true := decide_eq_true c16
                 have c16b1 : decide (1 < x4_3.length) = true := decide_eq_true (by omega)
                 clear c16
                 (first | rw [c16b0] | (simp only [i64_w, i32_w]; rw [c16b0]) | skip)
                 obtain ⟨y322, hy322⟩ : ∃ y_ : List (S36), y_ = (x4_3.set (1 : Int).toNat (⟨(rd_T36 x4_3 1).f0, (rd_T36 x4_3 1).f1, 7, (rd_T36 x4_3 1).f3⟩ : S36)) := ⟨_, rfl⟩
                 replace H : (if 2 < (x4_3.length : Int) then (selvedgelaw21_BreaksKnown.j4 kj10 x15_1 (rdOf ByteArray.empty y315 x15_1) x3_2 (y322.set (2 : Int).toNat (⟨(rd_T36 y322 2).f0, (rd_T36 y322 2).f1, (rd_T36 y322 2).f2, 3⟩ : S36)) x5_3 y315 (y315.length : Int) x15_1) else (none)) = some r := by first | (rw [hy322]; with_reducible exact H) | (have H2_ := (Option.bind_some _ _).symm.trans H; rw [hy322]; with_reducible exact H2_) | (have H2_ := (Option.bind_some _ _).symm.trans H; with_reducible exact H2_) | with_reducible exact H | (rw [hy322]; exact H) | exact H
                 have Ny322 := Aside0.mk hy322
                 clear hy322
                 by_cases c18 : 2 < (x4_3.length : Int)
                 ·rw [if_pos c18] at H
                  have c18b0 : decide (2 < (x4_3.length : Int)) = true := decide_eq_true c18
                  have c18b1 : decide (2 < x4_3.length) = true := decide_eq_true (by omega)
                  clear c18
                  obtain ⟨y323, hy323⟩ : ∃ y_ : List (S36), y_ = (y322.set (2 : Int).toNat (⟨(rd_T36 y322 2).f0, (rd_T36 y322 2).f1, (rd_T36 y322 2).f2, 3⟩ : S36)) := ⟨_, rfl⟩
                  replace H : (selvedgelaw21_BreaksKnown.j4 kj10 x15_1 (rdOf ByteArray.empty y315 x15_1) x3_2 y323 x5_3 y315 (y315.length : Int) x15_1) = some r := by first | (rw [hy323]; with_reducible exact H) | (have H2_ := (Option.bind_some _ _).symm.trans H; rw [hy323]; with_reducible exact H2_) | (have H2_ := (Option.bind_some _ _).symm.trans H; with_reducible exact H2_) | with_reducible exact H | (rw [hy323]; exact H) | exact H
                  have Ny323 := Aside0.mk hy323
                  clear hy323
                  have H' := Aside0.mk H
                  clear H
                  have p17 : 0 ≤ (1 : Int) := (by omega)
                  have q17 : (1 : Int) < ((x4_3.length : Int) : Int) := of_decide_eq_true (by first | (with_reducible assumption) | assumption)
                  have qi17 : (1 < x4_3.length) = True := eq_true (by omega)
                  obtain ⟨go17, co17, eo17, gb17, gl17, cl17, HG17⟩ := Kd.R_form HO_4.out (by omega)
                  (first | cases eo17 | (injection eo17 with ea_ en_ ec_; (first | subst ea_ | (injection ea_ with ea_; subst ea_)); subst ec_; clear en_))
                  have GB17 := Aside0.mk gb17
                  have GG17 := Aside0.mk HG17
                  clear gb17 gl17 HG17
                  obtain ⟨ce17, hcl17, hM17, hcc17, hfr17⟩ := Kd.R_elem HO_4.out z36 (1 : Int) p17 q17
                  obtain rfl := k36_openM hM17
                  have hx17_0 : wc.cell? ⟨go17, (1 : Int).toNat * 4, none⟩ = some (.int .i32 ((rd_T36 x4_3 1).f0)) := hcc17 0 _ rfl
                  have hx17_1 : wc.cell? ⟨go17, (1 : Int).toNat * 4 + 1, none⟩ = some (.int .i64 ((rd_T36 x4_3 1).f1)) := hcc17 1 _ rfl
                  have hx17_2 : wc.cell? ⟨go17, (1 : Int).toNat * 4 + 2, none⟩ = some (.int .i64 ((rd_T36 x4_3 1).f2)) := hcc17 2 _ rfl
                  have hx17_3 : wc.cell? ⟨go17, (1 : Int).toNat * 4 + 3, none⟩ = some (.int .i64 ((rd_T36 x4_3 1).f3)) := hcc17 3 _ rfl
                  have hf17_0 : wc.frozen? ⟨go17, (1 : Int).toNat * 4, none⟩ = false := hfr17 0
                  have hf17_1 : wc.frozen? ⟨go17, (1 : Int).toNat * 4 + 1, none⟩ = false := hfr17 1
                  have hf17_2 : wc.frozen? ⟨go17, (1 : Int).toNat * 4 + 2, none⟩ = false := hfr17 2
                  have hf17_3 : wc.frozen? ⟨go17, (1 : Int).toNat * 4 + 3, none⟩ = false := hfr17 3
                  clear hcl17 hcc17 hfr17 hM17
                  (try rw [show ((1 : Int)).toNat = 1 from rfl] at hx17_0)
                  (try simp only [Nat.reduceMul, Nat.zero_mul, Nat.zero_add, Nat.reduceAdd] at hx17_0)
                  (try rw [show ((1 : Int)).toNat = 1 from rfl] at hf17_0)
                  (try simp only [Nat.reduceMul, Nat.zero_mul, Nat.zero_add, Nat.reduceAdd] at hf17_0)
                  (try rw [show ((1 : Int)).toNat = 1 from rfl] at hx17_1)
                  (try simp only [Nat.reduceMul, Nat.zero_mul, Nat.zero_add, Nat.reduceAdd] at hx17_1)
                  (try rw [show ((1 : Int)).toNat = 1 from rfl] at hf17_1)
                  (try simp only [Nat.reduceMul, Nat.zero_mul, Nat.zero_add, Nat.reduceAdd] at hf17_1)
                  (try rw [show ((1 : Int)).toNat = 1 from rfl] at hx17_2)
                  (try simp only [Nat.reduceMul, Nat.zero_mul, Nat.zero_add, Nat.reduceAdd] at hx17_2)
                  (try rw [show ((1 : Int)).toNat = 1 from rfl] at hf17_2)
                  (try simp only [Nat.reduceMul, Nat.zero_mul, Nat.zero_add, Nat.reduceAdd] at hf17_2)
                  (try rw [show ((1 : Int)).toNat = 1 from rfl] at hx17_3)
                  (try simp only [Nat.reduceMul, Nat.zero_mul, Nat.zero_add, Nat.reduceAdd] at hx17_3)
                  (try rw [show ((1 : Int)).toNat = 1 from rfl] at hf17_3)
                  (try simp only [Nat.reduceMul, Nat.zero_mul, Nat.zero_add, Nat.reduceAdd] at hf17_3)
                  replace p17 := eq_true p17
                  replace q17 := eq_true q17
                  have HX20 := Aside0.mk (show Kd.R k36 36 wc w.heap.size (fun _ => True) (.slice (some ⟨go17, 0, none⟩) x4_3.length co17) x4_3 from (mvR HO_4))
                  obtain ⟨ce20, hcl20, hM20, hcc20, hfr20⟩ := Kd.R_elem HX20.out z36 (1 : Int) (by omega) (by have h_ : (1 : Int) < ((x4_3.length : Int) : Int) := of_decide_eq_true (by first | (with_reducible assumption) | assumption); first | exact h_ | (have e_ := (Kd.R_reads' HO_4.out).1; omega) | simpa using h_)
                  obtain rfl := k36_openM hM20
                  have HP20 := Kd.R_seg HX20.out (1 : Int) (by omega) (by have h_ : (1 : Int) < ((x4_3.length : Int) : Int) := of_decide_eq_true (by first | (with_reducible assumption) | assumption); first | exact h_ | (have e_ := (Kd.R_reads' HO_4.out).1; omega) | simpa using h_) (seg := [.int .i64 7]) (j := 2) hcl20 hcc20 (show 3 ≤ 4 from by decide) (x' := (⟨(rd_T36 x4_3 1).f0, (rd_T36 x4_3 1).f1, 7, (rd_T36 x4_3 1).f3⟩ : S36)) (k36_mkM _ _ _ (⟨(rd_T36 x4_3 1).f0, (rd_T36 x4_3 1).f1, 7, (rd_T36 x4_3 1).f3⟩ : S36) ) (fun _ hk => hk)
                  have hx20_2 := hcc20 2 _ rfl
                  (try simp only [show (k36).sz = 4 from rfl, Nat.mul_one, Nat.add_zero] at hx20_2)
                  (try rw [show ((1 : Int)).toNat = 1 from rfl] at hx20_2)
                  (try simp only [Nat.reduceMul, Nat.zero_mul, Nat.zero_add, Nat.reduceAdd] at hx20_2)
                  have hf20_2 := hfr20 2
                  (try simp only [show (k36).sz = 4 from rfl, Nat.mul_one, Nat.add_zero] at hf20_2)
                  (try rw [show ((1 : Int)).toNat = 1 from rfl] at hf20_2)
                  (try simp only [Nat.reduceMul, Nat.zero_mul, Nat.zero_add, Nat.reduceAdd] at hf20_2)
                  clear hcl20 hcc20 hfr20 hM20
                  go_wp2_with (first | ((with_reducible refine gate_store (t := 3) (p := 42) rfl ?_); refine store_event (t := 3) (p := 42) (v := ?vo_w21) (w1 := (wc.setCell ⟨go17, 6, none⟩ (.int .i64 7))) ?hg ?ho ?hn ?hr ?_; (case ho => rfl); (case hg => rfl); (case hn => rfl); (case hr => first | (go_simp; done) | (go_simp; rfl)); intro w21 hw; have hg : wc.grownBy w21 (some go17) := (by rw [hw]; exact HP20.2); have hp_ : Kd.R k36 36 w21 w.heap.size (fun _ => True) (.slice (some ⟨go17, 0, none⟩) x4_3.length co17) y322 := (by rw [hw, Ny322.out]; exact HP20.1); clear HP20; have n0_ := Aside0.mk (hp_); have n1_ := Aside0.mk (Kd.R_over' (v := (.slice (some ⟨go17, 0, none⟩) x4_3.length co17)) (mvR HO_13) (Kd.R_typed HO_4.out) (by decide) hg); have n2_ := Aside0.mk ((by rw [hw]; exact below_set (HB.out) GB17.out : Below w.heap.size w w21)); clear HO_4; clear HO_13; clear HB; have HO_4 := n0_; have HO_13 := n1_; have HB := n2_; clear n0_ n1_ n2_; clear hg hw hp_; have p19 : 0 ≤ (2 : Int) := (by omega); have q19 : (2 : Int) < ((x4_3.length : Int) : Int) := of_decide_eq_true (by first | (with_reducible assumption) | assumption); have qi19 : (2 < x4_3.length) = True := eq_true (by omega); obtain ⟨ce19, hcl19, hM19, hcc19, hfr19⟩ := Kd.R_elem HO_4.out z36 (2 : Int) p19 q19; obtain rfl := k36_openM hM19; have hx19_0 : w21.cell? ⟨go17, (2 : Int).toNat * 4, none⟩ = some (.int .i32 ((rd_T36 y322 2).f0)) := hcc19 0 _ rfl; have hx19_1 : w21.cell? ⟨go17, (2 : Int).toNat * 4 + 1, none⟩ = some (.int .i64 ((rd_T36 y322 2).f1)) := hcc19 1 _ rfl; have hx19_2 : w21.cell? ⟨go17, (2 : Int).toNat * 4 + 2, none⟩ = some (.int .i64 ((rd_T36 y322 2).f2)) := hcc19 2 _ rfl; have hx19_3 : w21.cell? ⟨go17, (2 : Int).toNat * 4 + 3, none⟩ = some (.int .i64 ((rd_T36 y322 2).f3)) := hcc19 3 _ rfl; have hf19_0 : w21.frozen? ⟨go17, (2 : Int).toNat * 4, none⟩ = false := hfr19 0; have hf19_1 : w21.frozen? ⟨go17, (2 : Int).toNat * 4 + 1, none⟩ = false := hfr19 1; have hf19_2 : w21.frozen? ⟨go17, (2 : Int).toNat * 4 + 2, none⟩ = false := hfr19 2; have hf19_3 : w21.frozen? ⟨go17, (2 : Int).toNat * 4 + 3, none⟩ = false := hfr19 3; clear hcl19 hcc19 hfr19 hM19; (try rw [show ((2 : Int)).toNat = 2 from rfl] at hx19_0); (try simp only [Nat.reduceMul, Nat.zero_mul, Nat.zero_add, Nat.reduceAdd] at hx19_0); (try rw [show ((2 : Int)).toNat = 2 from rfl] at hf19_0); (try simp only [Nat.reduceMul, Nat.zero_mul, Nat.zero_add, Nat.reduceAdd] at hf19_0); (try rw [show ((2 : Int)).toNat = 2 from rfl] at hx19_1); (try simp only [Nat.reduceMul, Nat.zero_mul, Nat.zero_add, Nat.reduceAdd] at hx19_1); (try rw [show ((2 : Int)).toNat = 2 from rfl] at hf19_1); (try simp only [Nat.reduceMul, Nat.zero_mul, Nat.zero_add, Nat.reduceAdd] at hf19_1); (try rw [show ((2 : Int)).toNat = 2 from rfl] at hx19_2); (try simp only [Nat.reduceMul, Nat.zero_mul, Nat.zero_add, Nat.reduceAdd] at hx19_2); (try rw [show ((2 : Int)).toNat = 2 from rfl] at hf19_2); (try simp only [Nat.reduceMul, Nat.zero_mul, Nat.zero_add, Nat.reduceAdd] at hf19_2); (try rw [show ((2 : Int)).toNat = 2 from rfl] at hx19_3); (try simp only [Nat.reduceMul, Nat.zero_mul, Nat.zero_add, Nat.reduceAdd] at hx19_3); (try rw [show ((2 : Int)).toNat = 2 from rfl] at hf19_3); (try simp only [Nat.reduceMul, Nat.zero_mul, Nat.zero_add, Nat.reduceAdd] at hf19_3); replace p19 := eq_true p19; replace q19 := eq_true q19; have HX22 := Aside0.mk (show Kd.R k36 36 w21 w.heap.size (fun _ => True) (.slice (some ⟨go17, 0, none⟩) x4_3.length co17) y322 from (mvR HO_4)); obtain ⟨ce22, hcl22, hM22, hcc22, hfr22⟩ := Kd.R_elem HX22.out z36 (2 : Int) (by omega) (by have h_ : (2 : Int) < ((x4_3.length : Int) : Int) := of_decide_eq_true (by first | (with_reducible assumption) | assumption); first | exact h_ | (have e_ := (Kd.R_reads' HO_4.out).1; omega) | simpa using h_); obtain rfl := k36_openM hM22; have HP22 := Kd.R_seg HX22.out (2 : Int) (by omega) (by have h_ : (2 : Int) < ((x4_3.length : Int) : Int) := of_decide_eq_true (by first | (with_reducible assumption) | assumption); first | exact h_ | (have e_ := (Kd.R_reads' HO_4.out).1; omega) | simpa using h_) (seg := [.int .i64 3]) (j := 3) hcl22 hcc22 (show 4 ≤ 4 from by decide) (x' := (⟨(rd_T36 y322 2).f0, (rd_T36 y322 2).f1, (rd_T36 y322 2).f2, 3⟩ : S36)) (k36_mkM _ _ _ (⟨(rd_T36 y322 2).f0, (rd_T36 y322 2).f1, (rd_T36 y322 2).f2, 3⟩ : S36) ) (fun _ hk => hk); have hx22_3 := hcc22 3 _ rfl; (try simp only [show (k36).sz = 4 from rfl, Nat.mul_one, Nat.add_zero] at hx22_3); (try rw [show ((2 : Int)).toNat = 2 from rfl] at hx22_3); (try simp only [Nat.reduceMul, Nat.zero_mul, Nat.zero_add, Nat.reduceAdd] at hx22_3); have hf22_3 := hfr22 3; (try simp only [show (k36).sz = 4 from rfl, Nat.mul_one, Nat.add_zero] at hf22_3); (try rw [show ((2 : Int)).toNat = 2 from rfl] at hf22_3); (try simp only [Nat.reduceMul, Nat.zero_mul, Nat.zero_add, Nat.reduceAdd] at hf22_3); clear hcl22 hcc22 hfr22 hM22) | ((with_reducible refine gate_store (t := 3) (p := 45) rfl ?_); refine store_event (t := 3) (p := 45) (v := ?vo_w23) (w1 := (w21.setCell ⟨go17, 11, none⟩ (.int .i64 3))) ?hg ?ho ?hn ?hr ?_; (case ho => rfl); (case hg => rfl); (case hn => rfl); (case hr => first | (go_simp; done) | (go_simp; rfl)); intro w23 hw; have hg : w21.grownBy w23 (some go17) := (by rw [hw]; exact HP22.2); have hp_ : Kd.R k36 36 w23 w.heap.size (fun _ => True) (.slice (some ⟨go17, 0, none⟩) x4_3.length co17) y323 := (by rw [hw, Ny323.out]; exact HP22.1); clear HP22; have n0_ := Aside0.mk (hp_); have n1_ := Aside0.mk (Kd.R_over' (v := (.slice (some ⟨go17, 0, none⟩) x4_3.length co17)) (mvR HO_13) (Kd.R_typed HO_4.out) (by decide) hg); have n2_ := Aside0.mk ((by rw [hw]; exact below_set (HB.out) GB17.out : Below w.heap.size w w23)); clear HO_4; clear HO_13; clear HB; have HO_4 := n0_; have HO_13 := n1_; have HB := n2_; clear n0_ n1_ n2_; clear hg hw hp_))
                  go_meet
                  case rel => exact ⟨_, (y323), H', ⟨by have := HK1.out; have := HK2.out; have := HK3.out; have := HJ10.out; first | omega | exact Nat.le_refl _⟩, ⟨mvR HO_4⟩, ⟨mvR HO_13⟩, ⟨mvB HB⟩⟩
                 ·rw [if_neg c18] at H
                  exact absurd H (by simp)
                ·rw [if_neg c16] at H
                 exact absurd H (by simp)
               ·replace c15 := Bool.eq_false_iff.mpr c15
                subst c15
                have H1 : (selvedgelaw21_BreaksKnown.j4 kj10 x15_1 (rdOf ByteArray.empty y315 x15_1) x3_2 x4_3 x5_3 y315 (y315.length : Int) x15_1) = some r := by rw [if_neg (show ¬ (false = true) by decide)] at H; exact H
                clear H
                have H := H1
                clear H1
                have H' := Aside0.mk H
                clear H
                go_wp2
                go_meet
                case rel => exact ⟨_, (x4_3), H', ⟨by have := HK1.out; have := HK2.out; have := HK3.out; have := HJ10.out; first | omega | exact Nat.le_refl _⟩, ⟨mvR HO_4⟩, ⟨mvR HO_13⟩, ⟨mvB HB⟩⟩
              case rest =>
               clear HC14
               try clear c1
               try clear p1
               try clear q1
               try clear hx1
               try clear qi1
               try clear hf1
               try clear c2
               try clear p2
               try clear hx2
               try clear hf2
               try clear p3
               try clear q3
               try clear hx3
               try clear c4
               try clear c4b0
               try clear c5
               try clear c5b0
               try clear c6
               try clear c6b0
               try clear c7
               try clear c7b0
               try clear c9
               try clear c10
               try clear c10b0
               try clear c12
               try clear c12b0
               try clear c12b1
               try clear c15
               try clear c16
               try clear c16b0
               try clear c16b1
               try clear c17
               try clear p17
               try clear q17
               try clear hx17
               try clear qi17
               try clear hf17
               try clear c18
               try clear c18b0
               try clear c18b1
               try clear c19
               try clear p19
               try clear q19
               try clear hx19
               try clear qi19
               try clear hf19
               try clear c20
               try clear hx20
               try clear hf20
               try clear c22
               try clear hx22
               try clear hf22
               try clear hx17_0
               try clear hx17_1
               try clear hx17_2
               try clear hx17_3
               try clear hx19_0
               try clear hx19_1
               try clear hx19_2
               try clear hx19_3
               try clear hx20_2
               try clear hx22_3
               try clear hx318_0
               try clear p17
               try clear p19
               try clear p2
               try clear p3
               try clear p318
               try clear q17
               try clear q19
               try clear q3
               try clear q318
               obtain ⟨kq, x4_13, HA, HJ13, HO_4, HO_13, HB⟩ := hcut
               cases kq with
               | zero => exact absurd HA.out (by simp [selvedgelaw21_BreaksKnown.j4])
               | succ kj13 =>
                have H := HA.out
                clear HA
                simp only [selvedgelaw21_BreaksKnown.j4] at H
                have HC24 := Aside0.mk H
                clear H
                go_upto_region 14 with (fail)
                go_cut [52] (fun v52 wc => ∃ (kq : Nat) (x52_23 : Bool), v52 = .bool x52_23 ∧ Aside0 (selvedgelaw21_BreaksKnown.j5 kq x15_1 (rdOf ByteArray.empty y315 x15_1) x3_2 x4_13 x5_3 y315 (y315.length : Int) x15_1 x52_23 = some r) ∧ Aside0 (kq ≤ kj13) ∧ Aside0 (Kd.R k36 36 wc w.heap.size (fun _ => True) v320 x4_13) ∧ Aside0 (Kd.R Kd.string 9 wc w.heap.size (fun _ => True) (.slice (some ad318) y315.length co3) y315) ∧ Aside0 (Below w.heap.size w wc))
                case first =>
                 have H := HC24.out
                 clear HC24
                 by_cases c25 : x5_3 = 2
                 ·rw [if_pos c25] at H
                  have c25b0 : (x5_3 == 2) = true := beq_iff_eq.mpr c25
                  have c25b1 : (x5_3 != 2) = false := bne_eq_false_iff_eq.mpr c25
                  clear c25
                  (first | rw [c25b0] | (simp only [i64_w, i32_w]; rw [c25b0]) | skip)
                  have H' := Aside0.mk H
                  clear H
                  obtain ⟨Ao26, co26, eo26⟩ := Kd.R_slice HO_4.out
                  subst eo26
                  go_wp2
                  go_meet
                  case rel => exact ⟨_, (decide ((x4_13.length : Int) > 2)), (by first | rfl | (simp; done) | (simp [*]; done)), H', ⟨by have := HK1.out; have := HK2.out; have := HK3.out; have := HJ10.out; have := HJ13.out; first | omega | exact Nat.le_refl _⟩, ⟨mvR HO_4⟩, ⟨mvR HO_13⟩, ⟨mvB HB⟩⟩
                 ·rw [if_neg c25] at H
                  have c25b0 : (x5_3 == 2) = false := beq_eq_false_iff_ne.mpr c25
                  have c25b1 : (x5_3 != 2) = true := bne_iff_ne.mpr c25
                  (first | rw [c25b0] | (simp only [i64_w, i32_w]; rw [c25b0]) | skip)
                  have H' := Aside0.mk H
                  clear H
                  go_wp2
                  go_meet
                  case rel => exact ⟨_, (false), (by first | rfl | (simp; done) | (simp [*]; done)), H', ⟨by have := HK1.out; have := HK2.out; have := HK3.out; have := HJ10.out; have := HJ13.out; first | omega | exact Nat.le_refl _⟩, ⟨mvR HO_4⟩, ⟨mvR HO_13⟩, ⟨mvB HB⟩⟩
                case rest =>
                 clear HC24
                 try clear c1
                 try clear p1
                 try clear q1
                 try clear hx1
                 try clear qi1
                 try clear hf1
                 try clear c2
                 try clear p2
                 try clear hx2
                 try clear hf2
                 try clear p3
                 try clear q3
                 try clear hx3
                 try clear c4
                 try clear c4b0
                 try clear c5
                 try clear c5b0
                 try clear c6
                 try clear c6b0
                 try clear c7
                 try clear c7b0
                 try clear c9
                 try clear c10
                 try clear c10b0
                 try clear c12
                 try clear c12b0
                 try clear c12b1
                 try clear c15
                 try clear c16
                 try clear c16b0
                 try clear c16b1
                 try clear c17
                 try clear p17
                 try clear q17
                 try clear hx17
                 try clear qi17
                 try clear hf17
                 try clear c18
                 try clear c18b0
                 try clear c18b1
                 try clear c19
                 try clear p19
                 try clear q19
                 try clear hx19
                 try clear qi19
                 try clear hf19
                 try clear c20
                 try clear hx20
                 try clear hf20
                 try clear c22
                 try clear hx22
                 try clear hf22
                 try clear c25
                 try clear c25b0
                 try clear c25b1
                 try clear hx17_0
                 try clear hx17_1
                 try clear hx17_2
                 try clear hx17_3
                 try clear hx19_0
                 try clear hx19_1
                 try clear hx19_2
                 try clear hx19_3
                 try clear hx20_2
                 try clear hx22_3
                 try clear hx318_0
                 try clear p1
                 try clear p17
                 try clear p19
                 try clear p2
                 try clear p3
                 try clear p318
                 try clear q1
                 try clear q17
                 try clear q19
                 try clear q3
                 try clear q318
                 obtain ⟨kq, x52_23, rfl, HA, HJ23, HO_4, HO_13, HB⟩ := hcut
                 cases kq with
                 | zero => exact absurd HA.out (by simp [selvedgelaw21_BreaksKnown.j5])
                 | succ kj23 =>
                  have H := HA.out
                  clear HA
                  simp only [selvedgelaw21_BreaksKnown.j5] at H
                  have HC27 := Aside0.mk H
                  clear H
                  go_upto_if 52 with (fail)
                  go_cut [] (fun wc => ∃ (kq : Nat) (x4_26 : List (S36)), Aside0 (selvedgelaw21_BreaksKnown.j6 kq x15_1 (rdOf ByteArray.empty y315 x15_1) x3_2 x4_26 x5_3 y315 (y315.length : Int) x15_1 = some r) ∧ Aside0 (kq ≤ kj23) ∧ Aside0 (Kd.R k36 36 wc w.heap.size (fun _ => True) v320 x4_26) ∧ Aside0 (Kd.R Kd.string 9 wc w.heap.size (fun _ => True) (.slice (some ad318) y315.length co3) y315) ∧ Aside0 (Below w.heap.size w wc))
                  case first =>
                   have H := HC27.out
                   clear HC27
                   by_cases c28 : x52_23 = true
                   ·subst c28
                    have H1 : (if 2 < (x4_13.length : Int) then (selvedgelaw21_BreaksKnown.j6 kj23 x15_1 (rdOf ByteArray.empty y315 x15_1) x3_2 (x4_13.set (2 : Int).toNat (⟨(rd_T36 x4_13 2).f0, 0, (rd_T36 x4_13 2).f2, (rd_T36 x4_13 2).f3⟩ : S36)) x5_3 y315 (y315.length : Int) x15_1) else (none)) = some r := by rw [if_pos rfl] at H; exact H
                    clear H
                    have H := H1
                    clear H1
                    by_cases c29 : 2 < (x4_13.length : Int)
                    ·rw [if_pos c29] at H
                     have c29b0 : decide (2 < (x4_13.length : Int)) = true := decide_eq_true c29
                     have c29b1 : decide (2 < x4_13.length) = true := decide_eq_true (by omega)
                     clear c29
                     (first | rw [c29b0] | (simp only [i64_w, i32_w]; rw [c29b0]) | skip)
                     obtain ⟨y324, hy324⟩ : ∃ y_ : List (S36), y_ = (x4_13.set (2 : Int).toNat (⟨(rd_T36 x4_13 2).f0, 0, (rd_T36 x4_13 2).f2, (rd_T36 x4_13 2).f3⟩ : S36)) := ⟨_, rfl⟩
                     replace H : (selvedgelaw21_BreaksKnown.j6 kj23 x15_1 (rdOf ByteArray.empty y315 x15_1) x3_2 y324 x5_3 y315 (y315.length : Int) x15_1) = some r := by first | (rw [hy324]; with_reducible exact H) | (have H2_ := (Option.bind_some _ _).symm.trans H; rw [hy324]; with_reducible exact H2_) | (have H2_ := (Option.bind_some _ _).symm.trans H; with_reducible exact H2_) | with_reducible exact H | (rw [hy324]; exact H) | exact H
                     have Ny324 := Aside0.mk hy324
                     clear hy324
                     have H' := Aside0.mk H
                     clear H
                     have p30 : 0 ≤ (2 : Int) := (by omega)
                     have q30 : (2 : Int) < ((x4_13.length : Int) : Int) := of_decide_eq_true (by first | (with_reducible assumption) | assumption)
                     have qi30 : (2 < x4_13.length) = True := eq_true (by omega)
                     obtain ⟨go30, co30, eo30, gb30, gl30, cl30, HG30⟩ := Kd.R_form HO_4.out (by omega)
                     (first | cases eo30 | (injection eo30 with ea_ en_ ec_; (first | subst ea_ | (injection ea_ with ea_; subst ea_)); subst ec_; clear en_))
                     have GB30 := Aside0.mk gb30
                     have GG30 := Aside0.mk HG30
                     clear gb30 gl30 HG30
                     obtain ⟨ce30, hcl30, hM30, hcc30, hfr30⟩ := Kd.R_elem HO_4.out z36 (2 : Int) p30 q30
                     obtain rfl := k36_openM hM30
                     have hx30_0 : wc.cell? ⟨go30, (2 : Int).toNat * 4, none⟩ = some (.int .i32 ((rd_T36 x4_13 2).f0)) := hcc30 0 _ rfl
                     have hx30_1 : wc.cell? ⟨go30, (2 : Int).toNat * 4 + 1, none⟩ = some (.int .i64 ((rd_T36 x4_13 2).f1)) := hcc30 1 _ rfl
                     have hx30_2 : wc.cell? ⟨go30, (2 : Int).toNat * 4 + 2, none⟩ = some (.int .i64 ((rd_T36 x4_13 2).f2)) := hcc30 2 _ rfl
                     have hx30_3 : wc.cell? ⟨go30, (2 : Int).toNat * 4 + 3, none⟩ = some (.int .i64 ((rd_T36 x4_13 2).f3)) := hcc30 3 _ rfl
                     have hf30_0 : wc.frozen? ⟨go30, (2 : Int).toNat * 4, none⟩ = false := hfr30 0
                     have hf30_1 : wc.frozen? ⟨go30, (2 : Int).toNat * 4 + 1, none⟩ = false := hfr30 1
                     have hf30_2 : wc.frozen? ⟨go30, (2 : Int).toNat * 4 + 2, none⟩ = false := hfr30 2
                     have hf30_3 : wc.frozen? ⟨go30, (2 : Int).toNat * 4 + 3, none⟩ = false := hfr30 3
                     clear hcl30 hcc30 hfr30 hM30
                     (try rw [show ((2 : Int)).toNat = 2 from rfl] at hx30_0)
                     (try simp only [Nat.reduceMul, Nat.zero_mul, Nat.zero_add, Nat.reduceAdd] at hx30_0)
                     (try rw [show ((2 : Int)).toNat = 2 from rfl] at hf30_0)
                     (try simp only [Nat.reduceMul, Nat.zero_mul, Nat.zero_add, Nat.reduceAdd] at hf30_0)
                     (try rw [show ((2 : Int)).toNat = 2 from rfl] at hx30_1)
                     (try simp only [Nat.reduceMul, Nat.zero_mul, Nat.zero_add, Nat.reduceAdd] at hx30_1)
                     (try rw [show ((2 : Int)).toNat = 2 from rfl] at hf30_1)
                     (try simp only [Nat.reduceMul, Nat.zero_mul, Nat.zero_add, Nat.reduceAdd] at hf30_1)
                     (try rw [show ((2 : Int)).toNat = 2 from rfl] at hx30_2)
                     (try simp only [Nat.reduceMul, Nat.zero_mul, Nat.zero_add, Nat.reduceAdd] at hx30_2)
                     (try rw [show ((2 : Int)).toNat = 2 from rfl] at hf30_2)
                     (try simp only [Nat.reduceMul, Nat.zero_mul, Nat.zero_add, Nat.reduceAdd] at hf30_2)
                     (try rw [show ((2 : Int)).toNat = 2 from rfl] at hx30_3)
                     (try simp only [Nat.reduceMul, Nat.zero_mul, Nat.zero_add, Nat.reduceAdd] at hx30_3)
                     (try rw [show ((2 : Int)).toNat = 2 from rfl] at hf30_3)
                     (try simp only [Nat.reduceMul, Nat.zero_mul, Nat.zero_add, Nat.reduceAdd] at hf30_3)
                     replace p30 := eq_true p30
                     replace q30 := eq_true q30
                     have HX31 := Aside0.mk (show Kd.R k36 36 wc w.heap.size (fun _ => True) (.slice (some ⟨go30, 0, none⟩) x4_13.length co30) x4_13 from (mvR HO_4))
                     obtain ⟨ce31, hcl31, hM31, hcc31, hfr31⟩ := Kd.R_elem HX31.out z36 (2 : Int) (by omega) (by have h_ : (2 : Int) < ((x4_13.length : Int) : Int) := of_decide_eq_true (by first | (with_reducible assumption) | assumption); first | exact h_ | (have e_ := (Kd.R_reads' HO_4.out).1; omega) | simpa using h_)
                     obtain rfl := k36_openM hM31
                     have HP31 := Kd.R_seg HX31.out (2 : Int) (by omega) (by have h_ : (2 : Int) < ((x4_13.length : Int) : Int) := of_decide_eq_true (by first | (with_reducible assumption) | assumption); first | exact h_ | (have e_ := (Kd.R_reads' HO_4.out).1; omega) | simpa using h_) (seg := [.int .i64 0]) (j := 1) hcl31 hcc31 (show 2 ≤ 4 from by decide) (x' := (⟨(rd_T36 x4_13 2).f0, 0, (rd_T36 x4_13 2).f2, (rd_T36 x4_13 2).f3⟩ : S36)) (k36_mkM _ _ _ (⟨(rd_T36 x4_13 2).f0, 0, (rd_T36 x4_13 2).f2, (rd_T36 x4_13 2).f3⟩ : S36) ) (fun _ hk => hk)
                     have hx31_1 := hcc31 1 _ rfl
                     (try simp only [show (k36).sz = 4 from rfl, Nat.mul_one, Nat.add_zero] at hx31_1)
                     (try rw [show ((2 : Int)).toNat = 2 from rfl] at hx31_1)
                     (try simp only [Nat.reduceMul, Nat.zero_mul, Nat.zero_add, Nat.reduceAdd] at hx31_1)
                     have hf31_1 := hfr31 1
                     (try simp only [show (k36).sz = 4 from rfl, Nat.mul_one, Nat.add_zero] at hf31_1)
                     (try rw [show ((2 : Int)).toNat = 2 from rfl] at hf31_1)
                     (try simp only [Nat.reduceMul, Nat.zero_mul, Nat.zero_add, Nat.reduceAdd] at hf31_1)
                     clear hcl31 hcc31 hfr31 hM31
                     go_wp2_with (first | ((with_reducible refine gate_store (t := 3) (p := 55) rfl ?_); refine store_event (t := 3) (p := 55) (v := ?vo_w32) (w1 := (wc.setCell ⟨go30, 9, none⟩ (.int .i64 0))) ?hg ?ho ?hn ?hr ?_; (case ho => rfl); (case hg => rfl); (case hn => rfl); (case hr => first | (go_simp; done) | (go_simp; rfl)); intro w32 hw; have hg : wc.grownBy w32 (some go30) := (by rw [hw]; exact HP31.2); have hp_ : Kd.R k36 36 w32 w.heap.size (fun _ => True) (.slice (some ⟨go30, 0, none⟩) x4_13.length co30) y324 := (by rw [hw, Ny324.out]; exact HP31.1); clear HP31; have n0_ := Aside0.mk (hp_); have n1_ := Aside0.mk (Kd.R_over' (v := (.slice (some ⟨go30, 0, none⟩) x4_13.length co30)) (mvR HO_13) (Kd.R_typed HO_4.out) (by decide) hg); have n2_ := Aside0.mk ((by rw [hw]; exact below_set (HB.out) GB30.out : Below w.heap.size w w32)); clear HO_4; clear HO_13; clear HB; have HO_4 := n0_; have HO_13 := n1_; have HB := n2_; clear n0_ n1_ n2_; clear hg hw hp_))
                     go_meet
                     case rel => exact ⟨_, (y324), H', ⟨by have := HK1.out; have := HK2.out; have := HK3.out; have := HJ10.out; have := HJ13.out; have := HJ23.out; first | omega | exact Nat.le_refl _⟩, ⟨mvR HO_4⟩, ⟨mvR HO_13⟩, ⟨mvB HB⟩⟩
                    ·rw [if_neg c29] at H
                     exact absurd H (by simp)
                   ·replace c28 := Bool.eq_false_iff.mpr c28
                    subst c28
                    have H1 : (selvedgelaw21_BreaksKnown.j6 kj23 x15_1 (rdOf ByteArray.empty y315 x15_1) x3_2 x4_13 x5_3 y315 (y315.length : Int) x15_1) = some r := by rw [if_neg (show ¬ (false = true) by decide)] at H; exact H
                    clear H
                    have H := H1
                    clear H1
                    have H' := Aside0.mk H
                    clear H
                    go_wp2
                    go_meet
                    case rel => exact ⟨_, (x4_13), H', ⟨by have := HK1.out; have := HK2.out; have := HK3.out; have := HJ10.out; have := HJ13.out; have := HJ23.out; first | omega | exact Nat.le_refl _⟩, ⟨mvR HO_4⟩, ⟨mvR HO_13⟩, ⟨mvB HB⟩⟩
                  case rest =>
                   clear HC27
                   try clear c1
                   try clear p1
                   try clear q1
                   try clear hx1
                   try clear qi1
                   try clear hf1
                   try clear c2
                   try clear p2
                   try clear hx2
                   try clear hf2
                   try clear c3
                   try clear p3
                   try clear q3
                   try clear hx3
                   try clear qi3
                   try clear hf3
                   try clear c4
                   try clear c4b0
                   try clear c5
                   try clear c5b0
                   try clear c6
                   try clear c6b0
                   try clear c7
                   try clear c7b0
                   try clear c9
                   try clear c10
                   try clear c10b0
                   try clear c12
                   try clear c12b0
                   try clear c12b1
                   try clear c15
                   try clear c16
                   try clear c16b0
                   try clear c16b1
                   try clear c17
                   try clear p17
                   try clear q17
                   try clear hx17
                   try clear qi17
                   try clear hf17
                   try clear c18
                   try clear c18b0
                   try clear c18b1
                   try clear c19
                   try clear p19
                   try clear q19
                   try clear hx19
                   try clear qi19
                   try clear hf19
                   try clear c20
                   try clear hx20
                   try clear hf20
                   try clear c22
                   try clear hx22
                   try clear hf22
                   try clear c25
                   try clear c25b0
                   try clear c25b1
                   try clear c28
                   try clear c29
                   try clear c29b0
                   try clear c29b1
                   try clear c30
                   try clear p30
                   try clear q30
                   try clear hx30
                   try clear qi30
                   try clear hf30
                   try clear c31
                   try clear p31
                   try clear q31
                   try clear hx31
                   try clear hf31
                   try clear hx17_0
                   try clear hx17_1
                   try clear hx17_2
                   try clear hx17_3
                   try clear hx19_0
                   try clear hx19_1
                   try clear hx19_2
                   try clear hx19_3
                   try clear hx20_2
                   try clear hx22_3
                   try clear hx30_0
                   try clear hx30_1
                   try clear hx30_2
                   try clear hx30_3
                   try clear hx318_0
                   try clear hx31_1
                   try clear p1
                   try clear p17
                   try clear p19
                   try clear p2
                   try clear p3
                   try clear p30
                   try clear p318
                   try clear q1
                   try clear q17
                   try clear q19
                   try clear q3
                   try clear q30
                   try clear q318
                   obtain ⟨kq, x4_26, HA, HJ26, HO_4, HO_13, HB⟩ := hcut
                   cases kq with
                   | zero => exact absurd HA.out (by simp [selvedgelaw21_BreaksKnown.j6])
                   | succ kj26 =>
                    have H := HA.out
                    clear HA
                    simp only [selvedgelaw21_BreaksKnown.j6] at H
                    have HC33 := Aside0.mk H
                    clear H
                    go_upto_region 16 with (fail)
                    go_cut [62] (fun v62 wc => ∃ (kq : Nat) (x62_32 : Bool), v62 = .bool x62_32 ∧ Aside0 (selvedgelaw21_BreaksKnown.j7 kq x15_1 (rdOf ByteArray.empty y315 x15_1) x3_2 x4_26 x5_3 y315 (y315.length : Int) x15_1 x62_32 = some r) ∧ Aside0 (kq ≤ kj26) ∧ Aside0 (Kd.R k36 36 wc w.heap.size (fun _ => True) v320 x4_26) ∧ Aside0 (Kd.R Kd.string 9 wc w.heap.size (fun _ => True) (.slice (some ad318) y315.length co3) y315) ∧ Aside0 (Below w.heap.size w wc))
                    case first =>
                     have H := HC33.out
                     clear HC33
                     by_cases c34 : x5_3 = 3
                     ·rw [if_pos c34] at H
                      have c34b0 : (x5_3 == 3) = true := beq_iff_eq.mpr c34
                      have c34b1 : (x5_3 != 3) = false := bne_eq_false_iff_eq.mpr c34
                      clear c34
                      (first | rw [c34b0] | (simp only [i64_w, i32_w]; rw [c34b0]) | skip)
                      have H' := Aside0.mk H
                      clear H
                      obtain ⟨Ao35, co35, eo35⟩ := Kd.R_slice HO_4.out
                      subst eo35
                      go_wp2
                      go_meet
                      case rel => exact ⟨_, (decide ((x4_26.length : Int) > 3)), (by first | rfl | (simp; done) | (simp [*]; done)), H', ⟨by have := HK1.out; have := HK2.out; have := HK3.out; have := HJ10.out; have := HJ13.out; have := HJ23.out; have := HJ26.out; first | omega | exact Nat.le_refl _⟩, ⟨mvR HO_4⟩, ⟨mvR HO_13⟩, ⟨mvB HB⟩⟩
                     ·rw [if_neg c34] at H
                      have c34b0 : (x5_3 == 3) = false := beq_eq_false_iff_ne.mpr c34
                      have c34b1 : (x5_3 != 3) = true := bne_iff_ne.mpr c34
                      (first | rw [c34b0] | (simp only [i64_w, i32_w]; rw [c34b0]) | skip)
                      have H' := Aside0.mk H
                      clear H
                      go_wp2
                      go_meet
                      case rel => exact ⟨_, (false), (by first | rfl | (simp; done) | (simp [*]; done)), H', ⟨by have := HK1.out; have := HK2.out; have := HK3.out; have := HJ10.out; have := HJ13.out; have := HJ23.out; have := HJ26.out; first | omega | exact Nat.le_refl _⟩, ⟨mvR HO_4⟩, ⟨mvR HO_13⟩, ⟨mvB HB⟩⟩
                    case rest =>
                     clear HC33
                     try clear c1
                     try clear p1
                     try clear q1
                     try clear hx1
                     try clear qi1
                     try clear hf1
                     try clear c2
                     try clear p2
                     try clear hx2
                     try clear hf2
                     try clear c3
                     try clear p3
                     try clear q3
                     try clear hx3
                     try clear qi3
                     try clear hf3
                     try clear c4
                     try clear c4b0
                     try clear c5
                     try clear c5b0
                     try clear c6
                     try clear c6b0
                     try clear c7
                     try clear c7b0
                     try clear c9
                     try clear c10
                     try clear c10b0
                     try clear c12
                     try clear c12b0
                     try clear c12b1
                     try clear c15
                     try clear c16
                     try clear c16b0
                     try clear c16b1
                     try clear c17
                     try clear p17
                     try clear q17
                     try clear hx17
                     try clear qi17
                     try clear hf17
                     try clear c18
                     try clear c18b0
                     try clear c18b1
                     try clear c19
                     try clear p19
                     try clear q19
                     try clear hx19
                     try clear qi19
                     try clear hf19
                     try clear c20
                     try clear hx20
                     try clear hf20
                     try clear c22
                     try clear hx22
                     try clear hf22
                     try clear c25
                     try clear c25b0
                     try clear c25b1
                     try clear c28
                     try clear c29
                     try clear c29b0
                     try clear c29b1
                     try clear c30
                     try clear p30
                     try clear q30
                     try clear hx30
                     try clear qi30
                     try clear hf30
                     try clear c31
                     try clear p31
                     try clear q31
                     try clear hx31
                     try clear hf31
                     try clear c34
                     try clear c34b0
                     try clear c34b1
                     try clear hx17_0
                     try clear hx17_1
                     try clear hx17_2
                     try clear hx17_3
                     try clear hx19_0
                     try clear hx19_1
                     try clear hx19_2
                     try clear hx19_3
                     try clear hx20_2
                     try clear hx22_3
                     try clear hx30_0
                     try clear hx30_1
                     try clear hx30_2
                     try clear hx30_3
                     try clear hx318_0
                     try clear hx31_1
                     try clear p1
                     try clear p17
                     try clear p19
                     try clear p2
                     try clear p3
                     try clear p30
                     try clear p31
                     try clear p318
                     try clear q1
                     try clear q17
                     try clear q19
                     try clear q3
                     try clear q30
                     try clear q31
                     try clear q318
                     obtain ⟨kq, x62_32, rfl, HA, HJ32, HO_4, HO_13, HB⟩ := hcut
                     cases kq with
                     | zero => exact absurd HA.out (by simp [selvedgelaw21_BreaksKnown.j7])
                     | succ kj32 =>
                      have H := HA.out
                      clear HA
                      simp only [selvedgelaw21_BreaksKnown.j7] at H
                      have HC36 := Aside0.mk H
                      clear H
                      go_upto_if 62 with (fail)
                      go_cut [] (fun wc => ∃ (kq : Nat) (x4_35 : List (S36)), Aside0 (selvedgelaw21_BreaksKnown.j8 kq x15_1 (rdOf ByteArray.empty y315 x15_1) x3_2 x4_35 x5_3 y315 (y315.length : Int) x15_1 = some r) ∧ Aside0 (kq ≤ kj32) ∧ Aside0 (Kd.R k36 36 wc w.heap.size (fun _ => True) v320 x4_35) ∧ Aside0 (Kd.R Kd.string 9 wc w.heap.size (fun _ => True) (.slice (some ad318) y315.length co3) y315) ∧ Aside0 (Below w.heap.size w wc))
                      case first =>
                       have H := HC36.out
                       clear HC36
                       by_cases c37 : x62_32 = true
                       ·subst c37
                        have H1 : (if 3 < (x4_26.length : Int) then (selvedgelaw21_BreaksKnown.j8 kj32 x15_1 (rdOf ByteArray.empty y315 x15_1) x3_2 (x4_26.set (3 : Int).toNat (⟨8297, 0, 0, 0⟩ : S36)) x5_3 y315 (y315.length : Int) x15_1) else (none)) = some r := by rw [if_pos rfl] at H; exact H
                        clear H
                        have H := H1
                        clear H1
                        by_cases c38 : 3 < (x4_26.length : Int)
                        ·rw [if_pos c38] at H
                         have c38b0 : decide (3 < (x4_26.length : Int)) = true := decide_eq_true c38
                         have c38b1 : decide (3 < x4_26.length) = true := decide_eq_true (by omega)
                         clear c38
                         (first | rw [c38b0] | (simp only [i64_w, i32_w]; rw [c38b0]) | skip)
                         obtain ⟨y325, hy325⟩ : ∃ y_ : List (S36), y_ = (x4_26.set (3 : Int).toNat (⟨8297, 0, 0, 0⟩ : S36)) := ⟨_, rfl⟩
                         replace H : (selvedgelaw21_BreaksKnown.j8 kj32 x15_1 (rdOf ByteArray.empty y315 x15_1) x3_2 y325 x5_3 y315 (y315.length : Int) x15_1) = some r := by first | (rw [hy325]; with_reducible exact H) | (have H2_ := (Option.bind_some _ _).symm.trans H; rw [hy325]; with_reducible exact H2_) | (have H2_ := (Option.bind_some _ _).symm.trans H; with_reducible exact H2_) | with_reducible exact H | (rw [hy325]; exact H) | exact H
                         have Ny325 := Aside0.mk hy325
                         clear hy325
                         have H' := Aside0.mk H
                         clear H
                         have p39 : 0 ≤ (3 : Int) := (by omega)
                         have q39 : (3 : Int) < ((x4_26.length : Int) : Int) := of_decide_eq_true (by first | (with_reducible assumption) | assumption)
                         have qi39 : (3 < x4_26.length) = True := eq_true (by omega)
                         obtain ⟨go39, co39, eo39, gb39, gl39, cl39, HG39⟩ := Kd.R_form HO_4.out (by omega)
                         (first | cases eo39 | (injection eo39 with ea_ en_ ec_; (first | subst ea_ | (injection ea_ with ea_; subst ea_)); subst ec_; clear en_))
                         have GB39 := Aside0.mk gb39
                         have GG39 := Aside0.mk HG39
                         clear gb39 gl39 HG39
                         obtain ⟨ce39, hcl39, hM39, hcc39, hfr39⟩ := Kd.R_elem HO_4.out z36 (3 : Int) p39 q39
                         obtain rfl := k36_openM hM39
                         have hx39_0 : wc.cell? ⟨go39, (3 : Int).toNat * 4, none⟩ = some (.int .i32 ((rd_T36 x4_26 3).f0)) := hcc39 0 _ rfl
                         have hx39_1 : wc.cell? ⟨go39, (3 : Int).toNat * 4 + 1, none⟩ = some (.int .i64 ((rd_T36 x4_26 3).f1)) := hcc39 1 _ rfl
                         have hx39_2 : wc.cell? ⟨go39, (3 : Int).toNat * 4 + 2, none⟩ = some (.int .i64 ((rd_T36 x4_26 3).f2)) := hcc39 2 _ rfl
                         have hx39_3 : wc.cell? ⟨go39, (3 : Int).toNat * 4 + 3, none⟩ = some (.int .i64 ((rd_T36 x4_26 3).f3)) := hcc39 3 _ rfl
                         have hf39_0 : wc.frozen? ⟨go39, (3 : Int).toNat * 4, none⟩ = false := hfr39 0
                         have hf39_1 : wc.frozen? ⟨go39, (3 : Int).toNat * 4 + 1, none⟩ = false := hfr39 1
                         have hf39_2 : wc.frozen? ⟨go39, (3 : Int).toNat * 4 + 2, none⟩ = false := hfr39 2
                         have hf39_3 : wc.frozen? ⟨go39, (3 : Int).toNat * 4 + 3, none⟩ = false := hfr39 3
                         clear hcl39 hcc39 hfr39 hM39
                         (try rw [show ((3 : Int)).toNat = 3 from rfl] at hx39_0)
                         (try simp only [Nat.reduceMul, Nat.zero_mul, Nat.zero_add, Nat.reduceAdd] at hx39_0)
                         (try rw [show ((3 : Int)).toNat = 3 from rfl] at hf39_0)
                         (try simp only [Nat.reduceMul, Nat.zero_mul, Nat.zero_add, Nat.reduceAdd] at hf39_0)
                         (try rw [show ((3 : Int)).toNat = 3 from rfl] at hx39_1)
                         (try simp only [Nat.reduceMul, Nat.zero_mul, Nat.zero_add, Nat.reduceAdd] at hx39_1)
                         (try rw [show ((3 : Int)).toNat = 3 from rfl] at hf39_1)
                         (try simp only [Nat.reduceMul, Nat.zero_mul, Nat.zero_add, Nat.reduceAdd] at hf39_1)
                         (try rw [show ((3 : Int)).toNat = 3 from rfl] at hx39_2)
                         (try simp only [Nat.reduceMul, Nat.zero_mul, Nat.zero_add, Nat.reduceAdd] at hx39_2)
                         (try rw [show ((3 : Int)).toNat = 3 from rfl] at hf39_2)
                         (try simp only [Nat.reduceMul, Nat.zero_mul, Nat.zero_add, Nat.reduceAdd] at hf39_2)
                         (try rw [show ((3 : Int)).toNat = 3 from rfl] at hx39_3)
                         (try simp only [Nat.reduceMul, Nat.zero_mul, Nat.zero_add, Nat.reduceAdd] at hx39_3)
                         (try rw [show ((3 : Int)).toNat = 3 from rfl] at hf39_3)
                         (try simp only [Nat.reduceMul, Nat.zero_mul, Nat.zero_add, Nat.reduceAdd] at hf39_3)
                         replace p39 := eq_true p39
                         replace q39 := eq_true q39
                         have HX40 := Aside0.mk (show Kd.R k36 36 wc w.heap.size (fun _ => True) (.slice (some ⟨go39, 0, none⟩) x4_26.length co39) x4_26 from (mvR HO_4))
                         obtain ⟨ce40, hcl40, hM40, hcc40, hfr40⟩ := Kd.R_elem HX40.out z36 (3 : Int) (by omega) (by have h_ : (3 : Int) < ((x4_26.length : Int) : Int) := of_decide_eq_true (by first | (with_reducible assumption) | assumption); first | exact h_ | (have e_ := (Kd.R_reads' HO_4.out).1; omega) | simpa using h_)
                         obtain rfl := k36_openM hM40
                         have HP40 := Kd.R_seg HX40.out (3 : Int) (by omega) (by have h_ : (3 : Int) < ((x4_26.length : Int) : Int) := of_decide_eq_true (by first | (with_reducible assumption) | assumption); first | exact h_ | (have e_ := (Kd.R_reads' HO_4.out).1; omega) | simpa using h_) (seg := [.int .i32 8297, .int .i64 0, .int .i64 0, .int .i64 0]) (j := 0) hcl40 hcc40 (show 4 ≤ 4 from by decide) (x' := (⟨8297, 0, 0, 0⟩ : S36)) (k36_mkM _ _ _ (⟨8297, 0, 0, 0⟩ : S36) ) (fun _ hk => hk)
                         have hx40_0 := hcc40 0 _ rfl
                         (try simp only [show (k36).sz = 4 from rfl, Nat.mul_one, Nat.add_zero] at hx40_0)
                         (try rw [show ((3 : Int)).toNat = 3 from rfl] at hx40_0)
                         (try simp only [Nat.reduceMul, Nat.zero_mul, Nat.zero_add, Nat.reduceAdd] at hx40_0)
                         have hf40_0 := hfr40 0
                         (try simp only [show (k36).sz = 4 from rfl, Nat.mul_one, Nat.add_zero] at hf40_0)
                         (try rw [show ((3 : Int)).toNat = 3 from rfl] at hf40_0)
                         (try simp only [Nat.reduceMul, Nat.zero_mul, Nat.zero_add, Nat.reduceAdd] at hf40_0)
                         have hx40_1 := hcc40 1 _ rfl
                         (try simp only [show (k36).sz = 4 from rfl, Nat.mul_one, Nat.add_zero] at hx40_1)
                         (try rw [show ((3 : Int)).toNat = 3 from rfl] at hx40_1)
                         (try simp only [Nat.reduceMul, Nat.zero_mul, Nat.zero_add, Nat.reduceAdd] at hx40_1)
                         have hf40_1 := hfr40 1
                         (try simp only [show (k36).sz = 4 from rfl, Nat.mul_one, Nat.add_zero] at hf40_1)
                         (try rw [show ((3 : Int)).toNat = 3 from rfl] at hf40_1)
                         (try simp only [Nat.reduceMul, Nat.zero_mul, Nat.zero_add, Nat.reduceAdd] at hf40_1)
                         have hx40_2 := hcc40 2 _ rfl
                         (try simp only [show (k36).sz = 4 from rfl, Nat.mul_one, Nat.add_zero] at hx40_2)
                         (try rw [show ((3 : Int)).toNat = 3 from rfl] at hx40_2)
                         (try simp only [Nat.reduceMul, Nat.zero_mul, Nat.zero_add, Nat.reduceAdd] at hx40_2)
                         have hf40_2 := hfr40 2
                         (try simp only [show (k36).sz = 4 from rfl, Nat.mul_one, Nat.add_zero] at hf40_2)
                         (try rw [show ((3 : Int)).toNat = 3 from rfl] at hf40_2)
                         (try simp only [Nat.reduceMul, Nat.zero_mul, Nat.zero_add, Nat.reduceAdd] at hf40_2)
                         have hx40_3 := hcc40 3 _ rfl
                         (try simp only [show (k36).sz = 4 from rfl, Nat.mul_one, Nat.add_zero] at hx40_3)
                         (try rw [show ((3 : Int)).toNat = 3 from rfl] at hx40_3)
                         (try simp only [Nat.reduceMul, Nat.zero_mul, Nat.zero_add, Nat.reduceAdd] at hx40_3)
                         have hf40_3 := hfr40 3
                         (try simp only [show (k36).sz = 4 from rfl, Nat.mul_one, Nat.add_zero] at hf40_3)
                         (try rw [show ((3 : Int)).toNat = 3 from rfl] at hf40_3)
                         (try simp only [Nat.reduceMul, Nat.zero_mul, Nat.zero_add, Nat.reduceAdd] at hf40_3)
                         clear hcl40 hcc40 hfr40 hM40
                         go_wp2_with (first | ((with_reducible refine gate_store (t := 36) (p := 65) rfl ?_); refine store_event (t := 36) (p := 65) (v := ?vo_w41) (w1 := ((((wc.setCell ⟨go39, 12, none⟩ (.int .i32 8297)).setCell ⟨go39, 13, none⟩ (.int .i64 0)).setCell ⟨go39, 14, none⟩ (.int .i64 0)).setCell ⟨go39, 15, none⟩ (.int .i64 0))) ?hg ?ho ?hn ?hr ?_; (case ho => rfl); (case hg => rfl); (case hn => rfl); (case hr => first | (go_simp; done) | (go_simp; rfl)); intro w41 hw; have hg : wc.grownBy w41 (some go39) := (by rw [hw]; exact HP40.2); have hp_ : Kd.R k36 36 w41 w.heap.size (fun _ => True) (.slice (some ⟨go39, 0, none⟩) x4_26.length co39) y325 := (by rw [hw, Ny325.out]; exact HP40.1); clear HP40; have n0_ := Aside0.mk (hp_); have n1_ := Aside0.mk (Kd.R_over' (v := (.slice (some ⟨go39, 0, none⟩) x4_26.length co39)) (mvR HO_13) (Kd.R_typed HO_4.out) (by decide) hg); have n2_ := Aside0.mk ((by rw [hw]; exact below_set (below_set (below_set (below_set (HB.out) GB39.out) GB39.out) GB39.out) GB39.out : Below w.heap.size w w41)); clear HO_4; clear HO_13; clear HB; have HO_4 := n0_; have HO_13 := n1_; have HB := n2_; clear n0_ n1_ n2_; clear hg hw hp_))
                         go_meet
                         case rel => exact ⟨_, (y325), H', ⟨by have := HK1.out; have := HK2.out; have := HK3.out; have := HJ10.out; have := HJ13.out; have := HJ23.out; have := HJ26.out; have := HJ32.out; first | omega | exact Nat.le_refl _⟩, ⟨mvR HO_4⟩, ⟨mvR HO_13⟩, ⟨mvB HB⟩⟩
                        ·rw [if_neg c38] at H
                         exact absurd H (by simp)
                       ·replace c37 := Bool.eq_false_iff.mpr c37
                        subst c37
                        have H1 : (selvedgelaw21_BreaksKnown.j8 kj32 x15_1 (rdOf ByteArray.empty y315 x15_1) x3_2 x4_26 x5_3 y315 (y315.length : Int) x15_1) = some r := by rw [if_neg (show ¬ (false = true) by decide)] at H; exact H
                        clear H
                        have H := H1
                        clear H1
                        have H' := Aside0.mk H
                        clear H
                        go_wp2
                        go_meet
                        case rel => exact ⟨_, (x4_26), H', ⟨by have := HK1.out; have := HK2.out; have := HK3.out; have := HJ10.out; have := HJ13.out; have := HJ23.out; have := HJ26.out; have := HJ32.out; first | omega | exact Nat.le_refl _⟩, ⟨mvR HO_4⟩, ⟨mvR HO_13⟩, ⟨mvB HB⟩⟩
                      case rest =>
                       clear HC36
                       try clear c1
                       try clear p1
                       try clear q1
                       try clear hx1
                       try clear qi1
                       try clear hf1
                       try clear c2
                       try clear p2
                       try clear hx2
                       try clear hf2
                       try clear c3
                       try clear p3
                       try clear q3
                       try clear hx3
                       try clear qi3
                       try clear hf3
                       try clear c4
                       try clear c4b0
                       try clear hx4
                       try clear hf4
                       try clear c5
                       try clear c5b0
                       try clear c6
                       try clear c6b0
                       try clear c7
                       try clear c7b0
                       try clear c9
                       try clear c10
                       try clear c10b0
                       try clear c12
                       try clear c12b0
                       try clear c12b1
                       try clear c15
                       try clear c16
                       try clear c16b0
                       try clear c16b1
                       try clear c17
                       try clear p17
                       try clear q17
                       try clear hx17
                       try clear qi17
                       try clear hf17
                       try clear c18
                       try clear c18b0
                       try clear c18b1
                       try clear c19
                       try clear p19
                       try clear q19
                       try clear hx19
                       try clear qi19
                       try clear hf19
                       try clear c20
                       try clear hx20
                       try clear hf20
                       try clear c22
                       try clear hx22
                       try clear hf22
                       try clear c25
                       try clear c25b0
                       try clear c25b1
                       try clear c28
                       try clear c29
                       try clear c29b0
                       try clear c29b1
                       try clear c30
                       try clear p30
                       try clear q30
                       try clear hx30
                       try clear qi30
                       try clear hf30
                       try clear c31
                       try clear p31
                       try clear q31
                       try clear hx31
                       try clear hf31
                       try clear c34
                       try clear c34b0
                       try clear c34b1
                       try clear c37
                       try clear c38
                       try clear c38b0
                       try clear c38b1
                       try clear c39
                       try clear p39
                       try clear q39
                       try clear hx39
                       try clear qi39
                       try clear hf39
                       try clear c40
                       try clear hx40
                       try clear hf40
                       try clear hx17_0
                       try clear hx17_1
                       try clear hx17_2
                       try clear hx17_3
                       try clear hx19_0
                       try clear hx19_1
                       try clear hx19_2
                       try clear hx19_3
                       try clear hx20_2
                       try clear hx22_3
                       try clear hx30_0
                       try clear hx30_1
                       try clear hx30_2
                       try clear hx30_3
                       try clear hx318_0
                       try clear hx31_1
                       try clear hx39_0
                       try clear hx39_1
                       try clear hx39_2
                       try clear hx39_3
                       try clear hx40_0
                       try clear hx40_1
                       try clear hx40_2
                       try clear hx40_3
                       try clear p1
                       try clear p17
                       try clear p19
                       try clear p2
                       try clear p3
                       try clear p30
                       try clear p31
                       try clear p318
                       try clear p39
                       try clear q1
                       try clear q17
                       try clear q19
                       try clear q3
                       try clear q30
                       try clear q31
                       try clear q318
                       try clear q39
                       obtain ⟨kq, x4_35, HA, HJ35, HO_4, HO_13, HB⟩ := hcut
                       cases kq with
                       | zero => exact absurd HA.out (by simp [selvedgelaw21_BreaksKnown.j8])
                       | succ kj35 =>
                        have H := HA.out
                        clear HA
                        simp only [selvedgelaw21_BreaksKnown.j8] at H
                        replace H := Option.bind_eq_some_iff.mp H
                        obtain ⟨t326, A420, H⟩ := H
                        replace H : (if t326 = true then ((selvedgelaw21_BreaksFit.f kj35 x4_35 x3_2 x15_1).bind fun t327 => (if t327 = true then (if x5_3 = 0 then (if x3_2 < 9 then ((selvedgelaw21_BreaksMeasures.f kj35 x4_35 (wrap64 (x3_2 - 3)) (wrap64 ((x4_35.length : Int) - (wrap64 (Int.tdiv x3_2 2))))).bind fun t328 => (if t328 = true then (selvedgelaw21_BreaksKnown.l2 kj35 x15_1 (rdOf ByteArray.empty y315 x15_1) x3_2 x4_35 (wrap64 (x5_3 + 1)) y315 (y315.length : Int) x15_1) else (some false))) else (selvedgelaw21_BreaksKnown.l2 kj35 x15_1 (rdOf ByteArray.empty y315 x15_1) x3_2 x4_35 (wrap64 (x5_3 + 1)) y315 (y315.length : Int) x15_1)) else (selvedgelaw21_BreaksKnown.l2 kj35 x15_1 (rdOf ByteArray.empty y315 x15_1) x3_2 x4_35 (wrap64 (x5_3 + 1)) y315 (y315.length : Int) x15_1)) else (some false))) else (some false)) = some r := H
                        have A42 := Aside0.mk A420
                        clear A420
                        by_cases c43 : t326 = true
                        ·subst c43
                         have H1 : ((selvedgelaw21_BreaksFit.f kj35 x4_35 x3_2 x15_1).bind fun t327 => (if t327 = true then (if x5_3 = 0 then (if x3_2 < 9 then ((selvedgelaw21_BreaksMeasures.f kj35 x4_35 (wrap64 (x3_2 - 3)) (wrap64 ((x4_35.length : Int) - (wrap64 (Int.tdiv x3_2 2))))).bind fun t328 => (if t328 = true then (selvedgelaw21_BreaksKnown.l2 kj35 x15_1 (rdOf ByteArray.empty y315 x15_1) x3_2 x4_35 (wrap64 (x5_3 + 1)) y315 (y315.length : Int) x15_1) else (some false))) else (selvedgelaw21_BreaksKnown.l2 kj35 x15_1 (rdOf ByteArray.empty y315 x15_1) x3_2 x4_35 (wrap64 (x5_3 + 1)) y315 (y315.length : Int) x15_1)) else (selvedgelaw21_BreaksKnown.l2 kj35 x15_1 (rdOf ByteArray.empty y315 x15_1) x3_2 x4_35 (wrap64 (x5_3 + 1)) y315 (y315.length : Int) x15_1)) else (some false))) = some r := by rw [if_pos rfl] at H; exact H
                         clear H
                         have H := H1
                         clear H1
                         replace H := Option.bind_eq_some_iff.mp H
                         obtain ⟨t327, A440, H⟩ := H
                         replace H : (if t327 = true then (if x5_3 = 0 then (if x3_2 < 9 then ((selvedgelaw21_BreaksMeasures.f kj35 x4_35 (wrap64 (x3_2 - 3)) (wrap64 ((x4_35.length : Int) - (wrap64 (Int.tdiv x3_2 2))))).bind fun t328 => (if t328 = true then (selvedgelaw21_BreaksKnown.l2 kj35 x15_1 (rdOf ByteArray.empty y315 x15_1) x3_2 x4_35 (wrap64 (x5_3 + 1)) y315 (y315.length : Int) x15_1) else (some false))) else (selvedgelaw21_BreaksKnown.l2 kj35 x15_1 (rdOf ByteArray.empty y315 x15_1) x3_2 x4_35 (wrap64 (x5_3 + 1)) y315 (y315.length : Int) x15_1)) else (selvedgelaw21_BreaksKnown.l2 kj35 x15_1 (rdOf ByteArray.empty y315 x15_1) x3_2 x4_35 (wrap64 (x5_3 + 1)) y315 (y315.length : Int) x15_1)) else (some false)) = some r := H
                         have A44 := Aside0.mk A440
                         clear A440
                         by_cases c45 : t327 = true
                         ·subst c45
                          have H1 : (if x5_3 = 0 then (if x3_2 < 9 then ((selvedgelaw21_BreaksMeasures.f kj35 x4_35 (wrap64 (x3_2 - 3)) (wrap64 ((x4_35.length : Int) - (wrap64 (Int.tdiv x3_2 2))))).bind fun t328 => (if t328 = true then (selvedgelaw21_BreaksKnown.l2 kj35 x15_1 (rdOf ByteArray.empty y315 x15_1) x3_2 x4_35 (wrap64 (x5_3 + 1)) y315 (y315.length : Int) x15_1) else (some false))) else (selvedgelaw21_BreaksKnown.l2 kj35 x15_1 (rdOf ByteArray.empty y315 x15_1) x3_2 x4_35 (wrap64 (x5_3 + 1)) y315 (y315.length : Int) x15_1)) else (selvedgelaw21_BreaksKnown.l2 kj35 x15_1 (rdOf ByteArray.empty y315 x15_1) x3_2 x4_35 (wrap64 (x5_3 + 1)) y315 (y315.length : Int) x15_1)) = some r := by rw [if_pos rfl] at H; exact H
                          clear H
                          have H := H1
                          clear H1
                          by_cases c46 : x5_3 = 0
                          ·rw [if_pos c46] at H
                           have c46b0 : (x5_3 == 0) = true := beq_iff_eq.mpr c46
                           have c46b1 : (x5_3 != 0) = false := bne_eq_false_iff_eq.mpr c46
                           clear c46
                           by_cases c47 : x3_2 < 9
                           ·rw [if_pos c47] at H
                            have c47b0 : decide (x3_2 < 9) = true := decide_eq_true c47
                            clear c47
                            replace H := Option.bind_eq_some_iff.mp H
                            obtain ⟨t328, A480, H⟩ := H
                            replace H : (if t328 = true then (selvedgelaw21_BreaksKnown.l2 kj35 x15_1 (rdOf ByteArray.empty y315 x15_1) x3_2 x4_35 (wrap64 (x5_3 + 1)) y315 (y315.length : Int) x15_1) else (some false)) = some r := H
                            have A48 := Aside0.mk A480
                            clear A480
                            by_cases c49 : t328 = true
                            ·subst c49
                             have H1 : (selvedgelaw21_BreaksKnown.l2 kj35 x15_1 (rdOf ByteArray.empty y315 x15_1) x3_2 x4_35 (wrap64 (x5_3 + 1)) y315 (y315.length : Int) x15_1) = some r := by rw [if_pos rfl] at H; exact H
                             clear H
                             have H := H1
                             clear H1
                             have H' := Aside0.mk H
                             clear H
                             obtain ⟨Ao50, co50, eo50⟩ := Kd.R_slice HO_4.out
                             subst eo50
                             go_wp2_with (first | ((with_reducible refine gate_callee (f := 7) rfl ?_); refine goesL_ (some 68) rfl rfl Try.func7 (by kernel_rfl) rfl #[.slice Ao50 x4_35.length co50, .int .i64 x3_2] rfl (by (try simp only [List.map_toArray, List.map_cons, List.map_nil]); first | done | rfl | (simp only [List.length_drop, List.length_take]; rfl)) ?_; (with_reducible refine (selvedgelaw21_BreaksLines.calls kj35 _ _ x4_35 x3_2 true _ ?side1 ?side2 A42.out).mono ?_); (case side1 => repeat (first | exact (Kd.R_reads' HO_4.out).2.2 | (with_reducible refine Kd.C_alloc ?_ _) | (with_reducible refine Kd.C_drewN ?_ _) | (with_reducible refine Kd.C_drew ?_))); (case side2 => exact (Kd.R_reads' HO_4.out).2.1); rintro e w51 ⟨rfl, hb⟩; refine ⟨_, rfl, ?_⟩; have n0_ := Aside0.mk (Kd.R_below (mvR HO_4) hb); have n1_ := Aside0.mk (Kd.R_below (mvR HO_13) hb); have n2_ := Aside0.mk (below_step (mvB HB) hb); clear HO_4; clear HO_13; clear HB; have HO_4 := n0_; have HO_13 := n1_; have HB := n2_; clear n0_ n1_ n2_; (try clear hb); (try clear hb2); (try clear hk); (try clear hi)) | (go_at_call 8; (with_reducible refine (selvedgelaw21_BreaksFit.calls kj35 _ _ x4_35 x3_2 x15_1 true _ ?side1 ?side2 A44.out).mono ?_); (case side1 => repeat (first | exact (Kd.R_reads' HO_4.out).2.2 | (with_reducible refine Kd.C_alloc ?_ _) | (with_reducible refine Kd.C_drewN ?_ _) | (with_reducible refine Kd.C_drew ?_))); (case side2 => exact (Kd.R_reads' HO_4.out).2.1); rintro e w52 ⟨rfl, hb⟩; have n0_ := Aside0.mk (Kd.R_below (mvR HO_4) hb); have n1_ := Aside0.mk (Kd.R_below (mvR HO_13) hb); have n2_ := Aside0.mk (below_step (mvB HB) hb); clear HO_4; clear HO_13; clear HB; have HO_4 := n0_; have HO_13 := n1_; have HB := n2_; clear n0_ n1_ n2_; (try clear hb); (try clear hb2); (try clear hk); (try clear hi)) | (go_at_call 3; (with_reducible refine (selvedgelaw21_BreaksMeasures.calls kj35 _ _ x4_35 (wrap64 (x3_2 - 3)) (wrap64 ((x4_35.length : Int) - (wrap64 (Int.tdiv x3_2 2)))) true _ ?side1 ?side2 A48.out).mono ?_); (case side1 => repeat (first | exact (Kd.R_reads' HO_4.out).2.2 | (with_reducible refine Kd.C_alloc ?_ _) | (with_reducible refine Kd.C_drewN ?_ _) | (with_reducible refine Kd.C_drew ?_))); (case side2 => exact (Kd.R_reads' HO_4.out).2.1); rintro e w53 ⟨rfl, hb⟩; have n0_ := Aside0.mk (Kd.R_below (mvR HO_4) hb); have n1_ := Aside0.mk (Kd.R_below (mvR HO_13) hb); have n2_ := Aside0.mk (below_step (mvB HB) hb); clear HO_4; clear HO_13; clear HB; have HO_4 := n0_; have HO_13 := n1_; have HB := n2_; clear n0_ n1_ n2_; (try clear hb); (try clear hb2); (try clear hk); (try clear hi)))
                             go_roundg kj35
                             case measure => have := HK1.out; have := HK2.out; have := HK3.out; have := HJ10.out; have := HJ13.out; have := HJ23.out; have := HJ26.out; have := HJ32.out; have := HJ35.out; omega
                             case rel => exact ⟨(x4_35), (wrap64 (x5_3 + 1)), (by first | rfl | (simp; done) | (simp [*]; done)), H', ⟨by have := HK1.out; have := HK2.out; have := HK3.out; have := HJ10.out; have := HJ13.out; have := HJ23.out; have := HJ26.out; have := HJ32.out; have := HJ35.out; omega⟩, ⟨mvR HO_4⟩, ⟨mvR HO_13⟩, ⟨mvB HB⟩⟩
                            ·replace c49 := Bool.eq_false_iff.mpr c49
                             subst c49
                             have H1 : (some false) = some r := by rw [if_neg (show ¬ (false = true) by decide)] at H; exact H
                             clear H
                             have H := H1
                             clear H1
                             obtain rfl := Option.some.inj H
                             obtain ⟨Ao54, co54, eo54⟩ := Kd.R_slice HO_4.out
                             subst eo54
                             go_wp2_with (first | ((with_reducible refine gate_callee (f := 7) rfl ?_); refine goesL_ (some 68) rfl rfl Try.func7 (by kernel_rfl) rfl #[.slice Ao54 x4_35.length co54, .int .i64 x3_2] rfl (by (try simp only [List.map_toArray, List.map_cons, List.map_nil]); first | done | rfl | (simp only [List.length_drop, List.length_take]; rfl)) ?_; (with_reducible refine (selvedgelaw21_BreaksLines.calls kj35 _ _ x4_35 x3_2 true _ ?side1 ?side2 A42.out).mono ?_); (case side1 => repeat (first | exact (Kd.R_reads' HO_4.out).2.2 | (with_reducible refine Kd.C_alloc ?_ _) | (with_reducible refine Kd.C_drewN ?_ _) | (with_reducible refine Kd.C_drew ?_))); (case side2 => exact (Kd.R_reads' HO_4.out).2.1); rintro e w55 ⟨rfl, hb⟩; refine ⟨_, rfl, ?_⟩; have n0_ := Aside0.mk (Kd.R_below (mvR HO_4) hb); have n1_ := Aside0.mk (Kd.R_below (mvR HO_13) hb); have n2_ := Aside0.mk (below_step (mvB HB) hb); clear HO_4; clear HO_13; clear HB; have HO_4 := n0_; have HO_13 := n1_; have HB := n2_; clear n0_ n1_ n2_; (try clear hb); (try clear hb2); (try clear hk); (try clear hi)) | (go_at_call 8; (with_reducible refine (selvedgelaw21_BreaksFit.calls kj35 _ _ x4_35 x3_2 x15_1 true _ ?side1 ?side2 A44.out).mono ?_); (case side1 => repeat (first | exact (Kd.R_reads' HO_4.out).2.2 | (with_reducible refine Kd.C_alloc ?_ _) | (with_reducible refine Kd.C_drewN ?_ _) | (with_reducible refine Kd.C_drew ?_))); (case side2 => exact (Kd.R_reads' HO_4.out).2.1); rintro e w56 ⟨rfl, hb⟩; have n0_ := Aside0.mk (Kd.R_below (mvR HO_4) hb); have n1_ := Aside0.mk (Kd.R_below (mvR HO_13) hb); have n2_ := Aside0.mk (below_step (mvB HB) hb); clear HO_4; clear HO_13; clear HB; have HO_4 := n0_; have HO_13 := n1_; have HB := n2_; clear n0_ n1_ n2_; (try clear hb); (try clear hb2); (try clear hk); (try clear hi)) | (go_at_call 3; (with_reducible refine (selvedgelaw21_BreaksMeasures.calls kj35 _ _ x4_35 (wrap64 (x3_2 - 3)) (wrap64 ((x4_35.length : Int) - (wrap64 (Int.tdiv x3_2 2)))) false _ ?side1 ?side2 A48.out).mono ?_); (case side1 => repeat (first | exact (Kd.R_reads' HO_4.out).2.2 | (with_reducible refine Kd.C_alloc ?_ _) | (with_reducible refine Kd.C_drewN ?_ _) | (with_reducible refine Kd.C_drew ?_))); (case side2 => exact (Kd.R_reads' HO_4.out).2.1); rintro e w57 ⟨rfl, hb⟩; have n0_ := Aside0.mk (Kd.R_below (mvR HO_4) hb); have n1_ := Aside0.mk (Kd.R_below (mvR HO_13) hb); have n2_ := Aside0.mk (below_step (mvB HB) hb); clear HO_4; clear HO_13; clear HB; have HO_4 := n0_; have HO_13 := n1_; have HB := n2_; clear n0_ n1_ n2_; (try clear hb); (try clear hb2); (try clear hk); (try clear hi)))
                             go_ret
                             exact ⟨by first | rfl | (simp [errW_none, errW_some] <;> rfl) | (simp [*, errW_none, errW_some] <;> rfl), mvB HB⟩
                           ·rw [if_neg c47] at H
                            have c47b0 : decide (x3_2 < 9) = false := decide_eq_false c47
                            clear c47
                            have H' := Aside0.mk H
                            clear H
                            obtain ⟨Ao58, co58, eo58⟩ := Kd.R_slice HO_4.out
                            subst eo58
                            go_wp2_with (first | ((with_reducible refine gate_callee (f := 7) rfl ?_); refine goesL_ (some 68) rfl rfl Try.func7 (by kernel_rfl) rfl #[.slice Ao58 x4_35.length co58, .int .i64 x3_2] rfl (by (try simp only [List.map_toArray, List.map_cons, List.map_nil]); first | done | rfl | (simp only [List.length_drop, List.length_take]; rfl)) ?_; (with_reducible refine (selvedgelaw21_BreaksLines.calls kj35 _ _ x4_35 x3_2 true _ ?side1 ?side2 A42.out).mono ?_); (case side1 => repeat (first | exact (Kd.R_reads' HO_4.out).2.2 | (with_reducible refine Kd.C_alloc ?_ _) | (with_reducible refine Kd.C_drewN ?_ _) | (with_reducible refine Kd.C_drew ?_))); (case side2 => exact (Kd.R_reads' HO_4.out).2.1); rintro e w59 ⟨rfl, hb⟩; refine ⟨_, rfl, ?_⟩; have n0_ := Aside0.mk (Kd.R_below (mvR HO_4) hb); have n1_ := Aside0.mk (Kd.R_below (mvR HO_13) hb); have n2_ := Aside0.mk (below_step (mvB HB) hb); clear HO_4; clear HO_13; clear HB; have HO_4 := n0_; have HO_13 := n1_; have HB := n2_; clear n0_ n1_ n2_; (try clear hb); (try clear hb2); (try clear hk); (try clear hi)) | (go_at_call 8; (with_reducible refine (selvedgelaw21_BreaksFit.calls kj35 _ _ x4_35 x3_2 x15_1 true _ ?side1 ?side2 A44.out).mono ?_); (case side1 => repeat (first | exact (Kd.R_reads' HO_4.out).2.2 | (with_reducible refine Kd.C_alloc ?_ _) | (with_reducible refine Kd.C_drewN ?_ _) | (with_reducible refine Kd.C_drew ?_))); (case side2 => exact (Kd.R_reads' HO_4.out).2.1); rintro e w60 ⟨rfl, hb⟩; have n0_ := Aside0.mk (Kd.R_below (mvR HO_4) hb); have n1_ := Aside0.mk (Kd.R_below (mvR HO_13) hb); have n2_ := Aside0.mk (below_step (mvB HB) hb); clear HO_4; clear HO_13; clear HB; have HO_4 := n0_; have HO_13 := n1_; have HB := n2_; clear n0_ n1_ n2_; (try clear hb); (try clear hb2); (try clear hk); (try clear hi)))
                            go_roundg kj35
                            case measure => have := HK1.out; have := HK2.out; have := HK3.out; have := HJ10.out; have := HJ13.out; have := HJ23.out; have := HJ26.out; have := HJ32.out; have := HJ35.out; omega
                            case rel => exact ⟨(x4_35), (wrap64 (x5_3 + 1)), (by first | rfl | (simp; done) | (simp [*]; done)), H', ⟨by have := HK1.out; have := HK2.out; have := HK3.out; have := HJ10.out; have := HJ13.out; have := HJ23.out; have := HJ26.out; have := HJ32.out; have := HJ35.out; omega⟩, ⟨mvR HO_4⟩, ⟨mvR HO_13⟩, ⟨mvB HB⟩⟩
                          ·rw [if_neg c46] at H
                           have c46b0 : (x5_3 == 0) = false := beq_eq_false_iff_ne.mpr c46
                           have c46b1 : (x5_3 != 0) = true := bne_iff_ne.mpr c46
                           have H' := Aside0.mk H
                           clear H
                           obtain ⟨Ao61, co61, eo61⟩ := Kd.R_slice HO_4.out
                           subst eo61
                           go_wp2_with (first | ((with_reducible refine gate_callee (f := 7) rfl ?_); refine goesL_ (some 68) rfl rfl Try.func7 (by kernel_rfl) rfl #[.slice Ao61 x4_35.length co61, .int .i64 x3_2] rfl (by (try simp only [List.map_toArray, List.map_cons, List.map_nil]); first | done | rfl | (simp only [List.length_drop, List.length_take]; rfl)) ?_; (with_reducible refine (selvedgelaw21_BreaksLines.calls kj35 _ _ x4_35 x3_2 true _ ?side1 ?side2 A42.out).mono ?_); (case side1 => repeat (first | exact (Kd.R_reads' HO_4.out).2.2 | (with_reducible refine Kd.C_alloc ?_ _) | (with_reducible refine Kd.C_drewN ?_ _) | (with_reducible refine Kd.C_drew ?_))); (case side2 => exact (Kd.R_reads' HO_4.out).2.1); rintro e w62 ⟨rfl, hb⟩; refine ⟨_, rfl, ?_⟩; have n0_ := Aside0.mk (Kd.R_below (mvR HO_4) hb); have n1_ := Aside0.mk (Kd.R_below (mvR HO_13) hb); have n2_ := Aside0.mk (below_step (mvB HB) hb); clear HO_4; clear HO_13; clear HB; have HO_4 := n0_; have HO_13 := n1_; have HB := n2_; clear n0_ n1_ n2_; (try clear hb); (try clear hb2); (try clear hk); (try clear hi)) | (go_at_call 8; (with_reducible refine (selvedgelaw21_BreaksFit.calls kj35 _ _ x4_35 x3_2 x15_1 true _ ?side1 ?side2 A44.out).mono ?_); (case side1 => repeat (first | exact (Kd.R_reads' HO_4.out).2.2 | (with_reducible refine Kd.C_alloc ?_ _) | (with_reducible refine Kd.C_drewN ?_ _) | (with_reducible refine Kd.C_drew ?_))); (case side2 => exact (Kd.R_reads' HO_4.out).2.1); rintro e w63 ⟨rfl, hb⟩; have n0_ := Aside0.mk (Kd.R_below (mvR HO_4) hb); have n1_ := Aside0.mk (Kd.R_below (mvR HO_13) hb); have n2_ := Aside0.mk (below_step (mvB HB) hb); clear HO_4; clear HO_13; clear HB; have HO_4 := n0_; have HO_13 := n1_; have HB := n2_; clear n0_ n1_ n2_; (try clear hb); (try clear hb2); (try clear hk); (try clear hi)))
                           go_roundg kj35
                           case measure => have := HK1.out; have := HK2.out; have := HK3.out; have := HJ10.out; have := HJ13.out; have := HJ23.out; have := HJ26.out; have := HJ32.out; have := HJ35.out; omega
                           case rel => exact ⟨(x4_35), (wrap64 (x5_3 + 1)), (by first | rfl | (simp; done) | (simp [*]; done)), H', ⟨by have := HK1.out; have := HK2.out; have := HK3.out; have := HJ10.out; have := HJ13.out; have := HJ23.out; have := HJ26.out; have := HJ32.out; have := HJ35.out; omega⟩, ⟨mvR HO_4⟩, ⟨mvR HO_13⟩, ⟨mvB HB⟩⟩
                         ·replace c45 := Bool.eq_false_iff.mpr c45
                          subst c45
                          have H1 : (some false) = some r := by rw [if_neg (show ¬ (false = true) by decide)] at H; exact H
                          clear H
                          have H := H1
                          clear H1
                          obtain rfl := Option.some.inj H
                          obtain ⟨Ao64, co64, eo64⟩ := Kd.R_slice HO_4.out
                          subst eo64
                          go_wp2_with (first | ((with_reducible refine gate_callee (f := 7) rfl ?_); refine goesL_ (some 68) rfl rfl Try.func7 (by kernel_rfl) rfl #[.slice Ao64 x4_35.length co64, .int .i64 x3_2] rfl (by (try simp only [List.map_toArray, List.map_cons, List.map_nil]); first | done | rfl | (simp only [List.length_drop, List.length_take]; rfl)) ?_; (with_reducible refine (selvedgelaw21_BreaksLines.calls kj35 _ _ x4_35 x3_2 true _ ?side1 ?side2 A42.out).mono ?_); (case side1 => repeat (first | exact (Kd.R_reads' HO_4.out).2.2 | (with_reducible refine Kd.C_alloc ?_ _) | (with_reducible refine Kd.C_drewN ?_ _) | (with_reducible refine Kd.C_drew ?_))); (case side2 => exact (Kd.R_reads' HO_4.out).2.1); rintro e w65 ⟨rfl, hb⟩; refine ⟨_, rfl, ?_⟩; have n0_ := Aside0.mk (Kd.R_below (mvR HO_4) hb); have n1_ := Aside0.mk (Kd.R_below (mvR HO_13) hb); have n2_ := Aside0.mk (below_step (mvB HB) hb); clear HO_4; clear HO_13; clear HB; have HO_4 := n0_; have HO_13 := n1_; have HB := n2_; clear n0_ n1_ n2_; (try clear hb); (try clear hb2); (try clear hk); (try clear hi)) | (go_at_call 8; (with_reducible refine (selvedgelaw21_BreaksFit.calls kj35 _ _ x4_35 x3_2 x15_1 false _ ?side1 ?side2 A44.out).mono ?_); (case side1 => repeat (first | exact (Kd.R_reads' HO_4.out).2.2 | (with_reducible refine Kd.C_alloc ?_ _) | (with_reducible refine Kd.C_drewN ?_ _) | (with_reducible refine Kd.C_drew ?_))); (case side2 => exact (Kd.R_reads' HO_4.out).2.1); rintro e w66 ⟨rfl, hb⟩; have n0_ := Aside0.mk (Kd.R_below (mvR HO_4) hb); have n1_ := Aside0.mk (Kd.R_below (mvR HO_13) hb); have n2_ := Aside0.mk (below_step (mvB HB) hb); clear HO_4; clear HO_13; clear HB; have HO_4 := n0_; have HO_13 := n1_; have HB := n2_; clear n0_ n1_ n2_; (try clear hb); (try clear hb2); (try clear hk); (try clear hi)))
                          go_ret
                          exact ⟨by first | rfl | (simp [errW_none, errW_some] <;> rfl) | (simp [*, errW_none, errW_some] <;> rfl), mvB HB⟩
                        ·replace c43 := Bool.eq_false_iff.mpr c43
                         subst c43
                         have H1 : (some false) = some r := by rw [if_neg (show ¬ (false = true) by decide)] at H; exact H
                         clear H
                         have H := H1
                         clear H1
                         obtain rfl := Option.some.inj H
                         obtain ⟨Ao67, co67, eo67⟩ := Kd.R_slice HO_4.out
                         subst eo67
                         go_wp2_with (first | ((with_reducible refine gate_callee (f := 7) rfl ?_); refine goesL_ (some 68) rfl rfl Try.func7 (by kernel_rfl) rfl #[.slice Ao67 x4_35.length co67, .int .i64 x3_2] rfl (by (try simp only [List.map_toArray, List.map_cons, List.map_nil]); first | done | rfl | (simp only [List.length_drop, List.length_take]; rfl)) ?_; (with_reducible refine (selvedgelaw21_BreaksLines.calls kj35 _ _ x4_35 x3_2 false _ ?side1 ?side2 A42.out).mono ?_); (case side1 => repeat (first | exact (Kd.R_reads' HO_4.out).2.2 | (with_reducible refine Kd.C_alloc ?_ _) | (with_reducible refine Kd.C_drewN ?_ _) | (with_reducible refine Kd.C_drew ?_))); (case side2 => exact (Kd.R_reads' HO_4.out).2.1); rintro e w68 ⟨rfl, hb⟩; refine ⟨_, rfl, ?_⟩; have n0_ := Aside0.mk (Kd.R_below (mvR HO_4) hb); have n1_ := Aside0.mk (Kd.R_below (mvR HO_13) hb); have n2_ := Aside0.mk (below_step (mvB HB) hb); clear HO_4; clear HO_13; clear HB; have HO_4 := n0_; have HO_13 := n1_; have HB := n2_; clear n0_ n1_ n2_; (try clear hb); (try clear hb2); (try clear hk); (try clear hi)))
                         go_ret
                         exact ⟨by first | rfl | (simp [errW_none, errW_some] <;> rfl) | (simp [*, errW_none, errW_some] <;> rfl), mvB HB⟩
           ·rw [if_neg c10] at H
            have c10b0 : decide (x5_3 < 4) = false := decide_eq_false c10
            clear c10
            have H' := Aside0.mk H
            clear H
            go_wp2
            go_roundg k3
            case measure => have := HK1.out; have := HK2.out; have := HK3.out; omega
            case rel => exact ⟨(wrap64 ((wrap64 (x3_2 + 1)) + (wrap64 (Int.tdiv x3_2 12)))), (by first | rfl | (simp; done) | (simp [*]; done)), H', ⟨by have := HK1.out; have := HK2.out; have := HK3.out; omega⟩, ⟨mvR HO_13⟩, ⟨mvB HB⟩⟩
        ·rw [if_neg c7] at H
         have c7b0 : decide (x3_2 ≤ 90) = false := decide_eq_false c7
         clear c7
         have H' := Aside0.mk H
         clear H
         go_wp2
         go_roundg k2
         case measure => have := HK1.out; have := HK2.out; omega
         case rel => exact ⟨(wrap64 (x15_1 + 1)), (by first | rfl | (simp; done) | (simp [*]; done)), H', ⟨by have := HK1.out; have := HK2.out; omega⟩, ⟨mvR HO_13⟩, ⟨mvB HB⟩⟩
     ·rw [if_neg c6] at H
      exact absurd H (by simp)
    ·rw [if_neg c5] at H
     exact absurd H (by simp)
   ·rw [if_neg c4] at H
    have c4b0 : decide (x15_1 < (y315.length : Int)) = false := decide_eq_false c4
    clear c4
    have H' := Aside0.mk H
    clear H
    go_wp2
    go_loopg [6] k1 (fun kq v6 w' => ∃ (x6_2 : Int), v6 = .int .i64 x6_2 ∧ Aside0 (selvedgelaw21_BreaksKnown.l3 kq x6_2 = some r) ∧ Aside0 (kq ≤ k1) ∧ Aside0 (Below w.heap.size w w'))
    case atStart => exact ⟨(0), (by first | rfl | (simp; done) | (simp [*]; done)), H', ⟨Nat.le_refl _⟩, ⟨mvB HB⟩⟩
    case round =>
     clear H'
     try clear c1
     try clear p1
     try clear q1
     try clear hx1
     try clear qi1
     try clear hf1
     try clear c2
     try clear p2
     try clear hx2
     try clear hf2
     try clear c3
     try clear p3
     try clear q3
     try clear hx3
     try clear qi3
     try clear hf3
     try clear c4
     try clear c4b0
     try clear hx4
     try clear hf4
     try clear c5
     try clear c5b0
     try clear c6
     try clear c6b0
     try clear p6
     try clear c7
     try clear c7b0
     try clear c9
     try clear c10
     try clear c10b0
     try clear c12
     try clear c12b0
     try clear c12b1
     try clear c15
     try clear c16
     try clear c16b0
     try clear c16b1
     try clear c17
     try clear p17
     try clear q17
     try clear hx17
     try clear qi17
     try clear hf17
     try clear c18
     try clear c18b0
     try clear c18b1
     try clear c19
     try clear p19
     try clear q19
     try clear hx19
     try clear qi19
     try clear hf19
     try clear c20
     try clear hx20
     try clear hf20
     try clear c22
     try clear hx22
     try clear hf22
     try clear c25
     try clear c25b0
     try clear c25b1
     try clear c28
     try clear c29
     try clear c29b0
     try clear c29b1
     try clear c30
     try clear p30
     try clear q30
     try clear hx30
     try clear qi30
     try clear hf30
     try clear c31
     try clear p31
     try clear q31
     try clear hx31
     try clear hf31
     try clear c34
     try clear c34b0
     try clear c34b1
     try clear c37
     try clear c38
     try clear c38b0
     try clear c38b1
     try clear c39
     try clear p39
     try clear q39
     try clear hx39
     try clear qi39
     try clear hf39
     try clear c40
     try clear hx40
     try clear hf40
     try clear c43
     try clear c45
     try clear c46
     try clear c46b0
     try clear c46b1
     try clear c47
     try clear c47b0
     try clear c49
     try clear p64
     try clear hx17_0
     try clear hx17_1
     try clear hx17_2
     try clear hx17_3
     try clear hx19_0
     try clear hx19_1
     try clear hx19_2
     try clear hx19_3
     try clear hx20_2
     try clear hx22_3
     try clear hx30_0
     try clear hx30_1
     try clear hx30_2
     try clear hx30_3
     try clear hx318_0
     try clear hx31_1
     try clear hx39_0
     try clear hx39_1
     try clear hx39_2
     try clear hx39_3
     try clear hx40_0
     try clear hx40_1
     try clear hx40_2
     try clear hx40_3
     try clear p1
     try clear p17
     try clear p19
     try clear p2
     try clear p3
     try clear p30
     try clear p31
     try clear p318
     try clear p39
     try clear q1
     try clear q17
     try clear q19
     try clear q3
     try clear q30
     try clear q31
     try clear q318
     try clear q39
     obtain ⟨x6_2, rfl, HA, HK2, HB⟩ := hrel
     cases gk with
     | zero => exact absurd HA.out (by simp [selvedgelaw21_BreaksKnown.l3])
     | succ k2 =>
      have H := HA.out
      clear HA
      simp only [selvedgelaw21_BreaksKnown.l3] at H
      by_cases c69 : x6_2 < 12
      ·rw [if_pos c69] at H
       have c69b0 : decide (x6_2 < 12) = true := decide_eq_true c69
       clear c69
       have HC70 := Aside0.mk H
       clear H
       go_upto_block 8 with (first | ((with_reducible refine gate_dst (N := 7) rfl ?_); (try (refine gate_guard (by rfl) ?_; dsimp only)); refine box_event ?hg (N := 7) ?hd (cs := #[.int .i32 0, .int .i64 0, .int .i64 0, .int .i64 0]) (t := 36) ?hr ?_; (case hd => rfl); (case hg => rfl); (case hr => first | (go_simp; done) | (go_simp; rfl)); intro gb329 hg w71 hbox hb; have n0_ := Aside0.mk (below_step (mvB HB) hb); have n1_ := Aside0.mk (hbox); have n2_ := Aside0.mk ((by rw [hg]; exact (below_size (mvB HB)) : w.heap.size ≤ gb329)); have n3_ := Aside0.mk ((by rw [hg]; exact (below_size (mvB HB)) : w.heap.size ≤ gb329)); clear HB; have HB := n0_; have BK329 := n1_; have GW329 := n2_; have GE329 := n3_; clear n0_ n1_ n2_ n3_; clear hb hbox hg; have hcz72_0 : w71.cell? ⟨gb329, 0, none⟩ = some (.int .i32 0) := (blk_cell BK329.out 0).trans rfl; have hcz72_1 : w71.cell? ⟨gb329, 1, none⟩ = some (.int .i64 0) := (blk_cell BK329.out 1).trans rfl; have hcz72_2 : w71.cell? ⟨gb329, 2, none⟩ = some (.int .i64 0) := (blk_cell BK329.out 2).trans rfl; have hcz72_3 : w71.cell? ⟨gb329, 3, none⟩ = some (.int .i64 0) := (blk_cell BK329.out 3).trans rfl; have hfz72_0 := blk_frozen BK329.out 0; have hfz72_1 := blk_frozen BK329.out 1; have hfz72_2 := blk_frozen BK329.out 2; have hfz72_3 := blk_frozen BK329.out 3))
       (try simp only [Act.put, List.setIfInBounds_toArray, List.set_cons_zero, List.set_cons_succ])
       go_cut [8] (fun v8 wc => ∃ (kq : Nat) (x8_69 : Int) (x330001_69 : Int) (x330002_69 : Int) (x330003_69 : Int), v8 = .int .i64 x8_69 ∧ Aside0 (selvedgelaw21_BreaksKnown.j10 kq x6_2 x8_69 97 x330001_69 x330002_69 x330003_69 = some r) ∧ Aside0 (kq ≤ k2) ∧ Aside0 (wc.heap[gb329]? = some (.cells #[.int .i32 97, .int .i64 x330001_69, .int .i64 x330002_69, .int .i64 x330003_69] 36 (0, 0))) ∧ Aside0 (Below w.heap.size w wc))
       case first =>
        have H := HC70.out
        clear HC70
        by_cases c73 : x6_2 = 0
        ·rw [if_pos c73] at H
         have c73b0 : (x6_2 == 0) = true := beq_iff_eq.mpr c73
         have c73b1 : (x6_2 != 0) = false := bne_eq_false_iff_eq.mpr c73
         clear c73
         (first | rw [c73b0] | (simp only [i64_w, i32_w]; rw [c73b0]) | skip)
         have H' := Aside0.mk H
         clear H
         have hcz74_0 : w71.cell? ⟨gb329, 0, none⟩ = some (.int .i32 0) := (blk_cell BK329.out 0).trans rfl
         have hcz74_1 : w71.cell? ⟨gb329, 1, none⟩ = some (.int .i64 0) := (blk_cell BK329.out 1).trans rfl
         have hcz74_2 : w71.cell? ⟨gb329, 2, none⟩ = some (.int .i64 0) := (blk_cell BK329.out 2).trans rfl
         have hcz74_3 : w71.cell? ⟨gb329, 3, none⟩ = some (.int .i64 0) := (blk_cell BK329.out 3).trans rfl
         have hfz74_0 := blk_frozen BK329.out 0
         have hfz74_1 := blk_frozen BK329.out 1
         have hfz74_2 := blk_frozen BK329.out 2
         have hfz74_3 := blk_frozen BK329.out 3
         go_wp2
         go_meet
         case rel => exact ⟨_, (5), ((-1)), (0), (0), (by first | rfl | (simp; done) | (simp [*]; done)), H', ⟨by have := HK1.out; have := HK2.out; first | omega | exact Nat.le_refl _⟩, ⟨by (with_reducible repeat (first | refine blk_drewN ?_ _ | refine blk_drew ?_ | refine blk_alloc ?_ _)); refine blk_put (cs := #[.int .i32 97, .int .i64 1, .int .i64 0, .int .i64 0]) ?_ 1 _ rfl; (with_reducible repeat (first | refine blk_drewN ?_ _ | refine blk_drew ?_ | refine blk_alloc ?_ _)); refine blk_put (cs := #[.int .i32 97, .int .i64 1, .int .i64 0, .int .i64 0]) ?_ 3 _ rfl; (with_reducible repeat (first | refine blk_drewN ?_ _ | refine blk_drew ?_ | refine blk_alloc ?_ _)); refine blk_put (cs := #[.int .i32 97, .int .i64 1, .int .i64 0, .int .i64 0]) ?_ 2 _ rfl; (with_reducible repeat (first | refine blk_drewN ?_ _ | refine blk_drew ?_ | refine blk_alloc ?_ _)); refine blk_put (cs := #[.int .i32 97, .int .i64 0, .int .i64 0, .int .i64 0]) ?_ 1 _ rfl; (with_reducible repeat (first | refine blk_drewN ?_ _ | refine blk_drew ?_ | refine blk_alloc ?_ _)); refine blk_put (cs := #[.int .i32 0, .int .i64 0, .int .i64 0, .int .i64 0]) ?_ 0 _ rfl; (with_reducible repeat (first | refine blk_drewN ?_ _ | refine blk_drew ?_ | refine blk_alloc ?_ _)); exact BK329.out⟩, ⟨by repeat (first | (with_reducible first | exact HB.out | apply below_alloc | apply pw_below_drewN | apply below_drew1 | refine below_set ?_ GE329.out) | exact HB.out)⟩⟩
        ·rw [if_neg c73] at H
         have c73b0 : (x6_2 == 0) = false := beq_eq_false_iff_ne.mpr c73
         have c73b1 : (x6_2 != 0) = true := bne_iff_ne.mpr c73
         (first | rw [c73b0] | (simp only [i64_w, i32_w]; rw [c73b0]) | skip)
         by_cases c75 : x6_2 = 1
         ·rw [if_pos c75] at H
          have c75b0 : (x6_2 == 1) = true := beq_iff_eq.mpr c75
          have c75b1 : (x6_2 != 1) = false := bne_eq_false_iff_eq.mpr c75
          clear c75
          have H' := Aside0.mk H
          clear H
          have hcz76_0 : w71.cell? ⟨gb329, 0, none⟩ = some (.int .i32 0) := (blk_cell BK329.out 0).trans rfl
          have hcz76_1 : w71.cell? ⟨gb329, 1, none⟩ = some (.int .i64 0) := (blk_cell BK329.out 1).trans rfl
          have hcz76_2 : w71.cell? ⟨gb329, 2, none⟩ = some (.int .i64 0) := (blk_cell BK329.out 2).trans rfl
          have hcz76_3 : w71.cell? ⟨gb329, 3, none⟩ = some (.int .i64 0) := (blk_cell BK329.out 3).trans rfl
          have hfz76_0 := blk_frozen BK329.out 0
          have hfz76_1 := blk_frozen BK329.out 1
          have hfz76_2 := blk_frozen BK329.out 2
          have hfz76_3 := blk_frozen BK329.out 3
          go_wp2
          go_meet
          case rel => exact ⟨_, (5), (4097), (0), (0), (by first | rfl | (simp; done) | (simp [*]; done)), H', ⟨by have := HK1.out; have := HK2.out; first | omega | exact Nat.le_refl _⟩, ⟨by (with_reducible repeat (first | refine blk_drewN ?_ _ | refine blk_drew ?_ | refine blk_alloc ?_ _)); refine blk_put (cs := #[.int .i32 97, .int .i64 1, .int .i64 0, .int .i64 0]) ?_ 1 _ rfl; (with_reducible repeat (first | refine blk_drewN ?_ _ | refine blk_drew ?_ | refine blk_alloc ?_ _)); refine blk_put (cs := #[.int .i32 97, .int .i64 1, .int .i64 0, .int .i64 0]) ?_ 3 _ rfl; (with_reducible repeat (first | refine blk_drewN ?_ _ | refine blk_drew ?_ | refine blk_alloc ?_ _)); refine blk_put (cs := #[.int .i32 97, .int .i64 1, .int .i64 0, .int .i64 0]) ?_ 2 _ rfl; (with_reducible repeat (first | refine blk_drewN ?_ _ | refine blk_drew ?_ | refine blk_alloc ?_ _)); refine blk_put (cs := #[.int .i32 97, .int .i64 0, .int .i64 0, .int .i64 0]) ?_ 1 _ rfl; (with_reducible repeat (first | refine blk_drewN ?_ _ | refine blk_drew ?_ | refine blk_alloc ?_ _)); refine blk_put (cs := #[.int .i32 0, .int .i64 0, .int .i64 0, .int .i64 0]) ?_ 0 _ rfl; (with_reducible repeat (first | refine blk_drewN ?_ _ | refine blk_drew ?_ | refine blk_alloc ?_ _)); exact BK329.out⟩, ⟨by repeat (first | (with_reducible first | exact HB.out | apply below_alloc | apply pw_below_drewN | apply below_drew1 | refine below_set ?_ GE329.out) | exact HB.out)⟩⟩
         ·rw [if_neg c75] at H
          have c75b0 : (x6_2 == 1) = false := beq_eq_false_iff_ne.mpr c75
          have c75b1 : (x6_2 != 1) = true := bne_iff_ne.mpr c75
          by_cases c77 : x6_2 = 2
          ·rw [if_pos c77] at H
           have c77b0 : (x6_2 == 2) = true := beq_iff_eq.mpr c77
           have c77b1 : (x6_2 != 2) = false := bne_eq_false_iff_eq.mpr c77
           clear c77
           have H' := Aside0.mk H
           clear H
           have hcz78_0 : w71.cell? ⟨gb329, 0, none⟩ = some (.int .i32 0) := (blk_cell BK329.out 0).trans rfl
           have hcz78_1 : w71.cell? ⟨gb329, 1, none⟩ = some (.int .i64 0) := (blk_cell BK329.out 1).trans rfl
           have hcz78_2 : w71.cell? ⟨gb329, 2, none⟩ = some (.int .i64 0) := (blk_cell BK329.out 2).trans rfl
           have hcz78_3 : w71.cell? ⟨gb329, 3, none⟩ = some (.int .i64 0) := (blk_cell BK329.out 3).trans rfl
           have hfz78_0 := blk_frozen BK329.out 0
           have hfz78_1 := blk_frozen BK329.out 1
           have hfz78_2 := blk_frozen BK329.out 2
           have hfz78_3 := blk_frozen BK329.out 3
           go_wp2
           go_meet
           case rel => exact ⟨_, (5), (4096), (0), (0), (by first | rfl | (simp; done) | (simp [*]; done)), H', ⟨by have := HK1.out; have := HK2.out; first | omega | exact Nat.le_refl _⟩, ⟨by (with_reducible repeat (first | refine blk_drewN ?_ _ | refine blk_drew ?_ | refine blk_alloc ?_ _)); refine blk_put (cs := #[.int .i32 97, .int .i64 1, .int .i64 0, .int .i64 0]) ?_ 1 _ rfl; (with_reducible repeat (first | refine blk_drewN ?_ _ | refine blk_drew ?_ | refine blk_alloc ?_ _)); refine blk_put (cs := #[.int .i32 97, .int .i64 1, .int .i64 0, .int .i64 0]) ?_ 3 _ rfl; (with_reducible repeat (first | refine blk_drewN ?_ _ | refine blk_drew ?_ | refine blk_alloc ?_ _)); refine blk_put (cs := #[.int .i32 97, .int .i64 1, .int .i64 0, .int .i64 0]) ?_ 2 _ rfl; (with_reducible repeat (first | refine blk_drewN ?_ _ | refine blk_drew ?_ | refine blk_alloc ?_ _)); refine blk_put (cs := #[.int .i32 97, .int .i64 0, .int .i64 0, .int .i64 0]) ?_ 1 _ rfl; (with_reducible repeat (first | refine blk_drewN ?_ _ | refine blk_drew ?_ | refine blk_alloc ?_ _)); refine blk_put (cs := #[.int .i32 0, .int .i64 0, .int .i64 0, .int .i64 0]) ?_ 0 _ rfl; (with_reducible repeat (first | refine blk_drewN ?_ _ | refine blk_drew ?_ | refine blk_alloc ?_ _)); exact BK329.out⟩, ⟨by repeat (first | (with_reducible first | exact HB.out | apply below_alloc | apply pw_below_drewN | apply below_drew1 | refine below_set ?_ GE329.out) | exact HB.out)⟩⟩
          ·rw [if_neg c77] at H
           have c77b0 : (x6_2 == 2) = false := beq_eq_false_iff_ne.mpr c77
           have c77b1 : (x6_2 != 2) = true := bne_iff_ne.mpr c77
           by_cases c79 : x6_2 = 3
           ·rw [if_pos c79] at H
            have c79b0 : (x6_2 == 3) = true := beq_iff_eq.mpr c79
            have c79b1 : (x6_2 != 3) = false := bne_eq_false_iff_eq.mpr c79
            clear c79
            have H' := Aside0.mk H
            clear H
            have hcz80_0 : w71.cell? ⟨gb329, 0, none⟩ = some (.int .i32 0) := (blk_cell BK329.out 0).trans rfl
            have hcz80_1 : w71.cell? ⟨gb329, 1, none⟩ = some (.int .i64 0) := (blk_cell BK329.out 1).trans rfl
            have hcz80_2 : w71.cell? ⟨gb329, 2, none⟩ = some (.int .i64 0) := (blk_cell BK329.out 2).trans rfl
            have hcz80_3 : w71.cell? ⟨gb329, 3, none⟩ = some (.int .i64 0) := (blk_cell BK329.out 3).trans rfl
            have hfz80_0 := blk_frozen BK329.out 0
            have hfz80_1 := blk_frozen BK329.out 1
            have hfz80_2 := blk_frozen BK329.out 2
            have hfz80_3 := blk_frozen BK329.out 3
            go_wp2
            go_meet
            case rel => exact ⟨_, (5), (1), ((-1)), (0), (by first | rfl | (simp; done) | (simp [*]; done)), H', ⟨by have := HK1.out; have := HK2.out; first | omega | exact Nat.le_refl _⟩, ⟨by (with_reducible repeat (first | refine blk_drewN ?_ _ | refine blk_drew ?_ | refine blk_alloc ?_ _)); refine blk_put (cs := #[.int .i32 97, .int .i64 1, .int .i64 0, .int .i64 0]) ?_ 2 _ rfl; (with_reducible repeat (first | refine blk_drewN ?_ _ | refine blk_drew ?_ | refine blk_alloc ?_ _)); refine blk_put (cs := #[.int .i32 97, .int .i64 1, .int .i64 0, .int .i64 0]) ?_ 3 _ rfl; (with_reducible repeat (first | refine blk_drewN ?_ _ | refine blk_drew ?_ | refine blk_alloc ?_ _)); refine blk_put (cs := #[.int .i32 97, .int .i64 1, .int .i64 0, .int .i64 0]) ?_ 2 _ rfl; (with_reducible repeat (first | refine blk_drewN ?_ _ | refine blk_drew ?_ | refine blk_alloc ?_ _)); refine blk_put (cs := #[.int .i32 97, .int .i64 0, .int .i64 0, .int .i64 0]) ?_ 1 _ rfl; (with_reducible repeat (first | refine blk_drewN ?_ _ | refine blk_drew ?_ | refine blk_alloc ?_ _)); refine blk_put (cs := #[.int .i32 0, .int .i64 0, .int .i64 0, .int .i64 0]) ?_ 0 _ rfl; (with_reducible repeat (first | refine blk_drewN ?_ _ | refine blk_drew ?_ | refine blk_alloc ?_ _)); exact BK329.out⟩, ⟨by repeat (first | (with_reducible first | exact HB.out | apply below_alloc | apply pw_below_drewN | apply below_drew1 | refine below_set ?_ GE329.out) | exact HB.out)⟩⟩
           ·rw [if_neg c79] at H
            have c79b0 : (x6_2 == 3) = false := beq_eq_false_iff_ne.mpr c79
            have c79b1 : (x6_2 != 3) = true := bne_iff_ne.mpr c79
            by_cases c81 : x6_2 = 4
            ·rw [if_pos c81] at H
             have c81b0 : (x6_2 == 4) = true := beq_iff_eq.mpr c81
             have c81b1 : (x6_2 != 4) = false := bne_eq_false_iff_eq.mpr c81
             clear c81
             have H' := Aside0.mk H
             clear H
             have hcz82_0 : w71.cell? ⟨gb329, 0, none⟩ = some (.int .i32 0) := (blk_cell BK329.out 0).trans rfl
             have hcz82_1 : w71.cell? ⟨gb329, 1, none⟩ = some (.int .i64 0) := (blk_cell BK329.out 1).trans rfl
             have hcz82_2 : w71.cell? ⟨gb329, 2, none⟩ = some (.int .i64 0) := (blk_cell BK329.out 2).trans rfl
             have hcz82_3 : w71.cell? ⟨gb329, 3, none⟩ = some (.int .i64 0) := (blk_cell BK329.out 3).trans rfl
             have hfz82_0 := blk_frozen BK329.out 0
             have hfz82_1 := blk_frozen BK329.out 1
             have hfz82_2 := blk_frozen BK329.out 2
             have hfz82_3 := blk_frozen BK329.out 3
             go_wp2
             go_meet
             case rel => exact ⟨_, (5), (1), (16777217), (0), (by first | rfl | (simp; done) | (simp [*]; done)), H', ⟨by have := HK1.out; have := HK2.out; first | omega | exact Nat.le_refl _⟩, ⟨by (with_reducible repeat (first | refine blk_drewN ?_ _ | refine blk_drew ?_ | refine blk_alloc ?_ _)); refine blk_put (cs := #[.int .i32 97, .int .i64 1, .int .i64 0, .int .i64 0]) ?_ 2 _ rfl; (with_reducible repeat (first | refine blk_drewN ?_ _ | refine blk_drew ?_ | refine blk_alloc ?_ _)); refine blk_put (cs := #[.int .i32 97, .int .i64 1, .int .i64 0, .int .i64 0]) ?_ 3 _ rfl; (with_reducible repeat (first | refine blk_drewN ?_ _ | refine blk_drew ?_ | refine blk_alloc ?_ _)); refine blk_put (cs := #[.int .i32 97, .int .i64 1, .int .i64 0, .int .i64 0]) ?_ 2 _ rfl; (with_reducible repeat (first | refine blk_drewN ?_ _ | refine blk_drew ?_ | refine blk_alloc ?_ _)); refine blk_put (cs := #[.int .i32 97, .int .i64 0, .int .i64 0, .int .i64 0]) ?_ 1 _ rfl; (with_reducible repeat (first | refine blk_drewN ?_ _ | refine blk_drew ?_ | refine blk_alloc ?_ _)); refine blk_put (cs := #[.int .i32 0, .int .i64 0, .int .i64 0, .int .i64 0]) ?_ 0 _ rfl; (with_reducible repeat (first | refine blk_drewN ?_ _ | refine blk_drew ?_ | refine blk_alloc ?_ _)); exact BK329.out⟩, ⟨by repeat (first | (with_reducible first | exact HB.out | apply below_alloc | apply pw_below_drewN | apply below_drew1 | refine below_set ?_ GE329.out) | exact HB.out)⟩⟩
            ·rw [if_neg c81] at H
             have c81b0 : (x6_2 == 4) = false := beq_eq_false_iff_ne.mpr c81
             have c81b1 : (x6_2 != 4) = true := bne_iff_ne.mpr c81
             by_cases c83 : x6_2 = 5
             ·rw [if_pos c83] at H
              have c83b0 : (x6_2 == 5) = true := beq_iff_eq.mpr c83
              have c83b1 : (x6_2 != 5) = false := bne_eq_false_iff_eq.mpr c83
              clear c83
              have H' := Aside0.mk H
              clear H
              have hcz84_0 : w71.cell? ⟨gb329, 0, none⟩ = some (.int .i32 0) := (blk_cell BK329.out 0).trans rfl
              have hcz84_1 : w71.cell? ⟨gb329, 1, none⟩ = some (.int .i64 0) := (blk_cell BK329.out 1).trans rfl
              have hcz84_2 : w71.cell? ⟨gb329, 2, none⟩ = some (.int .i64 0) := (blk_cell BK329.out 2).trans rfl
              have hcz84_3 : w71.cell? ⟨gb329, 3, none⟩ = some (.int .i64 0) := (blk_cell BK329.out 3).trans rfl
              have hfz84_0 := blk_frozen BK329.out 0
              have hfz84_1 := blk_frozen BK329.out 1
              have hfz84_2 := blk_frozen BK329.out 2
              have hfz84_3 := blk_frozen BK329.out 3
              go_wp2
              go_meet
              case rel => exact ⟨_, (5), (1), (0), ((-1)), (by first | rfl | (simp; done) | (simp [*]; done)), H', ⟨by have := HK1.out; have := HK2.out; first | omega | exact Nat.le_refl _⟩, ⟨by (with_reducible repeat (first | refine blk_drewN ?_ _ | refine blk_drew ?_ | refine blk_alloc ?_ _)); refine blk_put (cs := #[.int .i32 97, .int .i64 1, .int .i64 0, .int .i64 0]) ?_ 3 _ rfl; (with_reducible repeat (first | refine blk_drewN ?_ _ | refine blk_drew ?_ | refine blk_alloc ?_ _)); refine blk_put (cs := #[.int .i32 97, .int .i64 1, .int .i64 0, .int .i64 0]) ?_ 3 _ rfl; (with_reducible repeat (first | refine blk_drewN ?_ _ | refine blk_drew ?_ | refine blk_alloc ?_ _)); refine blk_put (cs := #[.int .i32 97, .int .i64 1, .int .i64 0, .int .i64 0]) ?_ 2 _ rfl; (with_reducible repeat (first | refine blk_drewN ?_ _ | refine blk_drew ?_ | refine blk_alloc ?_ _)); refine blk_put (cs := #[.int .i32 97, .int .i64 0, .int .i64 0, .int .i64 0]) ?_ 1 _ rfl; (with_reducible repeat (first | refine blk_drewN ?_ _ | refine blk_drew ?_ | refine blk_alloc ?_ _)); refine blk_put (cs := #[.int .i32 0, .int .i64 0, .int .i64 0, .int .i64 0]) ?_ 0 _ rfl; (with_reducible repeat (first | refine blk_drewN ?_ _ | refine blk_drew ?_ | refine blk_alloc ?_ _)); exact BK329.out⟩, ⟨by repeat (first | (with_reducible first | exact HB.out | apply below_alloc | apply pw_below_drewN | apply below_drew1 | refine below_set ?_ GE329.out) | exact HB.out)⟩⟩
             ·rw [if_neg c83] at H
              have c83b0 : (x6_2 == 5) = false := beq_eq_false_iff_ne.mpr c83
              have c83b1 : (x6_2 != 5) = true := bne_iff_ne.mpr c83
              by_cases c85 : x6_2 = 6
              ·rw [if_pos c85] at H
               have c85b0 : (x6_2 == 6) = true := beq_iff_eq.mpr c85
               have c85b1 : (x6_2 != 6) = false := bne_eq_false_iff_eq.mpr c85
               clear c85
               have H' := Aside0.mk H
               clear H
               have hcz86_0 : w71.cell? ⟨gb329, 0, none⟩ = some (.int .i32 0) := (blk_cell BK329.out 0).trans rfl
               have hcz86_1 : w71.cell? ⟨gb329, 1, none⟩ = some (.int .i64 0) := (blk_cell BK329.out 1).trans rfl
               have hcz86_2 : w71.cell? ⟨gb329, 2, none⟩ = some (.int .i64 0) := (blk_cell BK329.out 2).trans rfl
               have hcz86_3 : w71.cell? ⟨gb329, 3, none⟩ = some (.int .i64 0) := (blk_cell BK329.out 3).trans rfl
               have hfz86_0 := blk_frozen BK329.out 0
               have hfz86_1 := blk_frozen BK329.out 1
               have hfz86_2 := blk_frozen BK329.out 2
               have hfz86_3 := blk_frozen BK329.out 3
               go_wp2
               go_meet
               case rel => exact ⟨_, (5), (1), (0), (16777217), (by first | rfl | (simp; done) | (simp [*]; done)), H', ⟨by have := HK1.out; have := HK2.out; first | omega | exact Nat.le_refl _⟩, ⟨by (with_reducible repeat (first | refine blk_drewN ?_ _ | refine blk_drew ?_ | refine blk_alloc ?_ _)); refine blk_put (cs := #[.int .i32 97, .int .i64 1, .int .i64 0, .int .i64 0]) ?_ 3 _ rfl; (with_reducible repeat (first | refine blk_drewN ?_ _ | refine blk_drew ?_ | refine blk_alloc ?_ _)); refine blk_put (cs := #[.int .i32 97, .int .i64 1, .int .i64 0, .int .i64 0]) ?_ 3 _ rfl; (with_reducible repeat (first | refine blk_drewN ?_ _ | refine blk_drew ?_ | refine blk_alloc ?_ _)); refine blk_put (cs := #[.int .i32 97, .int .i64 1, .int .i64 0, .int .i64 0]) ?_ 2 _ rfl; (with_reducible repeat (first | refine blk_drewN ?_ _ | refine blk_drew ?_ | refine blk_alloc ?_ _)); refine blk_put (cs := #[.int .i32 97, .int .i64 0, .int .i64 0, .int .i64 0]) ?_ 1 _ rfl; (with_reducible repeat (first | refine blk_drewN ?_ _ | refine blk_drew ?_ | refine blk_alloc ?_ _)); refine blk_put (cs := #[.int .i32 0, .int .i64 0, .int .i64 0, .int .i64 0]) ?_ 0 _ rfl; (with_reducible repeat (first | refine blk_drewN ?_ _ | refine blk_drew ?_ | refine blk_alloc ?_ _)); exact BK329.out⟩, ⟨by repeat (first | (with_reducible first | exact HB.out | apply below_alloc | apply pw_below_drewN | apply below_drew1 | refine below_set ?_ GE329.out) | exact HB.out)⟩⟩
              ·rw [if_neg c85] at H
               have c85b0 : (x6_2 == 6) = false := beq_eq_false_iff_ne.mpr c85
               have c85b1 : (x6_2 != 6) = true := bne_iff_ne.mpr c85
               by_cases c87 : x6_2 = 7
               ·rw [if_pos c87] at H
                have c87b0 : (x6_2 == 7) = true := beq_iff_eq.mpr c87
                have c87b1 : (x6_2 != 7) = false := bne_eq_false_iff_eq.mpr c87
                clear c87
                have H' := Aside0.mk H
                clear H
                have hcz88_0 : w71.cell? ⟨gb329, 0, none⟩ = some (.int .i32 0) := (blk_cell BK329.out 0).trans rfl
                have hcz88_1 : w71.cell? ⟨gb329, 1, none⟩ = some (.int .i64 0) := (blk_cell BK329.out 1).trans rfl
                have hcz88_2 : w71.cell? ⟨gb329, 2, none⟩ = some (.int .i64 0) := (blk_cell BK329.out 2).trans rfl
                have hcz88_3 : w71.cell? ⟨gb329, 3, none⟩ = some (.int .i64 0) := (blk_cell BK329.out 3).trans rfl
                have hfz88_0 := blk_frozen BK329.out 0
                have hfz88_1 := blk_frozen BK329.out 1
                have hfz88_2 := blk_frozen BK329.out 2
                have hfz88_3 := blk_frozen BK329.out 3
                go_wp2
                go_meet
                case rel => exact ⟨_, (5), (1), (0), (16777216), (by first | rfl | (simp; done) | (simp [*]; done)), H', ⟨by have := HK1.out; have := HK2.out; first | omega | exact Nat.le_refl _⟩, ⟨by (with_reducible repeat (first | refine blk_drewN ?_ _ | refine blk_drew ?_ | refine blk_alloc ?_ _)); refine blk_put (cs := #[.int .i32 97, .int .i64 1, .int .i64 0, .int .i64 0]) ?_ 3 _ rfl; (with_reducible repeat (first | refine blk_drewN ?_ _ | refine blk_drew ?_ | refine blk_alloc ?_ _)); refine blk_put (cs := #[.int .i32 97, .int .i64 1, .int .i64 0, .int .i64 0]) ?_ 3 _ rfl; (with_reducible repeat (first | refine blk_drewN ?_ _ | refine blk_drew ?_ | refine blk_alloc ?_ _)); refine blk_put (cs := #[.int .i32 97, .int .i64 1, .int .i64 0, .int .i64 0]) ?_ 2 _ rfl; (with_reducible repeat (first | refine blk_drewN ?_ _ | refine blk_drew ?_ | refine blk_alloc ?_ _)); refine blk_put (cs := #[.int .i32 97, .int .i64 0, .int .i64 0, .int .i64 0]) ?_ 1 _ rfl; (with_reducible repeat (first | refine blk_drewN ?_ _ | refine blk_drew ?_ | refine blk_alloc ?_ _)); refine blk_put (cs := #[.int .i32 0, .int .i64 0, .int .i64 0, .int .i64 0]) ?_ 0 _ rfl; (with_reducible repeat (first | refine blk_drewN ?_ _ | refine blk_drew ?_ | refine blk_alloc ?_ _)); exact BK329.out⟩, ⟨by repeat (first | (with_reducible first | exact HB.out | apply below_alloc | apply pw_below_drewN | apply below_drew1 | refine below_set ?_ GE329.out) | exact HB.out)⟩⟩
               ·rw [if_neg c87] at H
                have c87b0 : (x6_2 == 7) = false := beq_eq_false_iff_ne.mpr c87
                have c87b1 : (x6_2 != 7) = true := bne_iff_ne.mpr c87
                by_cases c89 : x6_2 = 8
                ·rw [if_pos c89] at H
                 have c89b0 : (x6_2 == 8) = true := beq_iff_eq.mpr c89
                 have c89b1 : (x6_2 != 8) = false := bne_eq_false_iff_eq.mpr c89
                 clear c89
                 have H' := Aside0.mk H
                 clear H
                 go_wp2
                 go_meet
                 case rel => exact ⟨_, (0), (1), (0), (0), (by first | rfl | (simp; done) | (simp [*]; done)), H', ⟨by have := HK1.out; have := HK2.out; first | omega | exact Nat.le_refl _⟩, ⟨by (with_reducible repeat (first | refine blk_drewN ?_ _ | refine blk_drew ?_ | refine blk_alloc ?_ _)); refine blk_put (cs := #[.int .i32 97, .int .i64 1, .int .i64 0, .int .i64 0]) ?_ 3 _ rfl; (with_reducible repeat (first | refine blk_drewN ?_ _ | refine blk_drew ?_ | refine blk_alloc ?_ _)); refine blk_put (cs := #[.int .i32 97, .int .i64 1, .int .i64 0, .int .i64 0]) ?_ 2 _ rfl; (with_reducible repeat (first | refine blk_drewN ?_ _ | refine blk_drew ?_ | refine blk_alloc ?_ _)); refine blk_put (cs := #[.int .i32 97, .int .i64 0, .int .i64 0, .int .i64 0]) ?_ 1 _ rfl; (with_reducible repeat (first | refine blk_drewN ?_ _ | refine blk_drew ?_ | refine blk_alloc ?_ _)); refine blk_put (cs := #[.int .i32 0, .int .i64 0, .int .i64 0, .int .i64 0]) ?_ 0 _ rfl; (with_reducible repeat (first | refine blk_drewN ?_ _ | refine blk_drew ?_ | refine blk_alloc ?_ _)); exact BK329.out⟩, ⟨by repeat (first | (with_reducible first | exact HB.out | apply below_alloc | apply pw_below_drewN | apply below_drew1 | refine below_set ?_ GE329.out) | exact HB.out)⟩⟩
                ·rw [if_neg c89] at H
                 have c89b0 : (x6_2 == 8) = false := beq_eq_false_iff_ne.mpr c89
                 have c89b1 : (x6_2 != 8) = true := bne_iff_ne.mpr c89
                 by_cases c90 : x6_2 = 9
                 ·rw [if_pos c90] at H
                  have c90b0 : (x6_2 == 9) = true := beq_iff_eq.mpr c90
                  have c90b1 : (x6_2 != 9) = false := bne_eq_false_iff_eq.mpr c90
                  clear c90
                  have H' := Aside0.mk H
                  clear H
                  go_wp2
                  go_meet
                  case rel => exact ⟨_, (16777217), (1), (0), (0), (by first | rfl | (simp; done) | (simp [*]; done)), H', ⟨by have := HK1.out; have := HK2.out; first | omega | exact Nat.le_refl _⟩, ⟨by (with_reducible repeat (first | refine blk_drewN ?_ _ | refine blk_drew ?_ | refine blk_alloc ?_ _)); refine blk_put (cs := #[.int .i32 97, .int .i64 1, .int .i64 0, .int .i64 0]) ?_ 3 _ rfl; (with_reducible repeat (first | refine blk_drewN ?_ _ | refine blk_drew ?_ | refine blk_alloc ?_ _)); refine blk_put (cs := #[.int .i32 97, .int .i64 1, .int .i64 0, .int .i64 0]) ?_ 2 _ rfl; (with_reducible repeat (first | refine blk_drewN ?_ _ | refine blk_drew ?_ | refine blk_alloc ?_ _)); refine blk_put (cs := #[.int .i32 97, .int .i64 0, .int .i64 0, .int .i64 0]) ?_ 1 _ rfl; (with_reducible repeat (first | refine blk_drewN ?_ _ | refine blk_drew ?_ | refine blk_alloc ?_ _)); refine blk_put (cs := #[.int .i32 0, .int .i64 0, .int .i64 0, .int .i64 0]) ?_ 0 _ rfl; (with_reducible repeat (first | refine blk_drewN ?_ _ | refine blk_drew ?_ | refine blk_alloc ?_ _)); exact BK329.out⟩, ⟨by repeat (first | (with_reducible first | exact HB.out | apply below_alloc | apply pw_below_drewN | apply below_drew1 | refine below_set ?_ GE329.out) | exact HB.out)⟩⟩
                 ·rw [if_neg c90] at H
                  have c90b0 : (x6_2 == 9) = false := beq_eq_false_iff_ne.mpr c90
                  have c90b1 : (x6_2 != 9) = true := bne_iff_ne.mpr c90
                  by_cases c91 : x6_2 = 10
                  ·rw [if_pos c91] at H
                   have c91b0 : (x6_2 == 10) = true := beq_iff_eq.mpr c91
                   have c91b1 : (x6_2 != 10) = false := bne_eq_false_iff_eq.mpr c91
                   clear c91
                   have H' := Aside0.mk H
                   clear H
                   go_wp2
                   go_meet
                   case rel => exact ⟨_, (16777216), (1), (0), (0), (by first | rfl | (simp; done) | (simp [*]; done)), H', ⟨by have := HK1.out; have := HK2.out; first | omega | exact Nat.le_refl _⟩, ⟨by (with_reducible repeat (first | refine blk_drewN ?_ _ | refine blk_drew ?_ | refine blk_alloc ?_ _)); refine blk_put (cs := #[.int .i32 97, .int .i64 1, .int .i64 0, .int .i64 0]) ?_ 3 _ rfl; (with_reducible repeat (first | refine blk_drewN ?_ _ | refine blk_drew ?_ | refine blk_alloc ?_ _)); refine blk_put (cs := #[.int .i32 97, .int .i64 1, .int .i64 0, .int .i64 0]) ?_ 2 _ rfl; (with_reducible repeat (first | refine blk_drewN ?_ _ | refine blk_drew ?_ | refine blk_alloc ?_ _)); refine blk_put (cs := #[.int .i32 97, .int .i64 0, .int .i64 0, .int .i64 0]) ?_ 1 _ rfl; (with_reducible repeat (first | refine blk_drewN ?_ _ | refine blk_drew ?_ | refine blk_alloc ?_ _)); refine blk_put (cs := #[.int .i32 0, .int .i64 0, .int .i64 0, .int .i64 0]) ?_ 0 _ rfl; (with_reducible repeat (first | refine blk_drewN ?_ _ | refine blk_drew ?_ | refine blk_alloc ?_ _)); exact BK329.out⟩, ⟨by repeat (first | (with_reducible first | exact HB.out | apply below_alloc | apply pw_below_drewN | apply below_drew1 | refine below_set ?_ GE329.out) | exact HB.out)⟩⟩
                  ·rw [if_neg c91] at H
                   have c91b0 : (x6_2 == 10) = false := beq_eq_false_iff_ne.mpr c91
                   have c91b1 : (x6_2 != 10) = true := bne_iff_ne.mpr c91
                   have H' := Aside0.mk H
                   clear H
                   go_wp2
                   go_meet
                   case rel => exact ⟨_, ((-9223372036854775808)), (1), (0), (0), (by first | rfl | (simp; done) | (simp [*]; done)), H', ⟨by have := HK1.out; have := HK2.out; first | omega | exact Nat.le_refl _⟩, ⟨by (with_reducible repeat (first | refine blk_drewN ?_ _ | refine blk_drew ?_ | refine blk_alloc ?_ _)); refine blk_put (cs := #[.int .i32 97, .int .i64 1, .int .i64 0, .int .i64 0]) ?_ 3 _ rfl; (with_reducible repeat (first | refine blk_drewN ?_ _ | refine blk_drew ?_ | refine blk_alloc ?_ _)); refine blk_put (cs := #[.int .i32 97, .int .i64 1, .int .i64 0, .int .i64 0]) ?_ 2 _ rfl; (with_reducible repeat (first | refine blk_drewN ?_ _ | refine blk_drew ?_ | refine blk_alloc ?_ _)); refine blk_put (cs := #[.int .i32 97, .int .i64 0, .int .i64 0, .int .i64 0]) ?_ 1 _ rfl; (with_reducible repeat (first | refine blk_drewN ?_ _ | refine blk_drew ?_ | refine blk_alloc ?_ _)); refine blk_put (cs := #[.int .i32 0, .int .i64 0, .int .i64 0, .int .i64 0]) ?_ 0 _ rfl; (with_reducible repeat (first | refine blk_drewN ?_ _ | refine blk_drew ?_ | refine blk_alloc ?_ _)); exact BK329.out⟩, ⟨by repeat (first | (with_reducible first | exact HB.out | apply below_alloc | apply pw_below_drewN | apply below_drew1 | refine below_set ?_ GE329.out) | exact HB.out)⟩⟩
       case rest =>
        clear HC70
        try clear c1
        try clear p1
        try clear q1
        try clear hx1
        try clear qi1
        try clear hf1
        try clear c2
        try clear p2
        try clear hx2
        try clear hf2
        try clear c3
        try clear p3
        try clear q3
        try clear hx3
        try clear qi3
        try clear hf3
        try clear c4
        try clear c4b0
        try clear hx4
        try clear hf4
        try clear c5
        try clear c5b0
        try clear c6
        try clear c6b0
        try clear p6
        try clear c7
        try clear c7b0
        try clear c8
        try clear c9
        try clear c10
        try clear c10b0
        try clear c12
        try clear c12b0
        try clear c12b1
        try clear c15
        try clear c16
        try clear c16b0
        try clear c16b1
        try clear c17
        try clear p17
        try clear q17
        try clear hx17
        try clear qi17
        try clear hf17
        try clear c18
        try clear c18b0
        try clear c18b1
        try clear c19
        try clear p19
        try clear q19
        try clear hx19
        try clear qi19
        try clear hf19
        try clear c20
        try clear hx20
        try clear hf20
        try clear c22
        try clear hx22
        try clear hf22
        try clear c25
        try clear c25b0
        try clear c25b1
        try clear c28
        try clear c29
        try clear c29b0
        try clear c29b1
        try clear c30
        try clear p30
        try clear q30
        try clear hx30
        try clear qi30
        try clear hf30
        try clear c31
        try clear p31
        try clear q31
        try clear hx31
        try clear hf31
        try clear c34
        try clear c34b0
        try clear c34b1
        try clear c37
        try clear c38
        try clear c38b0
        try clear c38b1
        try clear c39
        try clear p39
        try clear q39
        try clear hx39
        try clear qi39
        try clear hf39
        try clear c40
        try clear hx40
        try clear hf40
        try clear c43
        try clear c45
        try clear c46
        try clear c46b0
        try clear c46b1
        try clear c47
        try clear c47b0
        try clear c49
        try clear p64
        try clear c69
        try clear c69b0
        try clear c73
        try clear c73b0
        try clear c73b1
        try clear c75
        try clear c75b0
        try clear c75b1
        try clear c77
        try clear c77b0
        try clear c77b1
        try clear c79
        try clear c79b0
        try clear c79b1
        try clear c81
        try clear c81b0
        try clear c81b1
        try clear c83
        try clear c83b0
        try clear c83b1
        try clear c85
        try clear c85b0
        try clear c85b1
        try clear c87
        try clear c87b0
        try clear c87b1
        try clear c89
        try clear c89b0
        try clear c89b1
        try clear c90
        try clear c90b0
        try clear c90b1
        try clear c91
        try clear c91b0
        try clear c91b1
        try clear hcz72_0
        try clear hcz72_1
        try clear hcz72_2
        try clear hcz72_3
        try clear hcz74_0
        try clear hcz74_1
        try clear hcz74_2
        try clear hcz74_3
        try clear hcz76_0
        try clear hcz76_1
        try clear hcz76_2
        try clear hcz76_3
        try clear hcz78_0
        try clear hcz78_1
        try clear hcz78_2
        try clear hcz78_3
        try clear hcz80_0
        try clear hcz80_1
        try clear hcz80_2
        try clear hcz80_3
        try clear hcz82_0
        try clear hcz82_1
        try clear hcz82_2
        try clear hcz82_3
        try clear hcz84_0
        try clear hcz84_1
        try clear hcz84_2
        try clear hcz84_3
        try clear hcz86_0
        try clear hcz86_1
        try clear hcz86_2
        try clear hcz86_3
        try clear hcz88_0
        try clear hcz88_1
        try clear hcz88_2
        try clear hcz88_3
        try clear hfz72_0
        try clear hfz72_1
        try clear hfz72_2
        try clear hfz72_3
        try clear hfz74_0
        try clear hfz74_1
        try clear hfz74_2
        try clear hfz74_3
        try clear hfz76_0
        try clear hfz76_1
        try clear hfz76_2
        try clear hfz76_3
        try clear hfz78_0
        try clear hfz78_1
        try clear hfz78_2
        try clear hfz78_3
        try clear hfz80_0
        try clear hfz80_1
        try clear hfz80_2
        try clear hfz80_3
        try clear hfz82_0
        try clear hfz82_1
        try clear hfz82_2
        try clear hfz82_3
        try clear hfz84_0
        try clear hfz84_1
        try clear hfz84_2
        try clear hfz84_3
        try clear hfz86_0
        try clear hfz86_1
        try clear hfz86_2
        try clear hfz86_3
        try clear hfz88_0
        try clear hfz88_1
        try clear hfz88_2
        try clear hfz88_3
        try clear hx17_0
        try clear hx17_1
        try clear hx17_2
        try clear hx17_3
        try clear hx19_0
        try clear hx19_1
        try clear hx19_2
        try clear hx19_3
        try clear hx20_2
        try clear hx22_3
        try clear hx30_0
        try clear hx30_1
        try clear hx30_2
        try clear hx30_3
        try clear hx318_0
        try clear hx31_1
        try clear hx39_0
        try clear hx39_1
        try clear hx39_2
        try clear hx39_3
        try clear hx40_0
        try clear hx40_1
        try clear hx40_2
        try clear hx40_3
        try clear p1
        try clear p17
        try clear p19
        try clear p2
        try clear p3
        try clear p30
        try clear p31
        try clear p318
        try clear p39
        try clear p6
        try clear p64
        try clear q1
        try clear q17
        try clear q19
        try clear q3
        try clear q30
        try clear q31
        try clear q318
        try clear q39
        obtain ⟨kq, x8_69, x330001_69, x330002_69, x330003_69, rfl, HA, HJ69, BK329, HB⟩ := hcut
        cases kq with
        | zero => exact absurd HA.out (by simp [selvedgelaw21_BreaksKnown.j10])
        | succ kj69 =>
         have H := HA.out
         clear HA
         simp only [selvedgelaw21_BreaksKnown.j10] at H
         obtain ⟨y330, hy330⟩ : ∃ y_ : List (S36), y_ = (([(⟨97, 1, 0, 0⟩ : S36), (⟨32, 1, 0, 0⟩ : S36), (⟨97, x330001_69, x330002_69, x330003_69⟩ : S36)] : List (S36))) := ⟨_, rfl⟩
         replace H : ((selvedgelaw21_BreaksLines.f kj69 y330 x8_69).bind fun t333 => (if t333 = true then ((selvedgelaw21_BreaksMeasures.f kj69 y330 0 3).bind fun t334 => (if t334 = true then ((selvedgelaw21_BreaksFit.f kj69 y330 x8_69 1).bind fun t335 => (if t335 = true then ((selvedgelaw21_BreaksMeasures.f kj69 y330 (wrap64 (x6_2 - 2)) (wrap64 (x6_2 - 1))).bind fun t336 => (if t336 = true then (selvedgelaw21_BreaksKnown.l3 kj69 (wrap64 (x6_2 + 1))) else (some false))) else (some false))) else (some false))) else (some false))) = some r := by first | (rw [hy330]; with_reducible exact H) | (have H2_ := (Option.bind_some _ _).symm.trans H; rw [hy330]; with_reducible exact H2_) | (have H2_ := (Option.bind_some _ _).symm.trans H; with_reducible exact H2_) | with_reducible exact H | (rw [hy330]; exact H) | exact H
         have Ny330 := Aside0.mk hy330
         clear hy330
         replace H := Option.bind_eq_some_iff.mp H
         obtain ⟨t333, A920, H⟩ := H
         replace H : (if t333 = true then ((selvedgelaw21_BreaksMeasures.f kj69 y330 0 3).bind fun t334 => (if t334 = true then ((selvedgelaw21_BreaksFit.f kj69 y330 x8_69 1).bind fun t335 => (if t335 = true then ((selvedgelaw21_BreaksMeasures.f kj69 y330 (wrap64 (x6_2 - 2)) (wrap64 (x6_2 - 1))).bind fun t336 => (if t336 = true then (selvedgelaw21_BreaksKnown.l3 kj69 (wrap64 (x6_2 + 1))) else (some false))) else (some false))) else (some false))) else (some false)) = some r := H
         have A92 := Aside0.mk A920
         clear A920
         by_cases c93 : t333 = true
         ·subst c93
          have H1 : ((selvedgelaw21_BreaksMeasures.f kj69 y330 0 3).bind fun t334 => (if t334 = true then ((selvedgelaw21_BreaksFit.f kj69 y330 x8_69 1).bind fun t335 => (if t335 = true then ((selvedgelaw21_BreaksMeasures.f kj69 y330 (wrap64 (x6_2 - 2)) (wrap64 (x6_2 - 1))).bind fun t336 => (if t336 = true then (selvedgelaw21_BreaksKnown.l3 kj69 (wrap64 (x6_2 + 1))) else (some false))) else (some false))) else (some false))) = some r := by rw [if_pos rfl] at H; exact H
          clear H
          have H := H1
          clear H1
          replace H := Option.bind_eq_some_iff.mp H
          obtain ⟨t334, A940, H⟩ := H
          replace H : (if t334 = true then ((selvedgelaw21_BreaksFit.f kj69 y330 x8_69 1).bind fun t335 => (if t335 = true then ((selvedgelaw21_BreaksMeasures.f kj69 y330 (wrap64 (x6_2 - 2)) (wrap64 (x6_2 - 1))).bind fun t336 => (if t336 = true then (selvedgelaw21_BreaksKnown.l3 kj69 (wrap64 (x6_2 + 1))) else (some false))) else (some false))) else (some false)) = some r := H
          have A94 := Aside0.mk A940
          clear A940
          by_cases c95 : t334 = true
          ·subst c95
           have H1 : ((selvedgelaw21_BreaksFit.f kj69 y330 x8_69 1).bind fun t335 => (if t335 = true then ((selvedgelaw21_BreaksMeasures.f kj69 y330 (wrap64 (x6_2 - 2)) (wrap64 (x6_2 - 1))).bind fun t336 => (if t336 = true then (selvedgelaw21_BreaksKnown.l3 kj69 (wrap64 (x6_2 + 1))) else (some false))) else (some false))) = some r := by rw [if_pos rfl] at H; exact H
           clear H
           have H := H1
           clear H1
           replace H := Option.bind_eq_some_iff.mp H
           obtain ⟨t335, A960, H⟩ := H
           replace H : (if t335 = true then ((selvedgelaw21_BreaksMeasures.f kj69 y330 (wrap64 (x6_2 - 2)) (wrap64 (x6_2 - 1))).bind fun t336 => (if t336 = true then (selvedgelaw21_BreaksKnown.l3 kj69 (wrap64 (x6_2 + 1))) else (some false))) else (some false)) = some r := H
           have A96 := Aside0.mk A960
           clear A960
           by_cases c97 : t335 = true
           ·subst c97
            have H1 : ((selvedgelaw21_BreaksMeasures.f kj69 y330 (wrap64 (x6_2 - 2)) (wrap64 (x6_2 - 1))).bind fun t336 => (if t336 = true then (selvedgelaw21_BreaksKnown.l3 kj69 (wrap64 (x6_2 + 1))) else (some false))) = some r := by rw [if_pos rfl] at H; exact H
            clear H
            have H := H1
            clear H1
            replace H := Option.bind_eq_some_iff.mp H
            obtain ⟨t336, A980, H⟩ := H
            replace H : (if t336 = true then (selvedgelaw21_BreaksKnown.l3 kj69 (wrap64 (x6_2 + 1))) else (some false)) = some r := H
            have A98 := Aside0.mk A980
            clear A980
            by_cases c99 : t336 = true
            ·subst c99
             have H1 : (selvedgelaw21_BreaksKnown.l3 kj69 (wrap64 (x6_2 + 1))) = some r := by rw [if_pos rfl] at H; exact H
             clear H
             have H := H1
             clear H1
             have H' := Aside0.mk H
             clear H
             have hcz100_0 : wc.cell? ⟨gb329, 0, none⟩ = some (.int .i32 97) := (blk_cell BK329.out 0).trans rfl
             have hcz100_1 : wc.cell? ⟨gb329, 1, none⟩ = some (.int .i64 x330001_69) := (blk_cell BK329.out 1).trans rfl
             have hcz100_2 : wc.cell? ⟨gb329, 2, none⟩ = some (.int .i64 x330002_69) := (blk_cell BK329.out 2).trans rfl
             have hcz100_3 : wc.cell? ⟨gb329, 3, none⟩ = some (.int .i64 x330003_69) := (blk_cell BK329.out 3).trans rfl
             have hfz100_0 := blk_frozen BK329.out 0
             have hfz100_1 := blk_frozen BK329.out 1
             have hfz100_2 := blk_frozen BK329.out 2
             have hfz100_3 := blk_frozen BK329.out 3
             go_wp2_with (first | ((with_reducible refine gate_dst (N := 137) rfl ?_); (try (refine gate_guard (by rfl) ?_; dsimp only)); refine Kd.R_lit k36 _ 36 ?hg (N := 137) ?hd (xs := ([(⟨97, 1, 0, 0⟩ : S36), (⟨32, 1, 0, 0⟩ : S36), (⟨97, x330001_69, x330002_69, x330003_69⟩ : S36)] : List (S36))) (inner := [.int .i32 97, .int .i64 1, .int .i64 0, .int .i64 0, .int .i32 32, .int .i64 1, .int .i64 0, .int .i64 0, .int .i32 97, .int .i64 x330001_69, .int .i64 x330002_69, .int .i64 x330003_69]) (ok := fun _ => True) (okp := fun _ => True) ?hr ?hp (fun _ hk => hk) trivial (Below.refl _ _) (Nat.le_refl _) (by simp) ?_; (case hd => rfl); (case hg => rfl); (case hr => first | (go_simp; done) | (go_simp; rfl)); (case hp => exact (Reps.c4 (show Kd.M k36 _ _ _ (⟨97, 1, 0, 0⟩ : S36) [.int .i32 97, .int .i64 1, .int .i64 0, .int .i64 0] from (k36_mkM _ _ _ (⟨97, 1, 0, 0⟩ : S36) )) (Reps.c4 (show Kd.M k36 _ _ _ (⟨32, 1, 0, 0⟩ : S36) [.int .i32 32, .int .i64 1, .int .i64 0, .int .i64 0] from (k36_mkM _ _ _ (⟨32, 1, 0, 0⟩ : S36) )) (Reps.c4 (show Kd.M k36 _ _ _ (⟨97, x330001_69, x330002_69, x330003_69⟩ : S36) [.int .i32 97, .int .i64 x330001_69, .int .i64 x330002_69, .int .i64 x330003_69] from (k36_mkM _ _ _ (⟨97, x330001_69, x330002_69, x330003_69⟩ : S36) )) (Reps.none _ _))))); intro v331 w101 ho102 hb hg_ hnew_; clear hg_ hnew_; (first | rw [← Ny330.out] at ho102 | (simp only [Int.reduceToNat] at ho102; rw [← Ny330.out] at ho102)); have n0_ := Aside0.mk (Kd.R_lower (Kd.R_newB ho102 (g := gb329) (o := .cells #[.int .i32 97, .int .i64 x330001_69, .int .i64 x330002_69, .int .i64 x330003_69] 36 (0, 0)) (by (with_reducible repeat (first | refine blk_drewN ?_ _ | refine blk_drew ?_ | refine blk_alloc ?_ _)); exact BK329.out)) (below_size (by repeat (first | (with_reducible first | exact HB.out | apply below_alloc | apply pw_below_drewN | apply below_drew1 | refine below_set ?_ GE329.out) | exact HB.out)))); have n1_ := Aside0.mk (blk_below (g := gb329) (o := .cells #[.int .i32 97, .int .i64 x330001_69, .int .i64 x330002_69, .int .i64 x330003_69] 36 (0, 0)) (by (with_reducible repeat (first | refine blk_drewN ?_ _ | refine blk_drew ?_ | refine blk_alloc ?_ _)); exact BK329.out) hb); have n2_ := Aside0.mk (below_step (by repeat (first | (with_reducible first | exact HB.out | apply below_alloc | apply pw_below_drewN | apply below_drew1 | refine below_set ?_ GE329.out) | exact HB.out)) hb); clear BK329; clear HB; have HO332 := n0_; have BK329 := n1_; have HB := n2_; clear n0_ n1_ n2_; clear hb ho102; obtain ⟨Ao103, co103, eo103⟩ := Kd.R_slice HO332.out; subst eo103) | ((with_reducible refine gate_callee (f := 7) rfl ?_); refine goesL_ (some 140) rfl rfl Try.func7 (by kernel_rfl) rfl #[.slice Ao103 y330.length co103, .int .i64 x8_69] rfl (by (try simp only [List.map_toArray, List.map_cons, List.map_nil]); first | done | rfl | (simp only [List.length_drop, List.length_take]; rfl)) ?_; (with_reducible refine (selvedgelaw21_BreaksLines.calls kj69 _ _ y330 x8_69 true _ ?side1 ?side2 A92.out).mono ?_); (case side1 => repeat (first | exact (Kd.R_reads' HO332.out).2.2 | (with_reducible refine Kd.C_alloc ?_ _) | (with_reducible refine Kd.C_drewN ?_ _) | (with_reducible refine Kd.C_drew ?_))); (case side2 => exact (Kd.R_reads' HO332.out).2.1); rintro e w104 ⟨rfl, hb⟩; refine ⟨_, rfl, ?_⟩; have n0_ := Aside0.mk (Kd.R_below (mvR HO332) hb); have n1_ := Aside0.mk (blk_below (g := gb329) (o := .cells #[.int .i32 97, .int .i64 x330001_69, .int .i64 x330002_69, .int .i64 x330003_69] 36 (0, 0)) (by (with_reducible repeat (first | refine blk_drewN ?_ _ | refine blk_drew ?_ | refine blk_alloc ?_ _)); exact BK329.out) hb); have n2_ := Aside0.mk (below_step (by repeat (first | (with_reducible first | exact HB.out | apply below_alloc | apply pw_below_drewN | apply below_drew1 | refine below_set ?_ GE329.out) | exact HB.out)) hb); clear HO332; clear BK329; clear HB; have HO332 := n0_; have BK329 := n1_; have HB := n2_; clear n0_ n1_ n2_; (try clear hb); (try clear hb2); (try clear hk); (try clear hi)) | (go_at_call 3; (with_reducible refine (selvedgelaw21_BreaksMeasures.calls kj69 _ _ y330 0 3 true _ ?side1 ?side2 A94.out).mono ?_); (case side1 => repeat (first | exact (Kd.R_reads' HO332.out).2.2 | (with_reducible refine Kd.C_alloc ?_ _) | (with_reducible refine Kd.C_drewN ?_ _) | (with_reducible refine Kd.C_drew ?_))); (case side2 => exact (Kd.R_reads' HO332.out).2.1); rintro e w105 ⟨rfl, hb⟩; have n0_ := Aside0.mk (Kd.R_below (mvR HO332) hb); have n1_ := Aside0.mk (blk_below (g := gb329) (o := .cells #[.int .i32 97, .int .i64 x330001_69, .int .i64 x330002_69, .int .i64 x330003_69] 36 (0, 0)) (by (with_reducible repeat (first | refine blk_drewN ?_ _ | refine blk_drew ?_ | refine blk_alloc ?_ _)); exact BK329.out) hb); have n2_ := Aside0.mk (below_step (by repeat (first | (with_reducible first | exact HB.out | apply below_alloc | apply pw_below_drewN | apply below_drew1 | refine below_set ?_ GE329.out) | exact HB.out)) hb); clear HO332; clear BK329; clear HB; have HO332 := n0_; have BK329 := n1_; have HB := n2_; clear n0_ n1_ n2_; (try clear hb); (try clear hb2); (try clear hk); (try clear hi)) | (go_at_call 8; (with_reducible refine (selvedgelaw21_BreaksFit.calls kj69 _ _ y330 x8_69 1 true _ ?side1 ?side2 A96.out).mono ?_); (case side1 => repeat (first | exact (Kd.R_reads' HO332.out).2.2 | (with_reducible refine Kd.C_alloc ?_ _) | (with_reducible refine Kd.C_drewN ?_ _) | (with_reducible refine Kd.C_drew ?_))); (case side2 => exact (Kd.R_reads' HO332.out).2.1); rintro e w106 ⟨rfl, hb⟩; have n0_ := Aside0.mk (Kd.R_below (mvR HO332) hb); have n1_ := Aside0.mk (blk_below (g := gb329) (o := .cells #[.int .i32 97, .int .i64 x330001_69, .int .i64 x330002_69, .int .i64 x330003_69] 36 (0, 0)) (by (with_reducible repeat (first | refine blk_drewN ?_ _ | refine blk_drew ?_ | refine blk_alloc ?_ _)); exact BK329.out) hb); have n2_ := Aside0.mk (below_step (by repeat (first | (with_reducible first | exact HB.out | apply below_alloc | apply pw_below_drewN | apply below_drew1 | refine below_set ?_ GE329.out) | exact HB.out)) hb); clear HO332; clear BK329; clear HB; have HO332 := n0_; have BK329 := n1_; have HB := n2_; clear n0_ n1_ n2_; (try clear hb); (try clear hb2); (try clear hk); (try clear hi)) | (go_at_call 3; (with_reducible refine (selvedgelaw21_BreaksMeasures.calls kj69 _ _ y330 (wrap64 (x6_2 - 2)) (wrap64 (x6_2 - 1)) true _ ?side1 ?side2 A98.out).mono ?_); (case side1 => repeat (first | exact (Kd.R_reads' HO332.out).2.2 | (with_reducible refine Kd.C_alloc ?_ _) | (with_reducible refine Kd.C_drewN ?_ _) | (with_reducible refine Kd.C_drew ?_))); (case side2 => exact (Kd.R_reads' HO332.out).2.1); rintro e w107 ⟨rfl, hb⟩; have n0_ := Aside0.mk (Kd.R_below (mvR HO332) hb); have n1_ := Aside0.mk (blk_below (g := gb329) (o := .cells #[.int .i32 97, .int .i64 x330001_69, .int .i64 x330002_69, .int .i64 x330003_69] 36 (0, 0)) (by (with_reducible repeat (first | refine blk_drewN ?_ _ | refine blk_drew ?_ | refine blk_alloc ?_ _)); exact BK329.out) hb); have n2_ := Aside0.mk (below_step (by repeat (first | (with_reducible first | exact HB.out | apply below_alloc | apply pw_below_drewN | apply below_drew1 | refine below_set ?_ GE329.out) | exact HB.out)) hb); clear HO332; clear BK329; clear HB; have HO332 := n0_; have BK329 := n1_; have HB := n2_; clear n0_ n1_ n2_; (try clear hb); (try clear hb2); (try clear hk); (try clear hi)))
             go_roundg kj69
             case measure => have := HK1.out; have := HK2.out; have := HJ69.out; omega
             case rel => exact ⟨(wrap64 (x6_2 + 1)), (by first | rfl | (simp; done) | (simp [*]; done)), H', ⟨by have := HK1.out; have := HK2.out; have := HJ69.out; omega⟩, ⟨by repeat (first | (with_reducible first | exact HB.out | apply below_alloc | apply pw_below_drewN | apply below_drew1 | refine below_set ?_ GE329.out) | exact HB.out)⟩⟩
            ·replace c99 := Bool.eq_false_iff.mpr c99
             subst c99
             have H1 : (some false) = some r := by rw [if_neg (show ¬ (false = true) by decide)] at H; exact H
             clear H
             have H := H1
             clear H1
             obtain rfl := Option.some.inj H
             have hcz108_0 : wc.cell? ⟨gb329, 0, none⟩ = some (.int .i32 97) := (blk_cell BK329.out 0).trans rfl
             have hcz108_1 : wc.cell? ⟨gb329, 1, none⟩ = some (.int .i64 x330001_69) := (blk_cell BK329.out 1).trans rfl
             have hcz108_2 : wc.cell? ⟨gb329, 2, none⟩ = some (.int .i64 x330002_69) := (blk_cell BK329.out 2).trans rfl
             have hcz108_3 : wc.cell? ⟨gb329, 3, none⟩ = some (.int .i64 x330003_69) := (blk_cell BK329.out 3).trans rfl
             have hfz108_0 := blk_frozen BK329.out 0
             have hfz108_1 := blk_frozen BK329.out 1
             have hfz108_2 := blk_frozen BK329.out 2
             have hfz108_3 := blk_frozen BK329.out 3
             go_wp2_with (first | ((with_reducible refine gate_dst (N := 137) rfl ?_); (try (refine gate_guard (by rfl) ?_; dsimp only)); refine Kd.R_lit k36 _ 36 ?hg (N := 137) ?hd (xs := ([(⟨97, 1, 0, 0⟩ : S36), (⟨32, 1, 0, 0⟩ : S36), (⟨97, x330001_69, x330002_69, x330003_69⟩ : S36)] : List (S36))) (inner := [.int .i32 97, .int .i64 1, .int .i64 0, .int .i64 0, .int .i32 32, .int .i64 1, .int .i64 0, .int .i64 0, .int .i32 97, .int .i64 x330001_69, .int .i64 x330002_69, .int .i64 x330003_69]) (ok := fun _ => True) (okp := fun _ => True) ?hr ?hp (fun _ hk => hk) trivial (Below.refl _ _) (Nat.le_refl _) (by simp) ?_; (case hd => rfl); (case hg => rfl); (case hr => first | (go_simp; done) | (go_simp; rfl)); (case hp => exact (Reps.c4 (show Kd.M k36 _ _ _ (⟨97, 1, 0, 0⟩ : S36) [.int .i32 97, .int .i64 1, .int .i64 0, .int .i64 0] from (k36_mkM _ _ _ (⟨97, 1, 0, 0⟩ : S36) )) (Reps.c4 (show Kd.M k36 _ _ _ (⟨32, 1, 0, 0⟩ : S36) [.int .i32 32, .int .i64 1, .int .i64 0, .int .i64 0] from (k36_mkM _ _ _ (⟨32, 1, 0, 0⟩ : S36) )) (Reps.c4 (show Kd.M k36 _ _ _ (⟨97, x330001_69, x330002_69, x330003_69⟩ : S36) [.int .i32 97, .int .i64 x330001_69, .int .i64 x330002_69, .int .i64 x330003_69] from (k36_mkM _ _ _ (⟨97, x330001_69, x330002_69, x330003_69⟩ : S36) )) (Reps.none _ _))))); intro v331 w109 ho110 hb hg_ hnew_; clear hg_ hnew_; (first | rw [← Ny330.out] at ho110 | (simp only [Int.reduceToNat] at ho110; rw [← Ny330.out] at ho110)); have n0_ := Aside0.mk (Kd.R_lower (Kd.R_newB ho110 (g := gb329) (o := .cells #[.int .i32 97, .int .i64 x330001_69, .int .i64 x330002_69, .int .i64 x330003_69] 36 (0, 0)) (by (with_reducible repeat (first | refine blk_drewN ?_ _ | refine blk_drew ?_ | refine blk_alloc ?_ _)); exact BK329.out)) (below_size (by repeat (first | (with_reducible first | exact HB.out | apply below_alloc | apply pw_below_drewN | apply below_drew1 | refine below_set ?_ GE329.out) | exact HB.out)))); have n1_ := Aside0.mk (blk_below (g := gb329) (o := .cells #[.int .i32 97, .int .i64 x330001_69, .int .i64 x330002_69, .int .i64 x330003_69] 36 (0, 0)) (by (with_reducible repeat (first | refine blk_drewN ?_ _ | refine blk_drew ?_ | refine blk_alloc ?_ _)); exact BK329.out) hb); have n2_ := Aside0.mk (below_step (by repeat (first | (with_reducible first | exact HB.out | apply below_alloc | apply pw_below_drewN | apply below_drew1 | refine below_set ?_ GE329.out) | exact HB.out)) hb); clear BK329; clear HB; have HO332 := n0_; have BK329 := n1_; have HB := n2_; clear n0_ n1_ n2_; clear hb ho110; obtain ⟨Ao111, co111, eo111⟩ := Kd.R_slice HO332.out; subst eo111) | ((with_reducible refine gate_callee (f := 7) rfl ?_); refine goesL_ (some 140) rfl rfl Try.func7 (by kernel_rfl) rfl #[.slice Ao111 y330.length co111, .int .i64 x8_69] rfl (by (try simp only [List.map_toArray, List.map_cons, List.map_nil]); first | done | rfl | (simp only [List.length_drop, List.length_take]; rfl)) ?_; (with_reducible refine (selvedgelaw21_BreaksLines.calls kj69 _ _ y330 x8_69 true _ ?side1 ?side2 A92.out).mono ?_); (case side1 => repeat (first | exact (Kd.R_reads' HO332.out).2.2 | (with_reducible refine Kd.C_alloc ?_ _) | (with_reducible refine Kd.C_drewN ?_ _) | (with_reducible refine Kd.C_drew ?_))); (case side2 => exact (Kd.R_reads' HO332.out).2.1); rintro e w112 ⟨rfl, hb⟩; refine ⟨_, rfl, ?_⟩; have n0_ := Aside0.mk (Kd.R_below (mvR HO332) hb); have n1_ := Aside0.mk (blk_below (g := gb329) (o := .cells #[.int .i32 97, .int .i64 x330001_69, .int .i64 x330002_69, .int .i64 x330003_69] 36 (0, 0)) (by (with_reducible repeat (first | refine blk_drewN ?_ _ | refine blk_drew ?_ | refine blk_alloc ?_ _)); exact BK329.out) hb); have n2_ := Aside0.mk (below_step (by repeat (first | (with_reducible first | exact HB.out | apply below_alloc | apply pw_below_drewN | apply below_drew1 | refine below_set ?_ GE329.out) | exact HB.out)) hb); clear HO332; clear BK329; clear HB; have HO332 := n0_; have BK329 := n1_; have HB := n2_; clear n0_ n1_ n2_; (try clear hb); (try clear hb2); (try clear hk); (try clear hi)) | (go_at_call 3; (with_reducible refine (selvedgelaw21_BreaksMeasures.calls kj69 _ _ y330 0 3 true _ ?side1 ?side2 A94.out).mono ?_); (case side1 => repeat (first | exact (Kd.R_reads' HO332.out).2.2 | (with_reducible refine Kd.C_alloc ?_ _) | (with_reducible refine Kd.C_drewN ?_ _) | (with_reducible refine Kd.C_drew ?_))); (case side2 => exact (Kd.R_reads' HO332.out).2.1); rintro e w113 ⟨rfl, hb⟩; have n0_ := Aside0.mk (Kd.R_below (mvR HO332) hb); have n1_ := Aside0.mk (blk_below (g := gb329) (o := .cells #[.int .i32 97, .int .i64 x330001_69, .int .i64 x330002_69, .int .i64 x330003_69] 36 (0, 0)) (by (with_reducible repeat (first | refine blk_drewN ?_ _ | refine blk_drew ?_ | refine blk_alloc ?_ _)); exact BK329.out) hb); have n2_ := Aside0.mk (below_step (by repeat (first | (with_reducible first | exact HB.out | apply below_alloc | apply pw_below_drewN | apply below_drew1 | refine below_set ?_ GE329.out) | exact HB.out)) hb); clear HO332; clear BK329; clear HB; have HO332 := n0_; have BK329 := n1_; have HB := n2_; clear n0_ n1_ n2_; (try clear hb); (try clear hb2); (try clear hk); (try clear hi)) | (go_at_call 8; (with_reducible refine (selvedgelaw21_BreaksFit.calls kj69 _ _ y330 x8_69 1 true _ ?side1 ?side2 A96.out).mono ?_); (case side1 => repeat (first | exact (Kd.R_reads' HO332.out).2.2 | (with_reducible refine Kd.C_alloc ?_ _) | (with_reducible refine Kd.C_drewN ?_ _) | (with_reducible refine Kd.C_drew ?_))); (case side2 => exact (Kd.R_reads' HO332.out).2.1); rintro e w114 ⟨rfl, hb⟩; have n0_ := Aside0.mk (Kd.R_below (mvR HO332) hb); have n1_ := Aside0.mk (blk_below (g := gb329) (o := .cells #[.int .i32 97, .int .i64 x330001_69, .int .i64 x330002_69, .int .i64 x330003_69] 36 (0, 0)) (by (with_reducible repeat (first | refine blk_drewN ?_ _ | refine blk_drew ?_ | refine blk_alloc ?_ _)); exact BK329.out) hb); have n2_ := Aside0.mk (below_step (by repeat (first | (with_reducible first | exact HB.out | apply below_alloc | apply pw_below_drewN | apply below_drew1 | refine below_set ?_ GE329.out) | exact HB.out)) hb); clear HO332; clear BK329; clear HB; have HO332 := n0_; have BK329 := n1_; have HB := n2_; clear n0_ n1_ n2_; (try clear hb); (try clear hb2); (try clear hk); (try clear hi)) | (go_at_call 3; (with_reducible refine (selvedgelaw21_BreaksMeasures.calls kj69 _ _ y330 (wrap64 (x6_2 - 2)) (wrap64 (x6_2 - 1)) false _ ?side1 ?side2 A98.out).mono ?_); (case side1 => repeat (first | exact (Kd.R_reads' HO332.out).2.2 | (with_reducible refine Kd.C_alloc ?_ _) | (with_reducible refine Kd.C_drewN ?_ _) | (with_reducible refine Kd.C_drew ?_))); (case side2 => exact (Kd.R_reads' HO332.out).2.1); rintro e w115 ⟨rfl, hb⟩; have n0_ := Aside0.mk (Kd.R_below (mvR HO332) hb); have n1_ := Aside0.mk (blk_below (g := gb329) (o := .cells #[.int .i32 97, .int .i64 x330001_69, .int .i64 x330002_69, .int .i64 x330003_69] 36 (0, 0)) (by (with_reducible repeat (first | refine blk_drewN ?_ _ | refine blk_drew ?_ | refine blk_alloc ?_ _)); exact BK329.out) hb); have n2_ := Aside0.mk (below_step (by repeat (first | (with_reducible first | exact HB.out | apply below_alloc | apply pw_below_drewN | apply below_drew1 | refine below_set ?_ GE329.out) | exact HB.out)) hb); clear HO332; clear BK329; clear HB; have HO332 := n0_; have BK329 := n1_; have HB := n2_; clear n0_ n1_ n2_; (try clear hb); (try clear hb2); (try clear hk); (try clear hi)))
             go_ret
             exact ⟨by first | rfl | (simp [errW_none, errW_some] <;> rfl) | (simp [*, errW_none, errW_some] <;> rfl), by repeat (first | (with_reducible first | exact HB.out | apply below_alloc | apply pw_below_drewN | apply below_drew1 | refine below_set ?_ GE329.out) | exact HB.out)⟩
           ·replace c97 := Bool.eq_false_iff.mpr c97
            subst c97
            have H1 : (some false) = some r := by rw [if_neg (show ¬ (false = true) by decide)] at H; exact H
            clear H
            have H := H1
            clear H1
            obtain rfl := Option.some.inj H
            have hcz116_0 : wc.cell? ⟨gb329, 0, none⟩ = some (.int .i32 97) := (blk_cell BK329.out 0).trans rfl
            have hcz116_1 : wc.cell? ⟨gb329, 1, none⟩ = some (.int .i64 x330001_69) := (blk_cell BK329.out 1).trans rfl
            have hcz116_2 : wc.cell? ⟨gb329, 2, none⟩ = some (.int .i64 x330002_69) := (blk_cell BK329.out 2).trans rfl
            have hcz116_3 : wc.cell? ⟨gb329, 3, none⟩ = some (.int .i64 x330003_69) := (blk_cell BK329.out 3).trans rfl
            have hfz116_0 := blk_frozen BK329.out 0
            have hfz116_1 := blk_frozen BK329.out 1
            have hfz116_2 := blk_frozen BK329.out 2
            have hfz116_3 := blk_frozen BK329.out 3
            go_wp2_with (first | ((with_reducible refine gate_dst (N := 137) rfl ?_); (try (refine gate_guard (by rfl) ?_; dsimp only)); refine Kd.R_lit k36 _ 36 ?hg (N := 137) ?hd (xs := ([(⟨97, 1, 0, 0⟩ : S36), (⟨32, 1, 0, 0⟩ : S36), (⟨97, x330001_69, x330002_69, x330003_69⟩ : S36)] : List (S36))) (inner := [.int .i32 97, .int .i64 1, .int .i64 0, .int .i64 0, .int .i32 32, .int .i64 1, .int .i64 0, .int .i64 0, .int .i32 97, .int .i64 x330001_69, .int .i64 x330002_69, .int .i64 x330003_69]) (ok := fun _ => True) (okp := fun _ => True) ?hr ?hp (fun _ hk => hk) trivial (Below.refl _ _) (Nat.le_refl _) (by simp) ?_; (case hd => rfl); (case hg => rfl); (case hr => first | (go_simp; done) | (go_simp; rfl)); (case hp => exact (Reps.c4 (show Kd.M k36 _ _ _ (⟨97, 1, 0, 0⟩ : S36) [.int .i32 97, .int .i64 1, .int .i64 0, .int .i64 0] from (k36_mkM _ _ _ (⟨97, 1, 0, 0⟩ : S36) )) (Reps.c4 (show Kd.M k36 _ _ _ (⟨32, 1, 0, 0⟩ : S36) [.int .i32 32, .int .i64 1, .int .i64 0, .int .i64 0] from (k36_mkM _ _ _ (⟨32, 1, 0, 0⟩ : S36) )) (Reps.c4 (show Kd.M k36 _ _ _ (⟨97, x330001_69, x330002_69, x330003_69⟩ : S36) [.int .i32 97, .int .i64 x330001_69, .int .i64 x330002_69, .int .i64 x330003_69] from (k36_mkM _ _ _ (⟨97, x330001_69, x330002_69, x330003_69⟩ : S36) )) (Reps.none _ _))))); intro v331 w117 ho118 hb hg_ hnew_; clear hg_ hnew_; (first | rw [← Ny330.out] at ho118 | (simp only [Int.reduceToNat] at ho118; rw [← Ny330.out] at ho118)); have n0_ := Aside0.mk (Kd.R_lower (Kd.R_newB ho118 (g := gb329) (o := .cells #[.int .i32 97, .int .i64 x330001_69, .int .i64 x330002_69, .int .i64 x330003_69] 36 (0, 0)) (by (with_reducible repeat (first | refine blk_drewN ?_ _ | refine blk_drew ?_ | refine blk_alloc ?_ _)); exact BK329.out)) (below_size (by repeat (first | (with_reducible first | exact HB.out | apply below_alloc | apply pw_below_drewN | apply below_drew1 | refine below_set ?_ GE329.out) | exact HB.out)))); have n1_ := Aside0.mk (blk_below (g := gb329) (o := .cells #[.int .i32 97, .int .i64 x330001_69, .int .i64 x330002_69, .int .i64 x330003_69] 36 (0, 0)) (by (with_reducible repeat (first | refine blk_drewN ?_ _ | refine blk_drew ?_ | refine blk_alloc ?_ _)); exact BK329.out) hb); have n2_ := Aside0.mk (below_step (by repeat (first | (with_reducible first | exact HB.out | apply below_alloc | apply pw_below_drewN | apply below_drew1 | refine below_set ?_ GE329.out) | exact HB.out)) hb); clear BK329; clear HB; have HO332 := n0_; have BK329 := n1_; have HB := n2_; clear n0_ n1_ n2_; clear hb ho118; obtain ⟨Ao119, co119, eo119⟩ := Kd.R_slice HO332.out; subst eo119) | ((with_reducible refine gate_callee (f := 7) rfl ?_); refine goesL_ (some 140) rfl rfl Try.func7 (by kernel_rfl) rfl #[.slice Ao119 y330.length co119, .int .i64 x8_69] rfl (by (try simp only [List.map_toArray, List.map_cons, List.map_nil]); first | done | rfl | (simp only [List.length_drop, List.length_take]; rfl)) ?_; (with_reducible refine (selvedgelaw21_BreaksLines.calls kj69 _ _ y330 x8_69 true _ ?side1 ?side2 A92.out).mono ?_); (case side1 => repeat (first | exact (Kd.R_reads' HO332.out).2.2 | (with_reducible refine Kd.C_alloc ?_ _) | (with_reducible refine Kd.C_drewN ?_ _) | (with_reducible refine Kd.C_drew ?_))); (case side2 => exact (Kd.R_reads' HO332.out).2.1); rintro e w120 ⟨rfl, hb⟩; refine ⟨_, rfl, ?_⟩; have n0_ := Aside0.mk (Kd.R_below (mvR HO332) hb); have n1_ := Aside0.mk (blk_below (g := gb329) (o := .cells #[.int .i32 97, .int .i64 x330001_69, .int .i64 x330002_69, .int .i64 x330003_69] 36 (0, 0)) (by (with_reducible repeat (first | refine blk_drewN ?_ _ | refine blk_drew ?_ | refine blk_alloc ?_ _)); exact BK329.out) hb); have n2_ := Aside0.mk (below_step (by repeat (first | (with_reducible first | exact HB.out | apply below_alloc | apply pw_below_drewN | apply below_drew1 | refine below_set ?_ GE329.out) | exact HB.out)) hb); clear HO332; clear BK329; clear HB; have HO332 := n0_; have BK329 := n1_; have HB := n2_; clear n0_ n1_ n2_; (try clear hb); (try clear hb2); (try clear hk); (try clear hi)) | (go_at_call 3; (with_reducible refine (selvedgelaw21_BreaksMeasures.calls kj69 _ _ y330 0 3 true _ ?side1 ?side2 A94.out).mono ?_); (case side1 => repeat (first | exact (Kd.R_reads' HO332.out).2.2 | (with_reducible refine Kd.C_alloc ?_ _) | (with_reducible refine Kd.C_drewN ?_ _) | (with_reducible refine Kd.C_drew ?_))); (case side2 => exact (Kd.R_reads' HO332.out).2.1); rintro e w121 ⟨rfl, hb⟩; have n0_ := Aside0.mk (Kd.R_below (mvR HO332) hb); have n1_ := Aside0.mk (blk_below (g := gb329) (o := .cells #[.int .i32 97, .int .i64 x330001_69, .int .i64 x330002_69, .int .i64 x330003_69] 36 (0, 0)) (by (with_reducible repeat (first | refine blk_drewN ?_ _ | refine blk_drew ?_ | refine blk_alloc ?_ _)); exact BK329.out) hb); have n2_ := Aside0.mk (below_step (by repeat (first | (with_reducible first | exact HB.out | apply below_alloc | apply pw_below_drewN | apply below_drew1 | refine below_set ?_ GE329.out) | exact HB.out)) hb); clear HO332; clear BK329; clear HB; have HO332 := n0_; have BK329 := n1_; have HB := n2_; clear n0_ n1_ n2_; (try clear hb); (try clear hb2); (try clear hk); (try clear hi)) | (go_at_call 8; (with_reducible refine (selvedgelaw21_BreaksFit.calls kj69 _ _ y330 x8_69 1 false _ ?side1 ?side2 A96.out).mono ?_); (case side1 => repeat (first | exact (Kd.R_reads' HO332.out).2.2 | (with_reducible refine Kd.C_alloc ?_ _) | (with_reducible refine Kd.C_drewN ?_ _) | (with_reducible refine Kd.C_drew ?_))); (case side2 => exact (Kd.R_reads' HO332.out).2.1); rintro e w122 ⟨rfl, hb⟩; have n0_ := Aside0.mk (Kd.R_below (mvR HO332) hb); have n1_ := Aside0.mk (blk_below (g := gb329) (o := .cells #[.int .i32 97, .int .i64 x330001_69, .int .i64 x330002_69, .int .i64 x330003_69] 36 (0, 0)) (by (with_reducible repeat (first | refine blk_drewN ?_ _ | refine blk_drew ?_ | refine blk_alloc ?_ _)); exact BK329.out) hb); have n2_ := Aside0.mk (below_step (by repeat (first | (with_reducible first | exact HB.out | apply below_alloc | apply pw_below_drewN | apply below_drew1 | refine below_set ?_ GE329.out) | exact HB.out)) hb); clear HO332; clear BK329; clear HB; have HO332 := n0_; have BK329 := n1_; have HB := n2_; clear n0_ n1_ n2_; (try clear hb); (try clear hb2); (try clear hk); (try clear hi)))
            go_ret
            exact ⟨by first | rfl | (simp [errW_none, errW_some] <;> rfl) | (simp [*, errW_none, errW_some] <;> rfl), by repeat (first | (with_reducible first | exact HB.out | apply below_alloc | apply pw_below_drewN | apply below_drew1 | refine below_set ?_ GE329.out) | exact HB.out)⟩
          ·replace c95 := Bool.eq_false_iff.mpr c95
           subst c95
           have H1 : (some false) = some r := by rw [if_neg (show ¬ (false = true) by decide)] at H; exact H
           clear H
           have H := H1
           clear H1
           obtain rfl := Option.some.inj H
           have hcz123_0 : wc.cell? ⟨gb329, 0, none⟩ = some (.int .i32 97) := (blk_cell BK329.out 0).trans rfl
           have hcz123_1 : wc.cell? ⟨gb329, 1, none⟩ = some (.int .i64 x330001_69) := (blk_cell BK329.out 1).trans rfl
           have hcz123_2 : wc.cell? ⟨gb329, 2, none⟩ = some (.int .i64 x330002_69) := (blk_cell BK329.out 2).trans rfl
           have hcz123_3 : wc.cell? ⟨gb329, 3, none⟩ = some (.int .i64 x330003_69) := (blk_cell BK329.out 3).trans rfl
           have hfz123_0 := blk_frozen BK329.out 0
           have hfz123_1 := blk_frozen BK329.out 1
           have hfz123_2 := blk_frozen BK329.out 2
           have hfz123_3 := blk_frozen BK329.out 3
           go_wp2_with (first | ((with_reducible refine gate_dst (N := 137) rfl ?_); (try (refine gate_guard (by rfl) ?_; dsimp only)); refine Kd.R_lit k36 _ 36 ?hg (N := 137) ?hd (xs := ([(⟨97, 1, 0, 0⟩ : S36), (⟨32, 1, 0, 0⟩ : S36), (⟨97, x330001_69, x330002_69, x330003_69⟩ : S36)] : List (S36))) (inner := [.int .i32 97, .int .i64 1, .int .i64 0, .int .i64 0, .int .i32 32, .int .i64 1, .int .i64 0, .int .i64 0, .int .i32 97, .int .i64 x330001_69, .int .i64 x330002_69, .int .i64 x330003_69]) (ok := fun _ => True) (okp := fun _ => True) ?hr ?hp (fun _ hk => hk) trivial (Below.refl _ _) (Nat.le_refl _) (by simp) ?_; (case hd => rfl); (case hg => rfl); (case hr => first | (go_simp; done) | (go_simp; rfl)); (case hp => exact (Reps.c4 (show Kd.M k36 _ _ _ (⟨97, 1, 0, 0⟩ : S36) [.int .i32 97, .int .i64 1, .int .i64 0, .int .i64 0] from (k36_mkM _ _ _ (⟨97, 1, 0, 0⟩ : S36) )) (Reps.c4 (show Kd.M k36 _ _ _ (⟨32, 1, 0, 0⟩ : S36) [.int .i32 32, .int .i64 1, .int .i64 0, .int .i64 0] from (k36_mkM _ _ _ (⟨32, 1, 0, 0⟩ : S36) )) (Reps.c4 (show Kd.M k36 _ _ _ (⟨97, x330001_69, x330002_69, x330003_69⟩ : S36) [.int .i32 97, .int .i64 x330001_69, .int .i64 x330002_69, .int .i64 x330003_69] from (k36_mkM _ _ _ (⟨97, x330001_69, x330002_69, x330003_69⟩ : S36) )) (Reps.none _ _))))); intro v331 w124 ho125 hb hg_ hnew_; clear hg_ hnew_; (first | rw [← Ny330.out] at ho125 | (simp only [Int.reduceToNat] at ho125; rw [← Ny330.out] at ho125)); have n0_ := Aside0.mk (Kd.R_lower (Kd.R_newB ho125 (g := gb329) (o := .cells #[.int .i32 97, .int .i64 x330001_69, .int .i64 x330002_69, .int .i64 x330003_69] 36 (0, 0)) (by (with_reducible repeat (first | refine blk_drewN ?_ _ | refine blk_drew ?_ | refine blk_alloc ?_ _)); exact BK329.out)) (below_size (by repeat (first | (with_reducible first | exact HB.out | apply below_alloc | apply pw_below_drewN | apply below_drew1 | refine below_set ?_ GE329.out) | exact HB.out)))); have n1_ := Aside0.mk (blk_below (g := gb329) (o := .cells #[.int .i32 97, .int .i64 x330001_69, .int .i64 x330002_69, .int .i64 x330003_69] 36 (0, 0)) (by (with_reducible repeat (first | refine blk_drewN ?_ _ | refine blk_drew ?_ | refine blk_alloc ?_ _)); exact BK329.out) hb); have n2_ := Aside0.mk (below_step (by repeat (first | (with_reducible first | exact HB.out | apply below_alloc | apply pw_below_drewN | apply below_drew1 | refine below_set ?_ GE329.out) | exact HB.out)) hb); clear BK329; clear HB; have HO332 := n0_; have BK329 := n1_; have HB := n2_; clear n0_ n1_ n2_; clear hb ho125; obtain ⟨Ao126, co126, eo126⟩ := Kd.R_slice HO332.out; subst eo126) | ((with_reducible refine gate_callee (f := 7) rfl ?_); refine goesL_ (some 140) rfl rfl Try.func7 (by kernel_rfl) rfl #[.slice Ao126 y330.length co126, .int .i64 x8_69] rfl (by (try simp only [List.map_toArray, List.map_cons, List.map_nil]); first | done | rfl | (simp only [List.length_drop, List.length_take]; rfl)) ?_; (with_reducible refine (selvedgelaw21_BreaksLines.calls kj69 _ _ y330 x8_69 true _ ?side1 ?side2 A92.out).mono ?_); (case side1 => repeat (first | exact (Kd.R_reads' HO332.out).2.2 | (with_reducible refine Kd.C_alloc ?_ _) | (with_reducible refine Kd.C_drewN ?_ _) | (with_reducible refine Kd.C_drew ?_))); (case side2 => exact (Kd.R_reads' HO332.out).2.1); rintro e w127 ⟨rfl, hb⟩; refine ⟨_, rfl, ?_⟩; have n0_ := Aside0.mk (Kd.R_below (mvR HO332) hb); have n1_ := Aside0.mk (blk_below (g := gb329) (o := .cells #[.int .i32 97, .int .i64 x330001_69, .int .i64 x330002_69, .int .i64 x330003_69] 36 (0, 0)) (by (with_reducible repeat (first | refine blk_drewN ?_ _ | refine blk_drew ?_ | refine blk_alloc ?_ _)); exact BK329.out) hb); have n2_ := Aside0.mk (below_step (by repeat (first | (with_reducible first | exact HB.out | apply below_alloc | apply pw_below_drewN | apply below_drew1 | refine below_set ?_ GE329.out) | exact HB.out)) hb); clear HO332; clear BK329; clear HB; have HO332 := n0_; have BK329 := n1_; have HB := n2_; clear n0_ n1_ n2_; (try clear hb); (try clear hb2); (try clear hk); (try clear hi)) | (go_at_call 3; (with_reducible refine (selvedgelaw21_BreaksMeasures.calls kj69 _ _ y330 0 3 false _ ?side1 ?side2 A94.out).mono ?_); (case side1 => repeat (first | exact (Kd.R_reads' HO332.out).2.2 | (with_reducible refine Kd.C_alloc ?_ _) | (with_reducible refine Kd.C_drewN ?_ _) | (with_reducible refine Kd.C_drew ?_))); (case side2 => exact (Kd.R_reads' HO332.out).2.1); rintro e w128 ⟨rfl, hb⟩; have n0_ := Aside0.mk (Kd.R_below (mvR HO332) hb); have n1_ := Aside0.mk (blk_below (g := gb329) (o := .cells #[.int .i32 97, .int .i64 x330001_69, .int .i64 x330002_69, .int .i64 x330003_69] 36 (0, 0)) (by (with_reducible repeat (first | refine blk_drewN ?_ _ | refine blk_drew ?_ | refine blk_alloc ?_ _)); exact BK329.out) hb); have n2_ := Aside0.mk (below_step (by repeat (first | (with_reducible first | exact HB.out | apply below_alloc | apply pw_below_drewN | apply below_drew1 | refine below_set ?_ GE329.out) | exact HB.out)) hb); clear HO332; clear BK329; clear HB; have HO332 := n0_; have BK329 := n1_; have HB := n2_; clear n0_ n1_ n2_; (try clear hb); (try clear hb2); (try clear hk); (try clear hi)))
           go_ret
           exact ⟨by first | rfl | (simp [errW_none, errW_some] <;> rfl) | (simp [*, errW_none, errW_some] <;> rfl), by repeat (first | (with_reducible first | exact HB.out | apply below_alloc | apply pw_below_drewN | apply below_drew1 | refine below_set ?_ GE329.out) | exact HB.out)⟩
         ·replace c93 := Bool.eq_false_iff.mpr c93
          subst c93
          have H1 : (some false) = some r := by rw [if_neg (show ¬ (false = true) by decide)] at H; exact H
          clear H
          have H := H1
          clear H1
          obtain rfl := Option.some.inj H
          have hcz129_0 : wc.cell? ⟨gb329, 0, none⟩ = some (.int .i32 97) := (blk_cell BK329.out 0).trans rfl
          have hcz129_1 : wc.cell? ⟨gb329, 1, none⟩ = some (.int .i64 x330001_69) := (blk_cell BK329.out 1).trans rfl
          have hcz129_2 : wc.cell? ⟨gb329, 2, none⟩ = some (.int .i64 x330002_69) := (blk_cell BK329.out 2).trans rfl
          have hcz129_3 : wc.cell? ⟨gb329, 3, none⟩ = some (.int .i64 x330003_69) := (blk_cell BK329.out 3).trans rfl
          have hfz129_0 := blk_frozen BK329.out 0
          have hfz129_1 := blk_frozen BK329.out 1
          have hfz129_2 := blk_frozen BK329.out 2
          have hfz129_3 := blk_frozen BK329.out 3
          go_wp2_with (first | ((with_reducible refine gate_dst (N := 137) rfl ?_); (try (refine gate_guard (by rfl) ?_; dsimp only)); refine Kd.R_lit k36 _ 36 ?hg (N := 137) ?hd (xs := ([(⟨97, 1, 0, 0⟩ : S36), (⟨32, 1, 0, 0⟩ : S36), (⟨97, x330001_69, x330002_69, x330003_69⟩ : S36)] : List (S36))) (inner := [.int .i32 97, .int .i64 1, .int .i64 0, .int .i64 0, .int .i32 32, .int .i64 1, .int .i64 0, .int .i64 0, .int .i32 97, .int .i64 x330001_69, .int .i64 x330002_69, .int .i64 x330003_69]) (ok := fun _ => True) (okp := fun _ => True) ?hr ?hp (fun _ hk => hk) trivial (Below.refl _ _) (Nat.le_refl _) (by simp) ?_; (case hd => rfl); (case hg => rfl); (case hr => first | (go_simp; done) | (go_simp; rfl)); (case hp => exact (Reps.c4 (show Kd.M k36 _ _ _ (⟨97, 1, 0, 0⟩ : S36) [.int .i32 97, .int .i64 1, .int .i64 0, .int .i64 0] from (k36_mkM _ _ _ (⟨97, 1, 0, 0⟩ : S36) )) (Reps.c4 (show Kd.M k36 _ _ _ (⟨32, 1, 0, 0⟩ : S36) [.int .i32 32, .int .i64 1, .int .i64 0, .int .i64 0] from (k36_mkM _ _ _ (⟨32, 1, 0, 0⟩ : S36) )) (Reps.c4 (show Kd.M k36 _ _ _ (⟨97, x330001_69, x330002_69, x330003_69⟩ : S36) [.int .i32 97, .int .i64 x330001_69, .int .i64 x330002_69, .int .i64 x330003_69] from (k36_mkM _ _ _ (⟨97, x330001_69, x330002_69, x330003_69⟩ : S36) )) (Reps.none _ _))))); intro v331 w130 ho131 hb hg_ hnew_; clear hg_ hnew_; (first | rw [← Ny330.out] at ho131 | (simp only [Int.reduceToNat] at ho131; rw [← Ny330.out] at ho131)); have n0_ := Aside0.mk (Kd.R_lower (Kd.R_newB ho131 (g := gb329) (o := .cells #[.int .i32 97, .int .i64 x330001_69, .int .i64 x330002_69, .int .i64 x330003_69] 36 (0, 0)) (by (with_reducible repeat (first | refine blk_drewN ?_ _ | refine blk_drew ?_ | refine blk_alloc ?_ _)); exact BK329.out)) (below_size (by repeat (first | (with_reducible first | exact HB.out | apply below_alloc | apply pw_below_drewN | apply below_drew1 | refine below_set ?_ GE329.out) | exact HB.out)))); have n1_ := Aside0.mk (blk_below (g := gb329) (o := .cells #[.int .i32 97, .int .i64 x330001_69, .int .i64 x330002_69, .int .i64 x330003_69] 36 (0, 0)) (by (with_reducible repeat (first | refine blk_drewN ?_ _ | refine blk_drew ?_ | refine blk_alloc ?_ _)); exact BK329.out) hb); have n2_ := Aside0.mk (below_step (by repeat (first | (with_reducible first | exact HB.out | apply below_alloc | apply pw_below_drewN | apply below_drew1 | refine below_set ?_ GE329.out) | exact HB.out)) hb); clear BK329; clear HB; have HO332 := n0_; have BK329 := n1_; have HB := n2_; clear n0_ n1_ n2_; clear hb ho131; obtain ⟨Ao132, co132, eo132⟩ := Kd.R_slice HO332.out; subst eo132) | ((with_reducible refine gate_callee (f := 7) rfl ?_); refine goesL_ (some 140) rfl rfl Try.func7 (by kernel_rfl) rfl #[.slice Ao132 y330.length co132, .int .i64 x8_69] rfl (by (try simp only [List.map_toArray, List.map_cons, List.map_nil]); first | done | rfl | (simp only [List.length_drop, List.length_take]; rfl)) ?_; (with_reducible refine (selvedgelaw21_BreaksLines.calls kj69 _ _ y330 x8_69 false _ ?side1 ?side2 A92.out).mono ?_); (case side1 => repeat (first | exact (Kd.R_reads' HO332.out).2.2 | (with_reducible refine Kd.C_alloc ?_ _) | (with_reducible refine Kd.C_drewN ?_ _) | (with_reducible refine Kd.C_drew ?_))); (case side2 => exact (Kd.R_reads' HO332.out).2.1); rintro e w133 ⟨rfl, hb⟩; refine ⟨_, rfl, ?_⟩; have n0_ := Aside0.mk (Kd.R_below (mvR HO332) hb); have n1_ := Aside0.mk (blk_below (g := gb329) (o := .cells #[.int .i32 97, .int .i64 x330001_69, .int .i64 x330002_69, .int .i64 x330003_69] 36 (0, 0)) (by (with_reducible repeat (first | refine blk_drewN ?_ _ | refine blk_drew ?_ | refine blk_alloc ?_ _)); exact BK329.out) hb); have n2_ := Aside0.mk (below_step (by repeat (first | (with_reducible first | exact HB.out | apply below_alloc | apply pw_below_drewN | apply below_drew1 | refine below_set ?_ GE329.out) | exact HB.out)) hb); clear HO332; clear BK329; clear HB; have HO332 := n0_; have BK329 := n1_; have HB := n2_; clear n0_ n1_ n2_; (try clear hb); (try clear hb2); (try clear hk); (try clear hi)))
          go_ret
          exact ⟨by first | rfl | (simp [errW_none, errW_some] <;> rfl) | (simp [*, errW_none, errW_some] <;> rfl), by repeat (first | (with_reducible first | exact HB.out | apply below_alloc | apply pw_below_drewN | apply below_drew1 | refine below_set ?_ GE329.out) | exact HB.out)⟩
      ·rw [if_neg c69] at H
       have c69b0 : decide (x6_2 < 12) = false := decide_eq_false c69
       clear c69
       by_cases c134 : 65537 ≤ 8796093022208
       ·rw [if_pos c134] at H
        have c134b0 := eq_true c134
        have c134b1 : decide (65537 ≤ 8796093022208) = true := decide_eq_true c134
        clear c134
        obtain ⟨y337, hy337⟩ : ∃ y_ : List (S36), y_ = (List.replicate 65537 z36) := ⟨_, rfl⟩
        replace H : (if 1 ≤ (y337.length : Int) then ((breaks_Lines.f (y337.drop 1) 1).bind fun bt344 => ((selvedgelaw21_BreaksLines.f k2 y337 1).bind fun t348 => (if t348 = true then ((selvedgelaw21_BreaksMeasures.f k2 y337 0 0).bind fun t349 => (if t349 = true then (if bt344.2 = 0 then (if (bt344.1.length : Int) = 1 then ((selvedgelaw21_works.f k2).bind fun t350 => (some t350)) else (some false)) else (some false)) else (some false))) else (some false)))) else (none)) = some r := by first | (rw [hy337]; with_reducible exact H) | (have H2_ := (Option.bind_some _ _).symm.trans H; rw [hy337]; with_reducible exact H2_) | (have H2_ := (Option.bind_some _ _).symm.trans H; with_reducible exact H2_) | with_reducible exact H | (rw [hy337]; exact H) | exact H
        have Ny337 := Aside0.mk hy337
        clear hy337
        by_cases c135 : 1 ≤ (y337.length : Int)
        ·rw [if_pos c135] at H
         have c135b0 := eq_true c135
         have c135b1 : decide (1 ≤ (y337.length : Int)) = true := decide_eq_true c135
         clear c135
         obtain ⟨y340, hy340⟩ : ∃ y_ : List (S36), y_ = (y337.drop 1) := ⟨_, rfl⟩
         replace H : ((breaks_Lines.f y340 1).bind fun bt344 => ((selvedgelaw21_BreaksLines.f k2 y337 1).bind fun t348 => (if t348 = true then ((selvedgelaw21_BreaksMeasures.f k2 y337 0 0).bind fun t349 => (if t349 = true then (if bt344.2 = 0 then (if (bt344.1.length : Int) = 1 then ((selvedgelaw21_works.f k2).bind fun t350 => (some t350)) else (some false)) else (some false)) else (some false))) else (some false)))) = some r := by first | (rw [hy340]; with_reducible exact H) | (have H2_ := (Option.bind_some _ _).symm.trans H; rw [hy340]; with_reducible exact H2_) | (have H2_ := (Option.bind_some _ _).symm.trans H; with_reducible exact H2_) | with_reducible exact H | (rw [hy340]; exact H) | exact H
         have Ny340 := Aside0.mk hy340
         clear hy340
         replace H := Option.bind_eq_some_iff.mp H
         obtain ⟨⟨t344, t345⟩, A1360, H⟩ := H
         replace H : ((selvedgelaw21_BreaksLines.f k2 y337 1).bind fun t348 => (if t348 = true then ((selvedgelaw21_BreaksMeasures.f k2 y337 0 0).bind fun t349 => (if t349 = true then (if t345 = 0 then (if (t344.length : Int) = 1 then ((selvedgelaw21_works.f k2).bind fun t350 => (some t350)) else (some false)) else (some false)) else (some false))) else (some false))) = some r := H
         have A136 := Aside0.mk A1360
         clear A1360
         replace H := Option.bind_eq_some_iff.mp H
         obtain ⟨t348, A1370, H⟩ := H
         replace H : (if t348 = true then ((selvedgelaw21_BreaksMeasures.f k2 y337 0 0).bind fun t349 => (if t349 = true then (if t345 = 0 then (if (t344.length : Int) = 1 then ((selvedgelaw21_works.f k2).bind fun t350 => (some t350)) else (some false)) else (some false)) else (some false))) else (some false)) = some r := H
         have A137 := Aside0.mk A1370
         clear A1370
         by_cases c138 : t348 = true
         ·subst c138
          have H1 : ((selvedgelaw21_BreaksMeasures.f k2 y337 0 0).bind fun t349 => (if t349 = true then (if t345 = 0 then (if (t344.length : Int) = 1 then ((selvedgelaw21_works.f k2).bind fun t350 => (some t350)) else (some false)) else (some false)) else (some false))) = some r := by rw [if_pos rfl] at H; exact H
          clear H
          have H := H1
          clear H1
          replace H := Option.bind_eq_some_iff.mp H
          obtain ⟨t349, A1390, H⟩ := H
          replace H : (if t349 = true then (if t345 = 0 then (if (t344.length : Int) = 1 then ((selvedgelaw21_works.f k2).bind fun t350 => (some t350)) else (some false)) else (some false)) else (some false)) = some r := H
          have A139 := Aside0.mk A1390
          clear A1390
          by_cases c140 : t349 = true
          ·subst c140
           have H1 : (if t345 = 0 then (if (t344.length : Int) = 1 then ((selvedgelaw21_works.f k2).bind fun t350 => (some t350)) else (some false)) else (some false)) = some r := by rw [if_pos rfl] at H; exact H
           clear H
           have H := H1
           clear H1
           by_cases c141 : t345 = 0
           ·rw [if_pos c141] at H
            have c141b0 : (t345 == 0) = true := beq_iff_eq.mpr c141
            have c141b1 : (t345 != 0) = false := bne_eq_false_iff_eq.mpr c141
            clear c141
            by_cases c142 : (t344.length : Int) = 1
            ·rw [if_pos c142] at H
             have c142b0 : ((t344.length : Int) == 1) = true := beq_iff_eq.mpr c142
             have c142b1 : ((t344.length : Int) != 1) = false := bne_eq_false_iff_eq.mpr c142
             clear c142
             replace H := Option.bind_eq_some_iff.mp H
             obtain ⟨t350, A1430, H⟩ := H
             replace H : (some t350) = some r := H
             have A143 := Aside0.mk A1430
             clear A1430
             obtain rfl := Option.some.inj H
             go_wp2_with (first | ((with_reducible refine gate_dst (N := 162) rfl ?_); (try (refine gate_guard (by rfl) ?_; dsimp only)); refine Kd.R_make k36 _ 36 rfl (N := 162) rfl 22 _ _ rfl 65537 rfl rfl Try.underlying22 (.agg #[(.int .i32 0), (.int .i64 0), (.int .i64 0), (.int .i64 0)]) 32 info36 rfl (by decide) (by omega) z36 (ok := fun _ => True) (okp := fun _ => True) (k36_mkM _ _ _ z36 ) (fun _ hk => hk) trivial (by omega) (by omega) (Below.refl _ _) (Nat.le_refl _) ?_; intro v338 w144 ho145 hb hg_ hnew_; clear hg_ hnew_; (first | rw [← Ny337.out] at ho145 | (simp only [Int.reduceToNat] at ho145; rw [← Ny337.out] at ho145)); have n0_ := Aside0.mk (Kd.R_lower ho145 (below_size (mvB HB))); have n1_ := Aside0.mk (below_step (mvB HB) hb); clear HB; have HO339 := n0_; have HB := n1_; clear n0_ n1_; clear hb ho145; obtain ⟨Ao147, co147, eo147⟩ := Kd.R_slice HO339.out; subst eo147; have q146 : (1 : Int) ≤ ((y337.length : Int) : Int) := of_decide_eq_true (by first | (with_reducible assumption) | assumption); obtain ⟨i0146, hi0146, _, hsz146, _⟩ := info_parts info36; have hroom146 : y337.length ≤ co147 := (Kd.R_reads' HO339.out).2.1; have hC146 : Kd.C k36 _ Ao147 y337.length y337 := (Kd.R_reads' HO339.out).2.2; have hcut146 := cut_from (P := Try.prog) 22 36 .i64 Try.underlying22 hi0146 4 hsz146 Ao147 y337.length co147 1 (by omega) q146; have hr146 := Kd.C_drop (m := (1 : Int).toNat) (c := co147) hC146 (by omega) hroom146; obtain ⟨A146, hA146⟩ : ∃ A1, A1 = (if co147 = (1 : Int).toNat then Ao147 else (Ao147 : Option Addr).map (·.add ((1 : Int).toNat * 4))) := ⟨_, rfl⟩; obtain ⟨c146, hc146⟩ : ∃ c1, c1 = co147 - (1 : Int).toNat := ⟨_, rfl⟩; have hy146 : y340.length = y337.length - (1 : Int).toNat := (by rw [Ny340.out, List.length_drop] <;> omega); rw [show (y337).drop (1 : Int).toNat = y340 from Ny340.out.symm] at hr146; replace hr146 : Kd.C k36 _ A146 y340.length y340 := (by rw [hA146]; exact hr146); rw [← hy146, ← hA146, ← hc146] at hcut146; have HR343 := Aside0.mk hr146; have HC343 := Aside0.mk (show y340.length ≤ c146 from by rw [hy146, hc146]; exact Nat.sub_le_sub_right hroom146 _); clear hr146 hC146 hroom146 hi0146 hsz146 hc146; have KY146 := Aside0.mk hy146; have KA146 := Aside0.mk hA146; clear hy146 hA146; have KL146 := Aside0.mk (show 1 ≤ y337.length from by omega); replace q146 := eq_true q146) | ((with_reducible refine gate_callee (f := 14) rfl ?_); refine goesL_ (some 166) rfl rfl Try.func14 (by kernel_rfl) rfl #[.slice A146 y340.length c146, .int .i64 1] rfl (by (try simp only [List.map_toArray, List.map_cons, List.map_nil]); first | done | rfl | (simp only [List.length_drop, List.length_take]; rfl)) ?_; (with_reducible refine (breaks_Lines.calls _ _ y340 1 t344 t345 _ ?side1 ?side2 A136.out).mono ?_); (case side1 => repeat (first | exact (by repeat (first | (with_reducible exact HR343.out) | (with_reducible refine Kd.C_alloc ?_ _) | (with_reducible refine Kd.C_drewN ?_ _) | (with_reducible refine Kd.C_drew ?_) | exact HR343.out)) | (with_reducible refine Kd.C_alloc ?_ _) | (with_reducible refine Kd.C_drewN ?_ _) | (with_reducible refine Kd.C_drew ?_))); (case side2 => exact HC343.out); rintro e w148 ⟨v346, rfl, ho0, hb⟩; refine ⟨_, rfl, ?_⟩; have n0_ := Aside0.mk (Kd.R_below (mvR HO339) hb); have n1_ := Aside0.mk (Kd.R_lower ho0 (below_size (mvB HB))); have n2_ := Aside0.mk (Kd.C_below (by repeat (first | (with_reducible exact HR343.out) | (with_reducible refine Kd.C_alloc ?_ _) | (with_reducible refine Kd.C_drewN ?_ _) | (with_reducible refine Kd.C_drew ?_) | exact HR343.out)) hb); have n3_ := Aside0.mk (below_step (mvB HB) hb); clear HO339; clear HR343; clear HB; have HO339 := n0_; have HO347 := n1_; have HR343 := n2_; have HB := n3_; clear n0_ n1_ n2_ n3_; (try clear hb); (try clear hb2); (try clear hk); (try clear hi); (try clear ho0)) | ((with_reducible refine gate_callee (f := 7) rfl ?_); refine goesL_ (some 170) rfl rfl Try.func7 (by kernel_rfl) rfl #[.slice Ao147 y337.length co147, .int .i64 1] rfl (by (try simp only [List.map_toArray, List.map_cons, List.map_nil]); first | done | rfl | (simp only [List.length_drop, List.length_take]; rfl)) ?_; (with_reducible refine (selvedgelaw21_BreaksLines.calls k2 _ _ y337 1 true _ ?side1 ?side2 A137.out).mono ?_); (case side1 => repeat (first | exact (Kd.R_reads' HO339.out).2.2 | (with_reducible refine Kd.C_alloc ?_ _) | (with_reducible refine Kd.C_drewN ?_ _) | (with_reducible refine Kd.C_drew ?_))); (case side2 => exact (Kd.R_reads' HO339.out).2.1); rintro e w149 ⟨rfl, hb⟩; refine ⟨_, rfl, ?_⟩; have n0_ := Aside0.mk (Kd.R_below (mvR HO339) hb); have n1_ := Aside0.mk (Kd.R_below (mvR HO347) hb); have n2_ := Aside0.mk (Kd.C_below (by repeat (first | (with_reducible exact HR343.out) | (with_reducible refine Kd.C_alloc ?_ _) | (with_reducible refine Kd.C_drewN ?_ _) | (with_reducible refine Kd.C_drew ?_) | exact HR343.out)) hb); have n3_ := Aside0.mk (below_step (mvB HB) hb); clear HO339; clear HO347; clear HR343; clear HB; have HO339 := n0_; have HO347 := n1_; have HR343 := n2_; have HB := n3_; clear n0_ n1_ n2_ n3_; (try clear hb); (try clear hb2); (try clear hk); (try clear hi)) | (go_at_call 3; (with_reducible refine (selvedgelaw21_BreaksMeasures.calls k2 _ _ y337 0 0 true _ ?side1 ?side2 A139.out).mono ?_); (case side1 => repeat (first | exact (Kd.R_reads' HO339.out).2.2 | (with_reducible refine Kd.C_alloc ?_ _) | (with_reducible refine Kd.C_drewN ?_ _) | (with_reducible refine Kd.C_drew ?_))); (case side2 => exact (Kd.R_reads' HO339.out).2.1); rintro e w150 ⟨rfl, hb⟩; have n0_ := Aside0.mk (Kd.R_below (mvR HO339) hb); have n1_ := Aside0.mk (Kd.R_below (mvR HO347) hb); have n2_ := Aside0.mk (Kd.C_below (by repeat (first | (with_reducible exact HR343.out) | (with_reducible refine Kd.C_alloc ?_ _) | (with_reducible refine Kd.C_drewN ?_ _) | (with_reducible refine Kd.C_drew ?_) | exact HR343.out)) hb); have n3_ := Aside0.mk (below_step (mvB HB) hb); clear HO339; clear HO347; clear HR343; clear HB; have HO339 := n0_; have HO347 := n1_; have HR343 := n2_; have HB := n3_; clear n0_ n1_ n2_ n3_; (try clear hb); (try clear hb2); (try clear hk); (try clear hi); obtain ⟨Ao151, co151, eo151⟩ := Kd.R_slice HO347.out; subst eo151) | (go_at_call 10; (with_reducible refine (selvedgelaw21_works.calls k2  t350 _ A143.out).mono ?_); rintro e w152 ⟨rfl, hb⟩; have n0_ := Aside0.mk (Kd.R_below (mvR HO339) hb); have n1_ := Aside0.mk (Kd.R_below (mvR HO347) hb); have n2_ := Aside0.mk (Kd.C_below (by repeat (first | (with_reducible exact HR343.out) | (with_reducible refine Kd.C_alloc ?_ _) | (with_reducible refine Kd.C_drewN ?_ _) | (with_reducible refine Kd.C_drew ?_) | exact HR343.out)) hb); have n3_ := Aside0.mk (below_step (mvB HB) hb); clear HO339; clear HO347; clear HR343; clear HB; have HO339 := n0_; have HO347 := n1_; have HR343 := n2_; have HB := n3_; clear n0_ n1_ n2_ n3_; (try clear hb); (try clear hb2); (try clear hk); (try clear hi)))
             go_ret
             exact ⟨by first | rfl | (simp [errW_none, errW_some] <;> rfl) | (simp [*, errW_none, errW_some] <;> rfl), mvB HB⟩
            ·rw [if_neg c142] at H
             have c142b0 : ((t344.length : Int) == 1) = false := beq_eq_false_iff_ne.mpr c142
             have c142b1 : ((t344.length : Int) != 1) = true := bne_iff_ne.mpr c142
             obtain rfl := Option.some.inj H
             go_wp2_with (first | ((with_reducible refine gate_dst (N := 162) rfl ?_); (try (refine gate_guard (by rfl) ?_; dsimp only)); refine Kd.R_make k36 _ 36 rfl (N := 162) rfl 22 _ _ rfl 65537 rfl rfl Try.underlying22 (.agg #[(.int .i32 0), (.int .i64 0), (.int .i64 0), (.int .i64 0)]) 32 info36 rfl (by decide) (by omega) z36 (ok := fun _ => True) (okp := fun _ => True) (k36_mkM _ _ _ z36 ) (fun _ hk => hk) trivial (by omega) (by omega) (Below.refl _ _) (Nat.le_refl _) ?_; intro v338 w153 ho154 hb hg_ hnew_; clear hg_ hnew_; (first | rw [← Ny337.out] at ho154 | (simp only [Int.reduceToNat] at ho154; rw [← Ny337.out] at ho154)); have n0_ := Aside0.mk (Kd.R_lower ho154 (below_size (mvB HB))); have n1_ := Aside0.mk (below_step (mvB HB) hb); clear HB; have HO339 := n0_; have HB := n1_; clear n0_ n1_; clear hb ho154; obtain ⟨Ao156, co156, eo156⟩ := Kd.R_slice HO339.out; subst eo156; have q155 : (1 : Int) ≤ ((y337.length : Int) : Int) := of_decide_eq_true (by first | (with_reducible assumption) | assumption); obtain ⟨i0155, hi0155, _, hsz155, _⟩ := info_parts info36; have hroom155 : y337.length ≤ co156 := (Kd.R_reads' HO339.out).2.1; have hC155 : Kd.C k36 _ Ao156 y337.length y337 := (Kd.R_reads' HO339.out).2.2; have hcut155 := cut_from (P := Try.prog) 22 36 .i64 Try.underlying22 hi0155 4 hsz155 Ao156 y337.length co156 1 (by omega) q155; have hr155 := Kd.C_drop (m := (1 : Int).toNat) (c := co156) hC155 (by omega) hroom155; obtain ⟨A155, hA155⟩ : ∃ A1, A1 = (if co156 = (1 : Int).toNat then Ao156 else (Ao156 : Option Addr).map (·.add ((1 : Int).toNat * 4))) := ⟨_, rfl⟩; obtain ⟨c155, hc155⟩ : ∃ c1, c1 = co156 - (1 : Int).toNat := ⟨_, rfl⟩; have hy155 : y340.length = y337.length - (1 : Int).toNat := (by rw [Ny340.out, List.length_drop] <;> omega); rw [show (y337).drop (1 : Int).toNat = y340 from Ny340.out.symm] at hr155; replace hr155 : Kd.C k36 _ A155 y340.length y340 := (by rw [hA155]; exact hr155); rw [← hy155, ← hA155, ← hc155] at hcut155; have HR343 := Aside0.mk hr155; have HC343 := Aside0.mk (show y340.length ≤ c155 from by rw [hy155, hc155]; exact Nat.sub_le_sub_right hroom155 _); clear hr155 hC155 hroom155 hi0155 hsz155 hc155; have KY155 := Aside0.mk hy155; have KA155 := Aside0.mk hA155; clear hy155 hA155; have KL155 := Aside0.mk (show 1 ≤ y337.length from by omega); replace q155 := eq_true q155) | ((with_reducible refine gate_callee (f := 14) rfl ?_); refine goesL_ (some 166) rfl rfl Try.func14 (by kernel_rfl) rfl #[.slice A155 y340.length c155, .int .i64 1] rfl (by (try simp only [List.map_toArray, List.map_cons, List.map_nil]); first | done | rfl | (simp only [List.length_drop, List.length_take]; rfl)) ?_; (with_reducible refine (breaks_Lines.calls _ _ y340 1 t344 t345 _ ?side1 ?side2 A136.out).mono ?_); (case side1 => repeat (first | exact (by repeat (first | (with_reducible exact HR343.out) | (with_reducible refine Kd.C_alloc ?_ _) | (with_reducible refine Kd.C_drewN ?_ _) | (with_reducible refine Kd.C_drew ?_) | exact HR343.out)) | (with_reducible refine Kd.C_alloc ?_ _) | (with_reducible refine Kd.C_drewN ?_ _) | (with_reducible refine Kd.C_drew ?_))); (case side2 => exact HC343.out); rintro e w157 ⟨v346, rfl, ho0, hb⟩; refine ⟨_, rfl, ?_⟩; have n0_ := Aside0.mk (Kd.R_below (mvR HO339) hb); have n1_ := Aside0.mk (Kd.R_lower ho0 (below_size (mvB HB))); have n2_ := Aside0.mk (Kd.C_below (by repeat (first | (with_reducible exact HR343.out) | (with_reducible refine Kd.C_alloc ?_ _) | (with_reducible refine Kd.C_drewN ?_ _) | (with_reducible refine Kd.C_drew ?_) | exact HR343.out)) hb); have n3_ := Aside0.mk (below_step (mvB HB) hb); clear HO339; clear HR343; clear HB; have HO339 := n0_; have HO347 := n1_; have HR343 := n2_; have HB := n3_; clear n0_ n1_ n2_ n3_; (try clear hb); (try clear hb2); (try clear hk); (try clear hi); (try clear ho0)) | ((with_reducible refine gate_callee (f := 7) rfl ?_); refine goesL_ (some 170) rfl rfl Try.func7 (by kernel_rfl) rfl #[.slice Ao156 y337.length co156, .int .i64 1] rfl (by (try simp only [List.map_toArray, List.map_cons, List.map_nil]); first | done | rfl | (simp only [List.length_drop, List.length_take]; rfl)) ?_; (with_reducible refine (selvedgelaw21_BreaksLines.calls k2 _ _ y337 1 true _ ?side1 ?side2 A137.out).mono ?_); (case side1 => repeat (first | exact (Kd.R_reads' HO339.out).2.2 | (with_reducible refine Kd.C_alloc ?_ _) | (with_reducible refine Kd.C_drewN ?_ _) | (with_reducible refine Kd.C_drew ?_))); (case side2 => exact (Kd.R_reads' HO339.out).2.1); rintro e w158 ⟨rfl, hb⟩; refine ⟨_, rfl, ?_⟩; have n0_ := Aside0.mk (Kd.R_below (mvR HO339) hb); have n1_ := Aside0.mk (Kd.R_below (mvR HO347) hb); have n2_ := Aside0.mk (Kd.C_below (by repeat (first | (with_reducible exact HR343.out) | (with_reducible refine Kd.C_alloc ?_ _) | (with_reducible refine Kd.C_drewN ?_ _) | (with_reducible refine Kd.C_drew ?_) | exact HR343.out)) hb); have n3_ := Aside0.mk (below_step (mvB HB) hb); clear HO339; clear HO347; clear HR343; clear HB; have HO339 := n0_; have HO347 := n1_; have HR343 := n2_; have HB := n3_; clear n0_ n1_ n2_ n3_; (try clear hb); (try clear hb2); (try clear hk); (try clear hi)) | (go_at_call 3; (with_reducible refine (selvedgelaw21_BreaksMeasures.calls k2 _ _ y337 0 0 true _ ?side1 ?side2 A139.out).mono ?_); (case side1 => repeat (first | exact (Kd.R_reads' HO339.out).2.2 | (with_reducible refine Kd.C_alloc ?_ _) | (with_reducible refine Kd.C_drewN ?_ _) | (with_reducible refine Kd.C_drew ?_))); (case side2 => exact (Kd.R_reads' HO339.out).2.1); rintro e w159 ⟨rfl, hb⟩; have n0_ := Aside0.mk (Kd.R_below (mvR HO339) hb); have n1_ := Aside0.mk (Kd.R_below (mvR HO347) hb); have n2_ := Aside0.mk (Kd.C_below (by repeat (first | (with_reducible exact HR343.out) | (with_reducible refine Kd.C_alloc ?_ _) | (with_reducible refine Kd.C_drewN ?_ _) | (with_reducible refine Kd.C_drew ?_) | exact HR343.out)) hb); have n3_ := Aside0.mk (below_step (mvB HB) hb); clear HO339; clear HO347; clear HR343; clear HB; have HO339 := n0_; have HO347 := n1_; have HR343 := n2_; have HB := n3_; clear n0_ n1_ n2_ n3_; (try clear hb); (try clear hb2); (try clear hk); (try clear hi); obtain ⟨Ao160, co160, eo160⟩ := Kd.R_slice HO347.out; subst eo160))
             go_ret
             exact ⟨by first | rfl | (simp [errW_none, errW_some] <;> rfl) | (simp [*, errW_none, errW_some] <;> rfl), mvB HB⟩
           ·rw [if_neg c141] at H
            have c141b0 : (t345 == 0) = false := beq_eq_false_iff_ne.mpr c141
            have c141b1 : (t345 != 0) = true := bne_iff_ne.mpr c141
            obtain rfl := Option.some.inj H
            go_wp2_with (first | ((with_reducible refine gate_dst (N := 162) rfl ?_); (try (refine gate_guard (by rfl) ?_; dsimp only)); refine Kd.R_make k36 _ 36 rfl (N := 162) rfl 22 _ _ rfl 65537 rfl rfl Try.underlying22 (.agg #[(.int .i32 0), (.int .i64 0), (.int .i64 0), (.int .i64 0)]) 32 info36 rfl (by decide) (by omega) z36 (ok := fun _ => True) (okp := fun _ => True) (k36_mkM _ _ _ z36 ) (fun _ hk => hk) trivial (by omega) (by omega) (Below.refl _ _) (Nat.le_refl _) ?_; intro v338 w161 ho162 hb hg_ hnew_; clear hg_ hnew_; (first | rw [← Ny337.out] at ho162 | (simp only [Int.reduceToNat] at ho162; rw [← Ny337.out] at ho162)); have n0_ := Aside0.mk (Kd.R_lower ho162 (below_size (mvB HB))); have n1_ := Aside0.mk (below_step (mvB HB) hb); clear HB; have HO339 := n0_; have HB := n1_; clear n0_ n1_; clear hb ho162; obtain ⟨Ao164, co164, eo164⟩ := Kd.R_slice HO339.out; subst eo164; have q163 : (1 : Int) ≤ ((y337.length : Int) : Int) := of_decide_eq_true (by first | (with_reducible assumption) | assumption); obtain ⟨i0163, hi0163, _, hsz163, _⟩ := info_parts info36; have hroom163 : y337.length ≤ co164 := (Kd.R_reads' HO339.out).2.1; have hC163 : Kd.C k36 _ Ao164 y337.length y337 := (Kd.R_reads' HO339.out).2.2; have hcut163 := cut_from (P := Try.prog) 22 36 .i64 Try.underlying22 hi0163 4 hsz163 Ao164 y337.length co164 1 (by omega) q163; have hr163 := Kd.C_drop (m := (1 : Int).toNat) (c := co164) hC163 (by omega) hroom163; obtain ⟨A163, hA163⟩ : ∃ A1, A1 = (if co164 = (1 : Int).toNat then Ao164 else (Ao164 : Option Addr).map (·.add ((1 : Int).toNat * 4))) := ⟨_, rfl⟩; obtain ⟨c163, hc163⟩ : ∃ c1, c1 = co164 - (1 : Int).toNat := ⟨_, rfl⟩; have hy163 : y340.length = y337.length - (1 : Int).toNat := (by rw [Ny340.out, List.length_drop] <;> omega); rw [show (y337).drop (1 : Int).toNat = y340 from Ny340.out.symm] at hr163; replace hr163 : Kd.C k36 _ A163 y340.length y340 := (by rw [hA163]; exact hr163); rw [← hy163, ← hA163, ← hc163] at hcut163; have HR343 := Aside0.mk hr163; have HC343 := Aside0.mk (show y340.length ≤ c163 from by rw [hy163, hc163]; exact Nat.sub_le_sub_right hroom163 _); clear hr163 hC163 hroom163 hi0163 hsz163 hc163; have KY163 := Aside0.mk hy163; have KA163 := Aside0.mk hA163; clear hy163 hA163; have KL163 := Aside0.mk (show 1 ≤ y337.length from by omega); replace q163 := eq_true q163) | ((with_reducible refine gate_callee (f := 14) rfl ?_); refine goesL_ (some 166) rfl rfl Try.func14 (by kernel_rfl) rfl #[.slice A163 y340.length c163, .int .i64 1] rfl (by (try simp only [List.map_toArray, List.map_cons, List.map_nil]); first | done | rfl | (simp only [List.length_drop, List.length_take]; rfl)) ?_; (with_reducible refine (breaks_Lines.calls _ _ y340 1 t344 t345 _ ?side1 ?side2 A136.out).mono ?_); (case side1 => repeat (first | exact (by repeat (first | (with_reducible exact HR343.out) | (with_reducible refine Kd.C_alloc ?_ _) | (with_reducible refine Kd.C_drewN ?_ _) | (with_reducible refine Kd.C_drew ?_) | exact HR343.out)) | (with_reducible refine Kd.C_alloc ?_ _) | (with_reducible refine Kd.C_drewN ?_ _) | (with_reducible refine Kd.C_drew ?_))); (case side2 => exact HC343.out); rintro e w165 ⟨v346, rfl, ho0, hb⟩; refine ⟨_, rfl, ?_⟩; have n0_ := Aside0.mk (Kd.R_below (mvR HO339) hb); have n1_ := Aside0.mk (Kd.R_lower ho0 (below_size (mvB HB))); have n2_ := Aside0.mk (Kd.C_below (by repeat (first | (with_reducible exact HR343.out) | (with_reducible refine Kd.C_alloc ?_ _) | (with_reducible refine Kd.C_drewN ?_ _) | (with_reducible refine Kd.C_drew ?_) | exact HR343.out)) hb); have n3_ := Aside0.mk (below_step (mvB HB) hb); clear HO339; clear HR343; clear HB; have HO339 := n0_; have HO347 := n1_; have HR343 := n2_; have HB := n3_; clear n0_ n1_ n2_ n3_; (try clear hb); (try clear hb2); (try clear hk); (try clear hi); (try clear ho0)) | ((with_reducible refine gate_callee (f := 7) rfl ?_); refine goesL_ (some 170) rfl rfl Try.func7 (by kernel_rfl) rfl #[.slice Ao164 y337.length co164, .int .i64 1] rfl (by (try simp only [List.map_toArray, List.map_cons, List.map_nil]); first | done | rfl | (simp only [List.length_drop, List.length_take]; rfl)) ?_; (with_reducible refine (selvedgelaw21_BreaksLines.calls k2 _ _ y337 1 true _ ?side1 ?side2 A137.out).mono ?_); (case side1 => repeat (first | exact (Kd.R_reads' HO339.out).2.2 | (with_reducible refine Kd.C_alloc ?_ _) | (with_reducible refine Kd.C_drewN ?_ _) | (with_reducible refine Kd.C_drew ?_))); (case side2 => exact (Kd.R_reads' HO339.out).2.1); rintro e w166 ⟨rfl, hb⟩; refine ⟨_, rfl, ?_⟩; have n0_ := Aside0.mk (Kd.R_below (mvR HO339) hb); have n1_ := Aside0.mk (Kd.R_below (mvR HO347) hb); have n2_ := Aside0.mk (Kd.C_below (by repeat (first | (with_reducible exact HR343.out) | (with_reducible refine Kd.C_alloc ?_ _) | (with_reducible refine Kd.C_drewN ?_ _) | (with_reducible refine Kd.C_drew ?_) | exact HR343.out)) hb); have n3_ := Aside0.mk (below_step (mvB HB) hb); clear HO339; clear HO347; clear HR343; clear HB; have HO339 := n0_; have HO347 := n1_; have HR343 := n2_; have HB := n3_; clear n0_ n1_ n2_ n3_; (try clear hb); (try clear hb2); (try clear hk); (try clear hi)) | (go_at_call 3; (with_reducible refine (selvedgelaw21_BreaksMeasures.calls k2 _ _ y337 0 0 true _ ?side1 ?side2 A139.out).mono ?_); (case side1 => repeat (first | exact (Kd.R_reads' HO339.out).2.2 | (with_reducible refine Kd.C_alloc ?_ _) | (with_reducible refine Kd.C_drewN ?_ _) | (with_reducible refine Kd.C_drew ?_))); (case side2 => exact (Kd.R_reads' HO339.out).2.1); rintro e w167 ⟨rfl, hb⟩; have n0_ := Aside0.mk (Kd.R_below (mvR HO339) hb); have n1_ := Aside0.mk (Kd.R_below (mvR HO347) hb); have n2_ := Aside0.mk (Kd.C_below (by repeat (first | (with_reducible exact HR343.out) | (with_reducible refine Kd.C_alloc ?_ _) | (with_reducible refine Kd.C_drewN ?_ _) | (with_reducible refine Kd.C_drew ?_) | exact HR343.out)) hb); have n3_ := Aside0.mk (below_step (mvB HB) hb); clear HO339; clear HO347; clear HR343; clear HB; have HO339 := n0_; have HO347 := n1_; have HR343 := n2_; have HB := n3_; clear n0_ n1_ n2_ n3_; (try clear hb); (try clear hb2); (try clear hk); (try clear hi)))
            go_ret
            exact ⟨by first | rfl | (simp [errW_none, errW_some] <;> rfl) | (simp [*, errW_none, errW_some] <;> rfl), mvB HB⟩
          ·replace c140 := Bool.eq_false_iff.mpr c140
           subst c140
           have H1 : (some false) = some r := by rw [if_neg (show ¬ (false = true) by decide)] at H; exact H
           clear H
           have H := H1
           clear H1
           obtain rfl := Option.some.inj H
           go_wp2_with (first | ((with_reducible refine gate_dst (N := 162) rfl ?_); (try (refine gate_guard (by rfl) ?_; dsimp only)); refine Kd.R_make k36 _ 36 rfl (N := 162) rfl 22 _ _ rfl 65537 rfl rfl Try.underlying22 (.agg #[(.int .i32 0), (.int .i64 0), (.int .i64 0), (.int .i64 0)]) 32 info36 rfl (by decide) (by omega) z36 (ok := fun _ => True) (okp := fun _ => True) (k36_mkM _ _ _ z36 ) (fun _ hk => hk) trivial (by omega) (by omega) (Below.refl _ _) (Nat.le_refl _) ?_; intro v338 w168 ho169 hb hg_ hnew_; clear hg_ hnew_; (first | rw [← Ny337.out] at ho169 | (simp only [Int.reduceToNat] at ho169; rw [← Ny337.out] at ho169)); have n0_ := Aside0.mk (Kd.R_lower ho169 (below_size (mvB HB))); have n1_ := Aside0.mk (below_step (mvB HB) hb); clear HB; have HO339 := n0_; have HB := n1_; clear n0_ n1_; clear hb ho169; obtain ⟨Ao171, co171, eo171⟩ := Kd.R_slice HO339.out; subst eo171; have q170 : (1 : Int) ≤ ((y337.length : Int) : Int) := of_decide_eq_true (by first | (with_reducible assumption) | assumption); obtain ⟨i0170, hi0170, _, hsz170, _⟩ := info_parts info36; have hroom170 : y337.length ≤ co171 := (Kd.R_reads' HO339.out).2.1; have hC170 : Kd.C k36 _ Ao171 y337.length y337 := (Kd.R_reads' HO339.out).2.2; have hcut170 := cut_from (P := Try.prog) 22 36 .i64 Try.underlying22 hi0170 4 hsz170 Ao171 y337.length co171 1 (by omega) q170; have hr170 := Kd.C_drop (m := (1 : Int).toNat) (c := co171) hC170 (by omega) hroom170; obtain ⟨A170, hA170⟩ : ∃ A1, A1 = (if co171 = (1 : Int).toNat then Ao171 else (Ao171 : Option Addr).map (·.add ((1 : Int).toNat * 4))) := ⟨_, rfl⟩; obtain ⟨c170, hc170⟩ : ∃ c1, c1 = co171 - (1 : Int).toNat := ⟨_, rfl⟩; have hy170 : y340.length = y337.length - (1 : Int).toNat := (by rw [Ny340.out, List.length_drop] <;> omega); rw [show (y337).drop (1 : Int).toNat = y340 from Ny340.out.symm] at hr170; replace hr170 : Kd.C k36 _ A170 y340.length y340 := (by rw [hA170]; exact hr170); rw [← hy170, ← hA170, ← hc170] at hcut170; have HR343 := Aside0.mk hr170; have HC343 := Aside0.mk (show y340.length ≤ c170 from by rw [hy170, hc170]; exact Nat.sub_le_sub_right hroom170 _); clear hr170 hC170 hroom170 hi0170 hsz170 hc170; have KY170 := Aside0.mk hy170; have KA170 := Aside0.mk hA170; clear hy170 hA170; have KL170 := Aside0.mk (show 1 ≤ y337.length from by omega); replace q170 := eq_true q170) | ((with_reducible refine gate_callee (f := 14) rfl ?_); refine goesL_ (some 166) rfl rfl Try.func14 (by kernel_rfl) rfl #[.slice A170 y340.length c170, .int .i64 1] rfl (by (try simp only [List.map_toArray, List.map_cons, List.map_nil]); first | done | rfl | (simp only [List.length_drop, List.length_take]; rfl)) ?_; (with_reducible refine (breaks_Lines.calls _ _ y340 1 t344 t345 _ ?side1 ?side2 A136.out).mono ?_); (case side1 => repeat (first | exact (by repeat (first | (with_reducible exact HR343.out) | (with_reducible refine Kd.C_alloc ?_ _) | (with_reducible refine Kd.C_drewN ?_ _) | (with_reducible refine Kd.C_drew ?_) | exact HR343.out)) | (with_reducible refine Kd.C_alloc ?_ _) | (with_reducible refine Kd.C_drewN ?_ _) | (with_reducible refine Kd.C_drew ?_))); (case side2 => exact HC343.out); rintro e w172 ⟨v346, rfl, ho0, hb⟩; refine ⟨_, rfl, ?_⟩; have n0_ := Aside0.mk (Kd.R_below (mvR HO339) hb); have n1_ := Aside0.mk (Kd.R_lower ho0 (below_size (mvB HB))); have n2_ := Aside0.mk (Kd.C_below (by repeat (first | (with_reducible exact HR343.out) | (with_reducible refine Kd.C_alloc ?_ _) | (with_reducible refine Kd.C_drewN ?_ _) | (with_reducible refine Kd.C_drew ?_) | exact HR343.out)) hb); have n3_ := Aside0.mk (below_step (mvB HB) hb); clear HO339; clear HR343; clear HB; have HO339 := n0_; have HO347 := n1_; have HR343 := n2_; have HB := n3_; clear n0_ n1_ n2_ n3_; (try clear hb); (try clear hb2); (try clear hk); (try clear hi); (try clear ho0)) | ((with_reducible refine gate_callee (f := 7) rfl ?_); refine goesL_ (some 170) rfl rfl Try.func7 (by kernel_rfl) rfl #[.slice Ao171 y337.length co171, .int .i64 1] rfl (by (try simp only [List.map_toArray, List.map_cons, List.map_nil]); first | done | rfl | (simp only [List.length_drop, List.length_take]; rfl)) ?_; (with_reducible refine (selvedgelaw21_BreaksLines.calls k2 _ _ y337 1 true _ ?side1 ?side2 A137.out).mono ?_); (case side1 => repeat (first | exact (Kd.R_reads' HO339.out).2.2 | (with_reducible refine Kd.C_alloc ?_ _) | (with_reducible refine Kd.C_drewN ?_ _) | (with_reducible refine Kd.C_drew ?_))); (case side2 => exact (Kd.R_reads' HO339.out).2.1); rintro e w173 ⟨rfl, hb⟩; refine ⟨_, rfl, ?_⟩; have n0_ := Aside0.mk (Kd.R_below (mvR HO339) hb); have n1_ := Aside0.mk (Kd.R_below (mvR HO347) hb); have n2_ := Aside0.mk (Kd.C_below (by repeat (first | (with_reducible exact HR343.out) | (with_reducible refine Kd.C_alloc ?_ _) | (with_reducible refine Kd.C_drewN ?_ _) | (with_reducible refine Kd.C_drew ?_) | exact HR343.out)) hb); have n3_ := Aside0.mk (below_step (mvB HB) hb); clear HO339; clear HO347; clear HR343; clear HB; have HO339 := n0_; have HO347 := n1_; have HR343 := n2_; have HB := n3_; clear n0_ n1_ n2_ n3_; (try clear hb); (try clear hb2); (try clear hk); (try clear hi)) | (go_at_call 3; (with_reducible refine (selvedgelaw21_BreaksMeasures.calls k2 _ _ y337 0 0 false _ ?side1 ?side2 A139.out).mono ?_); (case side1 => repeat (first | exact (Kd.R_reads' HO339.out).2.2 | (with_reducible refine Kd.C_alloc ?_ _) | (with_reducible refine Kd.C_drewN ?_ _) | (with_reducible refine Kd.C_drew ?_))); (case side2 => exact (Kd.R_reads' HO339.out).2.1); rintro e w174 ⟨rfl, hb⟩; have n0_ := Aside0.mk (Kd.R_below (mvR HO339) hb); have n1_ := Aside0.mk (Kd.R_below (mvR HO347) hb); have n2_ := Aside0.mk (Kd.C_below (by repeat (first | (with_reducible exact HR343.out) | (with_reducible refine Kd.C_alloc ?_ _) | (with_reducible refine Kd.C_drewN ?_ _) | (with_reducible refine Kd.C_drew ?_) | exact HR343.out)) hb); have n3_ := Aside0.mk (below_step (mvB HB) hb); clear HO339; clear HO347; clear HR343; clear HB; have HO339 := n0_; have HO347 := n1_; have HR343 := n2_; have HB := n3_; clear n0_ n1_ n2_ n3_; (try clear hb); (try clear hb2); (try clear hk); (try clear hi)))
           go_ret
           exact ⟨by first | rfl | (simp [errW_none, errW_some] <;> rfl) | (simp [*, errW_none, errW_some] <;> rfl), mvB HB⟩
         ·replace c138 := Bool.eq_false_iff.mpr c138
          subst c138
          have H1 : (some false) = some r := by rw [if_neg (show ¬ (false = true) by decide)] at H; exact H
          clear H
          have H := H1
          clear H1
          obtain rfl := Option.some.inj H
          go_wp2_with (first | ((with_reducible refine gate_dst (N := 162) rfl ?_); (try (refine gate_guard (by rfl) ?_; dsimp only)); refine Kd.R_make k36 _ 36 rfl (N := 162) rfl 22 _ _ rfl 65537 rfl rfl Try.underlying22 (.agg #[(.int .i32 0), (.int .i64 0), (.int .i64 0), (.int .i64 0)]) 32 info36 rfl (by decide) (by omega) z36 (ok := fun _ => True) (okp := fun _ => True) (k36_mkM _ _ _ z36 ) (fun _ hk => hk) trivial (by omega) (by omega) (Below.refl _ _) (Nat.le_refl _) ?_; intro v338 w175 ho176 hb hg_ hnew_; clear hg_ hnew_; (first | rw [← Ny337.out] at ho176 | (simp only [Int.reduceToNat] at ho176; rw [← Ny337.out] at ho176)); have n0_ := Aside0.mk (Kd.R_lower ho176 (below_size (mvB HB))); have n1_ := Aside0.mk (below_step (mvB HB) hb); clear HB; have HO339 := n0_; have HB := n1_; clear n0_ n1_; clear hb ho176; obtain ⟨Ao178, co178, eo178⟩ := Kd.R_slice HO339.out; subst eo178; have q177 : (1 : Int) ≤ ((y337.length : Int) : Int) := of_decide_eq_true (by first | (with_reducible assumption) | assumption); obtain ⟨i0177, hi0177, _, hsz177, _⟩ := info_parts info36; have hroom177 : y337.length ≤ co178 := (Kd.R_reads' HO339.out).2.1; have hC177 : Kd.C k36 _ Ao178 y337.length y337 := (Kd.R_reads' HO339.out).2.2; have hcut177 := cut_from (P := Try.prog) 22 36 .i64 Try.underlying22 hi0177 4 hsz177 Ao178 y337.length co178 1 (by omega) q177; have hr177 := Kd.C_drop (m := (1 : Int).toNat) (c := co178) hC177 (by omega) hroom177; obtain ⟨A177, hA177⟩ : ∃ A1, A1 = (if co178 = (1 : Int).toNat then Ao178 else (Ao178 : Option Addr).map (·.add ((1 : Int).toNat * 4))) := ⟨_, rfl⟩; obtain ⟨c177, hc177⟩ : ∃ c1, c1 = co178 - (1 : Int).toNat := ⟨_, rfl⟩; have hy177 : y340.length = y337.length - (1 : Int).toNat := (by rw [Ny340.out, List.length_drop] <;> omega); rw [show (y337).drop (1 : Int).toNat = y340 from Ny340.out.symm] at hr177; replace hr177 : Kd.C k36 _ A177 y340.length y340 := (by rw [hA177]; exact hr177); rw [← hy177, ← hA177, ← hc177] at hcut177; have HR343 := Aside0.mk hr177; have HC343 := Aside0.mk (show y340.length ≤ c177 from by rw [hy177, hc177]; exact Nat.sub_le_sub_right hroom177 _); clear hr177 hC177 hroom177 hi0177 hsz177 hc177; have KY177 := Aside0.mk hy177; have KA177 := Aside0.mk hA177; clear hy177 hA177; have KL177 := Aside0.mk (show 1 ≤ y337.length from by omega); replace q177 := eq_true q177) | ((with_reducible refine gate_callee (f := 14) rfl ?_); refine goesL_ (some 166) rfl rfl Try.func14 (by kernel_rfl) rfl #[.slice A177 y340.length c177, .int .i64 1] rfl (by (try simp only [List.map_toArray, List.map_cons, List.map_nil]); first | done | rfl | (simp only [List.length_drop, List.length_take]; rfl)) ?_; (with_reducible refine (breaks_Lines.calls _ _ y340 1 t344 t345 _ ?side1 ?side2 A136.out).mono ?_); (case side1 => repeat (first | exact (by repeat (first | (with_reducible exact HR343.out) | (with_reducible refine Kd.C_alloc ?_ _) | (with_reducible refine Kd.C_drewN ?_ _) | (with_reducible refine Kd.C_drew ?_) | exact HR343.out)) | (with_reducible refine Kd.C_alloc ?_ _) | (with_reducible refine Kd.C_drewN ?_ _) | (with_reducible refine Kd.C_drew ?_))); (case side2 => exact HC343.out); rintro e w179 ⟨v346, rfl, ho0, hb⟩; refine ⟨_, rfl, ?_⟩; have n0_ := Aside0.mk (Kd.R_below (mvR HO339) hb); have n1_ := Aside0.mk (Kd.R_lower ho0 (below_size (mvB HB))); have n2_ := Aside0.mk (Kd.C_below (by repeat (first | (with_reducible exact HR343.out) | (with_reducible refine Kd.C_alloc ?_ _) | (with_reducible refine Kd.C_drewN ?_ _) | (with_reducible refine Kd.C_drew ?_) | exact HR343.out)) hb); have n3_ := Aside0.mk (below_step (mvB HB) hb); clear HO339; clear HR343; clear HB; have HO339 := n0_; have HO347 := n1_; have HR343 := n2_; have HB := n3_; clear n0_ n1_ n2_ n3_; (try clear hb); (try clear hb2); (try clear hk); (try clear hi); (try clear ho0)) | ((with_reducible refine gate_callee (f := 7) rfl ?_); refine goesL_ (some 170) rfl rfl Try.func7 (by kernel_rfl) rfl #[.slice Ao178 y337.length co178, .int .i64 1] rfl (by (try simp only [List.map_toArray, List.map_cons, List.map_nil]); first | done | rfl | (simp only [List.length_drop, List.length_take]; rfl)) ?_; (with_reducible refine (selvedgelaw21_BreaksLines.calls k2 _ _ y337 1 false _ ?side1 ?side2 A137.out).mono ?_); (case side1 => repeat (first | exact (Kd.R_reads' HO339.out).2.2 | (with_reducible refine Kd.C_alloc ?_ _) | (with_reducible refine Kd.C_drewN ?_ _) | (with_reducible refine Kd.C_drew ?_))); (case side2 => exact (Kd.R_reads' HO339.out).2.1); rintro e w180 ⟨rfl, hb⟩; refine ⟨_, rfl, ?_⟩; have n0_ := Aside0.mk (Kd.R_below (mvR HO339) hb); have n1_ := Aside0.mk (Kd.R_below (mvR HO347) hb); have n2_ := Aside0.mk (Kd.C_below (by repeat (first | (with_reducible exact HR343.out) | (with_reducible refine Kd.C_alloc ?_ _) | (with_reducible refine Kd.C_drewN ?_ _) | (with_reducible refine Kd.C_drew ?_) | exact HR343.out)) hb); have n3_ := Aside0.mk (below_step (mvB HB) hb); clear HO339; clear HO347; clear HR343; clear HB; have HO339 := n0_; have HO347 := n1_; have HR343 := n2_; have HB := n3_; clear n0_ n1_ n2_ n3_; (try clear hb); (try clear hb2); (try clear hk); (try clear hi)))
          go_ret
          exact ⟨by first | rfl | (simp [errW_none, errW_some] <;> rfl) | (simp [*, errW_none, errW_some] <;> rfl), mvB HB⟩
        ·rw [if_neg c135] at H
         exact absurd H (by simp)
       ·rw [if_neg c134] at H
        exact absurd H (by simp)

/-- THE ONE PURE STATEMENT of selvedgelaw21_BreaksKnown: yours. -/
def selvedgelaw21_BreaksKnown.Pure : Prop := ∃ k, selvedgelaw21_BreaksKnown.f k  = some true
theorem selvedgelaw21_BreaksKnown.walk (P : selvedgelaw21_BreaksKnown.Pure)  (w : World)  :
  Calls Try.prog 9 #[] w fun e w' => e = .returned (.bool true) ∧ Below w.heap.size w w' := by
 obtain ⟨k, h⟩ := P  
 refine (selvedgelaw21_BreaksKnown.calls k  true w h).mono ?_
 rintro e w' ⟨rfl, hd⟩
 exact ⟨rfl, hd⟩

end Go.Proofs.Ythckihfkhmoafaa.X
