-- by xprint.py: the kit's printer over texts of this session
import Derived.Test.YtiogpnefnapfeaaDoorX0
import Derived.Test.YtiogpnefnapfeaaDoorX1
import Derived.Test.YtiogpnefnapfeaaDoorT5
namespace Go.Proofs.YtiogpnefnapfeaaDoor.X
open Go.RowKit Go.Proofs.YtiogpnefnapfeaaDoorW.PrintWords Go.Proofs.YtiogpnefnapfeaaDoorW.PrintLast Go.Proofs.YtiogpnefnapfeaaDoorW.PrintMore
attribute [local go_sem] max2_int min2_int max_two min_two max_three min_three max_four min_four   -- for this text's walks alone
set_option linter.unusedVariables false
set_option linter.unusedSimpArgs false

-- NOT PRINTED: function 18 (props_Bracket)

-- NOT PRINTED: function 33 (pairs_Pair_33)

-- NOT PRINTED: function 43 (pairs_Pair_43)

-- NOT PRINTED: function 34 (pairs_Pair_34)

/-! ### selvedgelaw17_become: function 16 (a text of ours) -/
-- LATER Derived.Test.YtiogpnefnapfeaaDoorT5

/-! ### selvedgelaw17_works: function 8 -/
def selvedgelaw17_works.f (k : Nat)  : Option (Bool) := (selvedgelaw17_become.f k (⟨#[97, 40, 98, 41]⟩ : ByteArray) 0 1 (([1, 1, 1, 1] : List Int))).bind fun t117 => (if t117 = true then ((selvedgelaw17_become.f k (⟨#[215, 144, 40, 215, 144, 41]⟩ : ByteArray) 0 1 (([2, 2, 2, 2] : List Int))).bind fun t121 => (some t121)) else (some false))
theorem selvedgelaw17_works.mono : ∀ k, LeO (selvedgelaw17_works.f k ) (selvedgelaw17_works.f (k + 1) ) := by
 intro  k
 unfold selvedgelaw17_works.f
 repeat' first
   | (with_reducible exact selvedgelaw17_become.mono _ _ _ _ _)
   | (with_reducible exact LeO.refl _)
   | (with_reducible exact LeO.none _)
   | (with_reducible refine LeO.ite ?_ ?_)
   | (with_reducible refine LeO.bind ?_ (fun _ => ?_))
   | exact selvedgelaw17_become.mono _ _ _ _ _
   | exact LeO.none _
   | refine LeO.ite ?_ ?_
   | refine LeO.bind ?_ (fun _ => ?_)
set_option maxHeartbeats 8000000 in
set_option maxRecDepth 100000 in
theorem selvedgelaw17_works.calls (k : Nat)  (r : Bool) (w : World) (h : selvedgelaw17_works.f k  = some r) (hT : Tabs w) :
  Calls Tryd.prog 8 #[] w fun e w' => e = .returned (.bool r) ∧ Below w.heap.size w w' := by
 have HT := Aside0.mk hT
 clear hT
 have HB := Aside0.mk (Below.refl w.heap.size w)
 have H : ((selvedgelaw17_become.f k (⟨#[97, 40, 98, 41]⟩ : ByteArray) 0 1 (([1, 1, 1, 1] : List Int))).bind fun t117 => (if t117 = true then ((selvedgelaw17_become.f k (⟨#[215, 144, 40, 215, 144, 41]⟩ : ByteArray) 0 1 (([2, 2, 2, 2] : List Int))).bind fun t121 => (some t121)) else (some false))) = some r := h
 clear h
 obtain ⟨y114, hy114⟩ : ∃ y_ : List Int, y_ = (([1, 1, 1, 1] : List Int)) := ⟨_, rfl⟩
 replace H : ((selvedgelaw17_become.f k (⟨#[97, 40, 98, 41]⟩ : ByteArray) 0 1 y114).bind fun t117 => (if t117 = true then ((selvedgelaw17_become.f k (⟨#[215, 144, 40, 215, 144, 41]⟩ : ByteArray) 0 1 (([2, 2, 2, 2] : List Int))).bind fun t121 => (some t121)) else (some false))) = some r := by first | (rw [hy114]; with_reducible exact H) | (have H2_ := (Option.bind_some _ _).symm.trans H; rw [hy114]; with_reducible exact H2_) | (have H2_ := (Option.bind_some _ _).symm.trans H; with_reducible exact H2_) | with_reducible exact H | (rw [hy114]; exact H) | exact H
 have Ny114 := Aside0.mk hy114
 clear hy114
 replace H := Option.bind_eq_some_iff.mp H
 obtain ⟨t117, A10, H⟩ := H
 replace H : (if t117 = true then ((selvedgelaw17_become.f k (⟨#[215, 144, 40, 215, 144, 41]⟩ : ByteArray) 0 1 (([2, 2, 2, 2] : List Int))).bind fun t121 => (some t121)) else (some false)) = some r := H
 have A1 := Aside0.mk A10
 clear A10
 by_cases c2 : t117 = true
 ·subst c2
  have H1 : ((selvedgelaw17_become.f k (⟨#[215, 144, 40, 215, 144, 41]⟩ : ByteArray) 0 1 (([2, 2, 2, 2] : List Int))).bind fun t121 => (some t121)) = some r := by rw [if_pos rfl] at H; exact H
  clear H
  have H := H1
  clear H1
  obtain ⟨y118, hy118⟩ : ∃ y_ : List Int, y_ = (([2, 2, 2, 2] : List Int)) := ⟨_, rfl⟩
  replace H : ((selvedgelaw17_become.f k (⟨#[215, 144, 40, 215, 144, 41]⟩ : ByteArray) 0 1 y118).bind fun t121 => (some t121)) = some r := by first | (rw [hy118]; with_reducible exact H) | (have H2_ := (Option.bind_some _ _).symm.trans H; rw [hy118]; with_reducible exact H2_) | (have H2_ := (Option.bind_some _ _).symm.trans H; with_reducible exact H2_) | with_reducible exact H | (rw [hy118]; exact H) | exact H
  have Ny118 := Aside0.mk hy118
  clear hy118
  replace H := Option.bind_eq_some_iff.mp H
  obtain ⟨t121, A30, H⟩ := H
  replace H : (some t121) = some r := H
  have A3 := Aside0.mk A30
  clear A30
  obtain rfl := Option.some.inj H
  go_enter Tryd.func8, Tryd.ntmps8
  go_wp2_with (first | ((with_reducible refine gate_dst (N := 1) rfl ?_); (try (refine gate_guard (by rfl) ?_; dsimp only)); refine Kd.R_lit (Kd.int .u8) _ 33 ?hg (N := 1) ?hd (xs := ([1, 1, 1, 1] : List Int)) (inner := [.int .u8 1, .int .u8 1, .int .u8 1, .int .u8 1]) (ok := fun _ => True) (okp := fun _ => True) ?hr ?hp (fun _ hk => hk) trivial (Below.refl _ _) (Nat.le_refl _) (by simp) ?_; (case hd => rfl); (case hg => rfl); (case hr => first | (go_simp; done) | (go_simp; rfl)); (case hp => exact (Reps.one (show Kd.M (Kd.int .u8) _ _ _ 1 [.int .u8 1] from rfl) (Reps.one (show Kd.M (Kd.int .u8) _ _ _ 1 [.int .u8 1] from rfl) (Reps.one (show Kd.M (Kd.int .u8) _ _ _ 1 [.int .u8 1] from rfl) (Reps.one (show Kd.M (Kd.int .u8) _ _ _ 1 [.int .u8 1] from rfl) (Reps.none _ _)))))); intro v115 w4 ho5 hb hg_ hnew_; clear hg_ hnew_; (first | rw [← Ny114.out] at ho5 | (simp only [Int.reduceToNat] at ho5; rw [← Ny114.out] at ho5)); have n0_ := Aside0.mk (Kd.R_lower ho5 (below_size (mvB HB))); have n1_ := Aside0.mk (below_step (mvB HB) hb); clear HB; have HO116 := n0_; have HB := n1_; clear n0_ n1_; clear hb ho5; obtain ⟨Ao6, co6, eo6⟩ := Kd.R_slice HO116.out; subst eo6) | ((with_reducible refine gate_callee (f := 16) rfl ?_); refine goesL_ (some 2) rfl rfl Tryd.func16 (by kernel_rfl) rfl #[.string (⟨#[97, 40, 98, 41]⟩ : ByteArray), .int .u8 0, .int .u8 1, .slice Ao6 y114.length co6] rfl (by (try simp only [List.map_toArray, List.map_cons, List.map_nil]); first | done | rfl | (simp only [List.length_drop, List.length_take]; rfl)) ?_; (with_reducible refine (selvedgelaw17_become.calls k (⟨#[97, 40, 98, 41]⟩ : ByteArray) 0 1 _ _ y114 true _ ?side1 ?side2 A1.out (by exact HT.out.below (mvB HB))).mono ?_); (case side1 => repeat (first | exact (Kd.R_reads' HO116.out).2.2 | (with_reducible refine Kd.C_alloc ?_ _) | (with_reducible refine Kd.C_drewN ?_ _) | (with_reducible refine Kd.C_drew ?_))); (case side2 => exact (Kd.R_reads' HO116.out).2.1); rintro e w7 ⟨rfl, hb⟩; refine ⟨_, rfl, ?_⟩; have n0_ := Aside0.mk (Kd.R_below (mvR HO116) hb); have n1_ := Aside0.mk (below_step (mvB HB) hb); clear HO116; clear HB; have HO116 := n0_; have HB := n1_; clear n0_ n1_; (try clear hb); (try clear hb2); (try clear hk); (try clear hi)) | ((with_reducible refine gate_dst (N := 4) rfl ?_); (try (refine gate_guard (by rfl) ?_; dsimp only)); refine Kd.R_lit (Kd.int .u8) _ 33 ?hg (N := 4) ?hd (xs := ([2, 2, 2, 2] : List Int)) (inner := [.int .u8 2, .int .u8 2, .int .u8 2, .int .u8 2]) (ok := fun _ => True) (okp := fun _ => True) ?hr ?hp (fun _ hk => hk) trivial (Below.refl _ _) (Nat.le_refl _) (by simp) ?_; (case hd => rfl); (case hg => rfl); (case hr => first | (go_simp; done) | (go_simp; rfl)); (case hp => exact (Reps.one (show Kd.M (Kd.int .u8) _ _ _ 2 [.int .u8 2] from rfl) (Reps.one (show Kd.M (Kd.int .u8) _ _ _ 2 [.int .u8 2] from rfl) (Reps.one (show Kd.M (Kd.int .u8) _ _ _ 2 [.int .u8 2] from rfl) (Reps.one (show Kd.M (Kd.int .u8) _ _ _ 2 [.int .u8 2] from rfl) (Reps.none _ _)))))); intro v119 w8 ho9 hb hg_ hnew_; clear hg_ hnew_; (first | rw [← Ny118.out] at ho9 | (simp only [Int.reduceToNat] at ho9; rw [← Ny118.out] at ho9)); have n0_ := Aside0.mk (Kd.R_elder' (mvR HO116) (Kd.R_base ho9) hb); have n1_ := Aside0.mk (Kd.R_lower (Kd.R_new' ho9 (Kd.R_lt (mvR HO116))) (below_size (mvB HB))); have n2_ := Aside0.mk (below_step (mvB HB) hb); clear HO116; clear HB; have HO116 := n0_; have HO120 := n1_; have HB := n2_; clear n0_ n1_ n2_; clear hb ho9; obtain ⟨Ao10, co10, eo10⟩ := Kd.R_slice HO120.out; subst eo10) | (go_at_call 16; (with_reducible refine (selvedgelaw17_become.calls k (⟨#[215, 144, 40, 215, 144, 41]⟩ : ByteArray) 0 1 _ _ y118 t121 _ ?side1 ?side2 A3.out (by exact HT.out.below (mvB HB))).mono ?_); (case side1 => repeat (first | exact (Kd.R_reads' HO120.out).2.2 | (with_reducible refine Kd.C_alloc ?_ _) | (with_reducible refine Kd.C_drewN ?_ _) | (with_reducible refine Kd.C_drew ?_))); (case side2 => exact (Kd.R_reads' HO120.out).2.1); rintro e w11 ⟨rfl, hb⟩; have n0_ := Aside0.mk (Kd.R_below (mvR HO116) hb); have n1_ := Aside0.mk (Kd.R_below (mvR HO120) hb); have n2_ := Aside0.mk (below_step (mvB HB) hb); clear HO116; clear HO120; clear HB; have HO116 := n0_; have HO120 := n1_; have HB := n2_; clear n0_ n1_ n2_; (try clear hb); (try clear hb2); (try clear hk); (try clear hi)))
  go_ret
  exact ⟨by first | rfl | (simp [errW_none, errW_some] <;> rfl) | (simp [*, errW_none, errW_some] <;> rfl), mvB HB⟩
 ·replace c2 := Bool.eq_false_iff.mpr c2
  subst c2
  have H1 : (some false) = some r := by rw [if_neg (show ¬ (false = true) by decide)] at H; exact H
  clear H
  have H := H1
  clear H1
  obtain rfl := Option.some.inj H
  go_enter Tryd.func8, Tryd.ntmps8
  go_wp2_with (first | ((with_reducible refine gate_dst (N := 1) rfl ?_); (try (refine gate_guard (by rfl) ?_; dsimp only)); refine Kd.R_lit (Kd.int .u8) _ 33 ?hg (N := 1) ?hd (xs := ([1, 1, 1, 1] : List Int)) (inner := [.int .u8 1, .int .u8 1, .int .u8 1, .int .u8 1]) (ok := fun _ => True) (okp := fun _ => True) ?hr ?hp (fun _ hk => hk) trivial (Below.refl _ _) (Nat.le_refl _) (by simp) ?_; (case hd => rfl); (case hg => rfl); (case hr => first | (go_simp; done) | (go_simp; rfl)); (case hp => exact (Reps.one (show Kd.M (Kd.int .u8) _ _ _ 1 [.int .u8 1] from rfl) (Reps.one (show Kd.M (Kd.int .u8) _ _ _ 1 [.int .u8 1] from rfl) (Reps.one (show Kd.M (Kd.int .u8) _ _ _ 1 [.int .u8 1] from rfl) (Reps.one (show Kd.M (Kd.int .u8) _ _ _ 1 [.int .u8 1] from rfl) (Reps.none _ _)))))); intro v115 w12 ho13 hb hg_ hnew_; clear hg_ hnew_; (first | rw [← Ny114.out] at ho13 | (simp only [Int.reduceToNat] at ho13; rw [← Ny114.out] at ho13)); have n0_ := Aside0.mk (Kd.R_lower ho13 (below_size (mvB HB))); have n1_ := Aside0.mk (below_step (mvB HB) hb); clear HB; have HO116 := n0_; have HB := n1_; clear n0_ n1_; clear hb ho13; obtain ⟨Ao14, co14, eo14⟩ := Kd.R_slice HO116.out; subst eo14) | ((with_reducible refine gate_callee (f := 16) rfl ?_); refine goesL_ (some 2) rfl rfl Tryd.func16 (by kernel_rfl) rfl #[.string (⟨#[97, 40, 98, 41]⟩ : ByteArray), .int .u8 0, .int .u8 1, .slice Ao14 y114.length co14] rfl (by (try simp only [List.map_toArray, List.map_cons, List.map_nil]); first | done | rfl | (simp only [List.length_drop, List.length_take]; rfl)) ?_; (with_reducible refine (selvedgelaw17_become.calls k (⟨#[97, 40, 98, 41]⟩ : ByteArray) 0 1 _ _ y114 false _ ?side1 ?side2 A1.out (by exact HT.out.below (mvB HB))).mono ?_); (case side1 => repeat (first | exact (Kd.R_reads' HO116.out).2.2 | (with_reducible refine Kd.C_alloc ?_ _) | (with_reducible refine Kd.C_drewN ?_ _) | (with_reducible refine Kd.C_drew ?_))); (case side2 => exact (Kd.R_reads' HO116.out).2.1); rintro e w15 ⟨rfl, hb⟩; refine ⟨_, rfl, ?_⟩; have n0_ := Aside0.mk (Kd.R_below (mvR HO116) hb); have n1_ := Aside0.mk (below_step (mvB HB) hb); clear HO116; clear HB; have HO116 := n0_; have HB := n1_; clear n0_ n1_; (try clear hb); (try clear hb2); (try clear hk); (try clear hi)))
  go_ret
  exact ⟨by first | rfl | (simp [errW_none, errW_some] <;> rfl) | (simp [*, errW_none, errW_some] <;> rfl), mvB HB⟩

/-! ### selvedgeref01_Brackets: function 28 -/
def selvedgeref01_Brackets.f  : Option ((List (S64))) := some (([(⟨40, 41⟩ : S64), (⟨91, 93⟩ : S64), (⟨123, 125⟩ : S64), (⟨8261, 8262⟩ : S64), (⟨8317, 8318⟩ : S64), (⟨8333, 8334⟩ : S64), (⟨8968, 8969⟩ : S64), (⟨8970, 8971⟩ : S64), (⟨9001, 9002⟩ : S64), (⟨10214, 10215⟩ : S64), (⟨10216, 10217⟩ : S64), (⟨10218, 10219⟩ : S64), (⟨10220, 10221⟩ : S64), (⟨10222, 10223⟩ : S64), (⟨12296, 12297⟩ : S64), (⟨12298, 12299⟩ : S64), (⟨12300, 12301⟩ : S64), (⟨12302, 12303⟩ : S64), (⟨12304, 12305⟩ : S64), (⟨12308, 12309⟩ : S64), (⟨12310, 12311⟩ : S64), (⟨12312, 12313⟩ : S64), (⟨12314, 12315⟩ : S64)] : List (S64)))
set_option maxHeartbeats 8000000 in
set_option maxRecDepth 100000 in
theorem selvedgeref01_Brackets.calls  (r : List (S64)) (w : World) (h : selvedgeref01_Brackets.f  = some r) :
  Calls Tryd.prog 28 #[] w fun e w' => ∃ v0_ : Value, e = .returned (v0_) ∧ Kd.R k64 64 w' w.heap.size (fun _ => True) v0_ r ∧ Below w.heap.size w w' := by
 have hu64 := Tryd.underlying64
 have HB := Aside0.mk (Below.refl w.heap.size w)
 have H : (some (([(⟨40, 41⟩ : S64), (⟨91, 93⟩ : S64), (⟨123, 125⟩ : S64), (⟨8261, 8262⟩ : S64), (⟨8317, 8318⟩ : S64), (⟨8333, 8334⟩ : S64), (⟨8968, 8969⟩ : S64), (⟨8970, 8971⟩ : S64), (⟨9001, 9002⟩ : S64), (⟨10214, 10215⟩ : S64), (⟨10216, 10217⟩ : S64), (⟨10218, 10219⟩ : S64), (⟨10220, 10221⟩ : S64), (⟨10222, 10223⟩ : S64), (⟨12296, 12297⟩ : S64), (⟨12298, 12299⟩ : S64), (⟨12300, 12301⟩ : S64), (⟨12302, 12303⟩ : S64), (⟨12304, 12305⟩ : S64), (⟨12308, 12309⟩ : S64), (⟨12310, 12311⟩ : S64), (⟨12312, 12313⟩ : S64), (⟨12314, 12315⟩ : S64)] : List (S64)))) = some r := h
 clear h
 obtain ⟨y122, hy122⟩ : ∃ y_ : List (S64), y_ = (([(⟨40, 41⟩ : S64), (⟨91, 93⟩ : S64), (⟨123, 125⟩ : S64), (⟨8261, 8262⟩ : S64), (⟨8317, 8318⟩ : S64), (⟨8333, 8334⟩ : S64), (⟨8968, 8969⟩ : S64), (⟨8970, 8971⟩ : S64), (⟨9001, 9002⟩ : S64), (⟨10214, 10215⟩ : S64), (⟨10216, 10217⟩ : S64), (⟨10218, 10219⟩ : S64), (⟨10220, 10221⟩ : S64), (⟨10222, 10223⟩ : S64), (⟨12296, 12297⟩ : S64), (⟨12298, 12299⟩ : S64), (⟨12300, 12301⟩ : S64), (⟨12302, 12303⟩ : S64), (⟨12304, 12305⟩ : S64), (⟨12308, 12309⟩ : S64), (⟨12310, 12311⟩ : S64), (⟨12312, 12313⟩ : S64), (⟨12314, 12315⟩ : S64)] : List (S64))) := ⟨_, rfl⟩
 replace H : (some y122) = some r := by first | (rw [hy122]; with_reducible exact H) | (have H2_ := (Option.bind_some _ _).symm.trans H; rw [hy122]; with_reducible exact H2_) | (have H2_ := (Option.bind_some _ _).symm.trans H; with_reducible exact H2_) | with_reducible exact H | (rw [hy122]; exact H) | exact H
 have Ny122 := Aside0.mk hy122
 clear hy122
 obtain rfl := Option.some.inj H
 go_enter Tryd.func28, Tryd.ntmps28
 go_wp2_with (first | ((with_reducible refine gate_dst (N := 24) rfl ?_); refine Kd.R_lit k64 _ 64 ?hg (N := 24) ?hd (xs := ([(⟨40, 41⟩ : S64), (⟨91, 93⟩ : S64), (⟨123, 125⟩ : S64), (⟨8261, 8262⟩ : S64), (⟨8317, 8318⟩ : S64), (⟨8333, 8334⟩ : S64), (⟨8968, 8969⟩ : S64), (⟨8970, 8971⟩ : S64), (⟨9001, 9002⟩ : S64), (⟨10214, 10215⟩ : S64), (⟨10216, 10217⟩ : S64), (⟨10218, 10219⟩ : S64), (⟨10220, 10221⟩ : S64), (⟨10222, 10223⟩ : S64), (⟨12296, 12297⟩ : S64), (⟨12298, 12299⟩ : S64), (⟨12300, 12301⟩ : S64), (⟨12302, 12303⟩ : S64), (⟨12304, 12305⟩ : S64), (⟨12308, 12309⟩ : S64), (⟨12310, 12311⟩ : S64), (⟨12312, 12313⟩ : S64), (⟨12314, 12315⟩ : S64)] : List (S64))) (inner := [.int .i32 40, .int .i32 41, .int .i32 91, .int .i32 93, .int .i32 123, .int .i32 125, .int .i32 8261, .int .i32 8262, .int .i32 8317, .int .i32 8318, .int .i32 8333, .int .i32 8334, .int .i32 8968, .int .i32 8969, .int .i32 8970, .int .i32 8971, .int .i32 9001, .int .i32 9002, .int .i32 10214, .int .i32 10215, .int .i32 10216, .int .i32 10217, .int .i32 10218, .int .i32 10219, .int .i32 10220, .int .i32 10221, .int .i32 10222, .int .i32 10223, .int .i32 12296, .int .i32 12297, .int .i32 12298, .int .i32 12299, .int .i32 12300, .int .i32 12301, .int .i32 12302, .int .i32 12303, .int .i32 12304, .int .i32 12305, .int .i32 12308, .int .i32 12309, .int .i32 12310, .int .i32 12311, .int .i32 12312, .int .i32 12313, .int .i32 12314, .int .i32 12315]) (ok := fun _ => True) (okp := fun _ => True) ?hr ?hp (fun _ hk => hk) trivial (Below.refl _ _) (Nat.le_refl _) (by simp) ?_; (case hd => rfl); (case hg => rfl); (case hr => first | (go_simp; done) | (go_simp; rfl)); (case hp => exact (Reps.c2 (show Kd.M k64 _ _ _ (⟨40, 41⟩ : S64) [.int .i32 40, .int .i32 41] from (k64_mkM _ _ _ (⟨40, 41⟩ : S64) )) (Reps.c2 (show Kd.M k64 _ _ _ (⟨91, 93⟩ : S64) [.int .i32 91, .int .i32 93] from (k64_mkM _ _ _ (⟨91, 93⟩ : S64) )) (Reps.c2 (show Kd.M k64 _ _ _ (⟨123, 125⟩ : S64) [.int .i32 123, .int .i32 125] from (k64_mkM _ _ _ (⟨123, 125⟩ : S64) )) (Reps.c2 (show Kd.M k64 _ _ _ (⟨8261, 8262⟩ : S64) [.int .i32 8261, .int .i32 8262] from (k64_mkM _ _ _ (⟨8261, 8262⟩ : S64) )) (Reps.c2 (show Kd.M k64 _ _ _ (⟨8317, 8318⟩ : S64) [.int .i32 8317, .int .i32 8318] from (k64_mkM _ _ _ (⟨8317, 8318⟩ : S64) )) (Reps.c2 (show Kd.M k64 _ _ _ (⟨8333, 8334⟩ : S64) [.int .i32 8333, .int .i32 8334] from (k64_mkM _ _ _ (⟨8333, 8334⟩ : S64) )) (Reps.c2 (show Kd.M k64 _ _ _ (⟨8968, 8969⟩ : S64) [.int .i32 8968, .int .i32 8969] from (k64_mkM _ _ _ (⟨8968, 8969⟩ : S64) )) (Reps.c2 (show Kd.M k64 _ _ _ (⟨8970, 8971⟩ : S64) [.int .i32 8970, .int .i32 8971] from (k64_mkM _ _ _ (⟨8970, 8971⟩ : S64) )) (Reps.c2 (show Kd.M k64 _ _ _ (⟨9001, 9002⟩ : S64) [.int .i32 9001, .int .i32 9002] from (k64_mkM _ _ _ (⟨9001, 9002⟩ : S64) )) (Reps.c2 (show Kd.M k64 _ _ _ (⟨10214, 10215⟩ : S64) [.int .i32 10214, .int .i32 10215] from (k64_mkM _ _ _ (⟨10214, 10215⟩ : S64) )) (Reps.c2 (show Kd.M k64 _ _ _ (⟨10216, 10217⟩ : S64) [.int .i32 10216, .int .i32 10217] from (k64_mkM _ _ _ (⟨10216, 10217⟩ : S64) )) (Reps.c2 (show Kd.M k64 _ _ _ (⟨10218, 10219⟩ : S64) [.int .i32 10218, .int .i32 10219] from (k64_mkM _ _ _ (⟨10218, 10219⟩ : S64) )) (Reps.c2 (show Kd.M k64 _ _ _ (⟨10220, 10221⟩ : S64) [.int .i32 10220, .int .i32 10221] from (k64_mkM _ _ _ (⟨10220, 10221⟩ : S64) )) (Reps.c2 (show Kd.M k64 _ _ _ (⟨10222, 10223⟩ : S64) [.int .i32 10222, .int .i32 10223] from (k64_mkM _ _ _ (⟨10222, 10223⟩ : S64) )) (Reps.c2 (show Kd.M k64 _ _ _ (⟨12296, 12297⟩ : S64) [.int .i32 12296, .int .i32 12297] from (k64_mkM _ _ _ (⟨12296, 12297⟩ : S64) )) (Reps.c2 (show Kd.M k64 _ _ _ (⟨12298, 12299⟩ : S64) [.int .i32 12298, .int .i32 12299] from (k64_mkM _ _ _ (⟨12298, 12299⟩ : S64) )) (Reps.c2 (show Kd.M k64 _ _ _ (⟨12300, 12301⟩ : S64) [.int .i32 12300, .int .i32 12301] from (k64_mkM _ _ _ (⟨12300, 12301⟩ : S64) )) (Reps.c2 (show Kd.M k64 _ _ _ (⟨12302, 12303⟩ : S64) [.int .i32 12302, .int .i32 12303] from (k64_mkM _ _ _ (⟨12302, 12303⟩ : S64) )) (Reps.c2 (show Kd.M k64 _ _ _ (⟨12304, 12305⟩ : S64) [.int .i32 12304, .int .i32 12305] from (k64_mkM _ _ _ (⟨12304, 12305⟩ : S64) )) (Reps.c2 (show Kd.M k64 _ _ _ (⟨12308, 12309⟩ : S64) [.int .i32 12308, .int .i32 12309] from (k64_mkM _ _ _ (⟨12308, 12309⟩ : S64) )) (Reps.c2 (show Kd.M k64 _ _ _ (⟨12310, 12311⟩ : S64) [.int .i32 12310, .int .i32 12311] from (k64_mkM _ _ _ (⟨12310, 12311⟩ : S64) )) (Reps.c2 (show Kd.M k64 _ _ _ (⟨12312, 12313⟩ : S64) [.int .i32 12312, .int .i32 12313] from (k64_mkM _ _ _ (⟨12312, 12313⟩ : S64) )) (Reps.c2 (show Kd.M k64 _ _ _ (⟨12314, 12315⟩ : S64) [.int .i32 12314, .int .i32 12315] from (k64_mkM _ _ _ (⟨12314, 12315⟩ : S64) )) (Reps.none _ _))))))))))))))))))))))))); intro v123 w1 ho2 hb hg_ hnew_; clear hg_ hnew_; (first | rw [← Ny122.out] at ho2 | (simp only [Int.reduceToNat] at ho2; rw [← Ny122.out] at ho2)); have n0_ := Aside0.mk (Kd.R_lower ho2 (below_size (mvB HB))); have n1_ := Aside0.mk (below_step (mvB HB) hb); clear HB; have HO124 := n0_; have HB := n1_; clear n0_ n1_; clear hb ho2))
 go_ret
 exact ⟨_, by first | rfl | (simp [errW_none, errW_some] <;> rfl) | (simp [*, errW_none, errW_some] <;> rfl), mvR HO124, mvB HB⟩

end Go.Proofs.YtiogpnefnapfeaaDoor.X
