-- by xprint.py: the kit's printer over texts of this session
import Derived.Test.YtaohghcmlohngaaDoorX0
import Derived.Test.YtaohghcmlohngaaDoorX1
import Derived.Test.YtaohghcmlohngaaDoorX2
import Derived.Test.YtaohghcmlohngaaDoorX3
import Derived.Test.YtaohghcmlohngaaDoorT4
import Derived.Test.YtaohghcmlohngaaDoorT6
namespace Go.Proofs.YtaohghcmlohngaaDoor.X
open Go.RowKit Go.Proofs.YtaohghcmlohngaaDoorW.PrintWords Go.Proofs.YtaohghcmlohngaaDoorW.PrintLast Go.Proofs.YtaohghcmlohngaaDoorW.PrintMore
attribute [local go_sem] max2_int min2_int max_two min_two max_three min_three max_four min_four   -- for this text's walks alone
set_option linter.unusedVariables false
set_option linter.unusedSimpArgs false

/-! ### stringslite_IndexByte: function 40 (a text of ours) -/

-- NOT PRINTED: function 40 (stringslite_IndexByte)

/-! ### strings_IndexByte: function 27 (a text of ours) -/

-- NOT PRINTED: function 27 (strings_IndexByte)

-- NOT PRINTED: function 46 (abi_NoEscape)

/-! ### strings_Builder_copyCheck: function 41 (a text of ours) -/

-- NOT PRINTED: function 41 (strings_Builder_copyCheck)

/-! ### strings_Builder_WriteString: function 28 (a text of ours) -/

-- NOT PRINTED: function 28 (strings_Builder_WriteString)

/-! ### strings_Builder_String: function 29 (a text of ours) -/

-- NOT PRINTED: function 29 (strings_Builder_String)

/-! ### utf8_appendRuneNonASCII: function 47 (a text of ours) -/

-- NOT PRINTED: function 47 (utf8_appendRuneNonASCII)

/-! ### utf8_AppendRune: function 42 (a text of ours) -/

-- NOT PRINTED: function 42 (utf8_AppendRune)

/-! ### strings_Builder_WriteRune: function 30 (a text of ours) -/

-- NOT PRINTED: function 30 (strings_Builder_WriteRune)

/-! ### strings_Builder_WriteByte: function 31 (a text of ours) -/

-- NOT PRINTED: function 31 (strings_Builder_WriteByte)

/-! ### charref_Decode: function 14 (a text of ours) -/
-- LATER Derived.Test.YtaohghcmlohngaaDoorT4

/-! ### selvedgelaw03_works: function 10 -/
def selvedgelaw03_works.f (k : Nat)  : Option (Bool) := (charref_Decode.f k (⟨#[38, 108, 116, 59, 38, 35, 54, 53, 59, 38, 110, 111, 116, 105, 110, 32, 38, 99, 111, 112, 121, 61, 49]⟩ : ByteArray) false).bind fun t125 => (if t125.toList = ([60, 65, 194, 172, 105, 110, 32, 194, 169, 61, 49] : List UInt8) then ((charref_Decode.f k (⟨#[38, 99, 111, 112, 121, 61, 49, 38, 99, 111, 112, 121, 59]⟩ : ByteArray) true).bind fun t126 => (some (t126.toList == ([38, 99, 111, 112, 121, 61, 49, 194, 169] : List UInt8)))) else (some false))
theorem selvedgelaw03_works.mono : ∀ k, LeO (selvedgelaw03_works.f k ) (selvedgelaw03_works.f (k + 1) ) := by
 intro  k
 unfold selvedgelaw03_works.f
 repeat' first
   | (with_reducible exact charref_Decode.mono _ _ _)
   | (with_reducible exact LeO.refl _)
   | (with_reducible exact LeO.none _)
   | (with_reducible refine LeO.ite ?_ ?_)
   | (with_reducible refine LeO.bind ?_ (fun _ => ?_))
   | exact charref_Decode.mono _ _ _
   | exact LeO.none _
   | refine LeO.ite ?_ ?_
   | refine LeO.bind ?_ (fun _ => ?_)
set_option maxHeartbeats 8000000 in
set_option maxRecDepth 100000 in
theorem selvedgelaw03_works.calls (k : Nat)  (r : Bool) (w : World) (h : selvedgelaw03_works.f k  = some r) (hT : Tabs w) :
  Calls Tryd.prog 10 #[] w fun e w' => e = .returned (.bool r) ∧ Below w.heap.size w w' := by
 have HT := Aside0.mk hT
 clear hT
 have HB := Aside0.mk (Below.refl w.heap.size w)
 have H : ((charref_Decode.f k (⟨#[38, 108, 116, 59, 38, 35, 54, 53, 59, 38, 110, 111, 116, 105, 110, 32, 38, 99, 111, 112, 121, 61, 49]⟩ : ByteArray) false).bind fun t125 => (if t125.toList = ([60, 65, 194, 172, 105, 110, 32, 194, 169, 61, 49] : List UInt8) then ((charref_Decode.f k (⟨#[38, 99, 111, 112, 121, 61, 49, 38, 99, 111, 112, 121, 59]⟩ : ByteArray) true).bind fun t126 => (some (t126.toList == ([38, 99, 111, 112, 121, 61, 49, 194, 169] : List UInt8)))) else (some false))) = some r := h
 clear h
 replace H := Option.bind_eq_some_iff.mp H
 obtain ⟨t125, A10, H⟩ := H
 replace H : (if t125.toList = ([60, 65, 194, 172, 105, 110, 32, 194, 169, 61, 49] : List UInt8) then ((charref_Decode.f k (⟨#[38, 99, 111, 112, 121, 61, 49, 38, 99, 111, 112, 121, 59]⟩ : ByteArray) true).bind fun t126 => (some (t126.toList == ([38, 99, 111, 112, 121, 61, 49, 194, 169] : List UInt8)))) else (some false)) = some r := H
 have A1 := Aside0.mk A10
 clear A10
 by_cases c2 : t125.toList = ([60, 65, 194, 172, 105, 110, 32, 194, 169, 61, 49] : List UInt8)
 ·rw [if_pos c2] at H
  have c2b0 : (t125.toList == ([60, 65, 194, 172, 105, 110, 32, 194, 169, 61, 49] : List UInt8)) = true := beq_iff_eq.mpr c2
  have c2b1 : (t125.toList != ([60, 65, 194, 172, 105, 110, 32, 194, 169, 61, 49] : List UInt8)) = false := bne_eq_false_iff_eq.mpr c2
  clear c2
  replace H := Option.bind_eq_some_iff.mp H
  obtain ⟨t126, A30, H⟩ := H
  replace H : (some (t126.toList == ([38, 99, 111, 112, 121, 61, 49, 194, 169] : List UInt8))) = some r := H
  have A3 := Aside0.mk A30
  clear A30
  obtain rfl := Option.some.inj H
  go_enter Tryd.func10, Tryd.ntmps10
  go_wp2_with (first | ((with_reducible refine gate_callee (f := 14) rfl ?_); refine goesL_ (some 1) rfl rfl Tryd.func14 (by kernel_rfl) rfl #[.string (⟨#[38, 108, 116, 59, 38, 35, 54, 53, 59, 38, 110, 111, 116, 105, 110, 32, 38, 99, 111, 112, 121, 61, 49]⟩ : ByteArray), .bool false] rfl (by (try simp only [List.map_toArray, List.map_cons, List.map_nil]); first | done | rfl | (simp only [List.length_drop, List.length_take]; rfl)) ?_; (with_reducible refine (charref_Decode.calls k (⟨#[38, 108, 116, 59, 38, 35, 54, 53, 59, 38, 110, 111, 116, 105, 110, 32, 38, 99, 111, 112, 121, 61, 49]⟩ : ByteArray) false t125 _ A1.out (by exact HT.out.below (mvB HB))).mono ?_); rintro e w4 ⟨rfl, hb⟩; refine ⟨_, rfl, ?_⟩; have n0_ := Aside0.mk (below_step (mvB HB) hb); clear HB; have HB := n0_; clear n0_; (try clear hb); (try clear hb2); (try clear hk); (try clear hi)) | (go_at_call 14; (with_reducible refine (charref_Decode.calls k (⟨#[38, 99, 111, 112, 121, 61, 49, 38, 99, 111, 112, 121, 59]⟩ : ByteArray) true t126 _ A3.out (by exact HT.out.below (mvB HB))).mono ?_); rintro e w5 ⟨rfl, hb⟩; have n0_ := Aside0.mk (below_step (mvB HB) hb); clear HB; have HB := n0_; clear n0_; (try clear hb); (try clear hb2); (try clear hk); (try clear hi)))
  go_ret
  exact ⟨by first | rfl | (simp [errW_none, errW_some] <;> rfl) | (simp [*, errW_none, errW_some] <;> rfl), mvB HB⟩
 ·rw [if_neg c2] at H
  have c2b0 : (t125.toList == ([60, 65, 194, 172, 105, 110, 32, 194, 169, 61, 49] : List UInt8)) = false := beq_eq_false_iff_ne.mpr c2
  have c2b1 : (t125.toList != ([60, 65, 194, 172, 105, 110, 32, 194, 169, 61, 49] : List UInt8)) = true := bne_iff_ne.mpr c2
  obtain rfl := Option.some.inj H
  go_enter Tryd.func10, Tryd.ntmps10
  go_wp2_with (first | ((with_reducible refine gate_callee (f := 14) rfl ?_); refine goesL_ (some 1) rfl rfl Tryd.func14 (by kernel_rfl) rfl #[.string (⟨#[38, 108, 116, 59, 38, 35, 54, 53, 59, 38, 110, 111, 116, 105, 110, 32, 38, 99, 111, 112, 121, 61, 49]⟩ : ByteArray), .bool false] rfl (by (try simp only [List.map_toArray, List.map_cons, List.map_nil]); first | done | rfl | (simp only [List.length_drop, List.length_take]; rfl)) ?_; (with_reducible refine (charref_Decode.calls k (⟨#[38, 108, 116, 59, 38, 35, 54, 53, 59, 38, 110, 111, 116, 105, 110, 32, 38, 99, 111, 112, 121, 61, 49]⟩ : ByteArray) false t125 _ A1.out (by exact HT.out.below (mvB HB))).mono ?_); rintro e w6 ⟨rfl, hb⟩; refine ⟨_, rfl, ?_⟩; have n0_ := Aside0.mk (below_step (mvB HB) hb); clear HB; have HB := n0_; clear n0_; (try clear hb); (try clear hb2); (try clear hk); (try clear hi)))
  go_ret
  exact ⟨by first | rfl | (simp [errW_none, errW_some] <;> rfl) | (simp [*, errW_none, errW_some] <;> rfl), mvB HB⟩

/-! ### selvedgeref03_Names: function 11 (a text of ours) -/
-- LATER Derived.Test.YtaohghcmlohngaaDoorT6

end Go.Proofs.YtaohghcmlohngaaDoor.X
