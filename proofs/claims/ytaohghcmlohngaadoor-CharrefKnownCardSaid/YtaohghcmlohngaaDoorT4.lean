import Derived.Test.YtaohghcmlohngaaDoorT3
import Derived.Test.YtaohghcmlohngaaDoorX3
import Derived.Lib.Bytealg
import Derived.IntWalk
/-! charref.Decode. -/
namespace Go.Proofs.YtaohghcmlohngaaDoor.X
open Go.RowKit Go.Proofs.YtaohghcmlohngaaDoorW.PrintWords Go.Proofs.YtaohghcmlohngaaDoorW.PrintLast Go.Proofs.YtaohghcmlohngaaDoorW.PrintMore
set_option linter.unusedVariables false
set_option linter.unusedSimpArgs false
set_option maxRecDepth 100000
theorem indexByteS_c (s : ByteArray) (c : Int) (w : World) : Calls Tryd.prog 40 #[.string s, .int .u8 c] w fun e w' => e = .returned (.int .i64 (Lib.indexByte s.data.toList c.toNat.toUInt8)) ∧ w' = w := by
  go_enter Tryd.func40, Tryd.ntmps40
  go_wp2
  rw [run_callFunc_extern Tryd.func45 (by kernel_rfl) (by kernel_rfl) (by kernel_rfl) (e := Extern.BytealgIndexByte.indexByte) (by kernel_rfl), Lib.run_indexByteString]
  simp only [Result.andThen]
  rw [Oper.upon_value]
  go_wp2
  go_ret
  exact ⟨rfl, rfl⟩
theorem indexByte_c (s : ByteArray) (c : Int) (w : World) : Calls Tryd.prog 27 #[.string s, .int .u8 c] w fun e w' => e = .returned (.int .i64 (Lib.indexByte s.data.toList c.toNat.toUInt8)) ∧ w' = w := by
  go_enter Tryd.func27, Tryd.ntmps27
  go_wp2_with (go_at_call 40; refine (indexByteS_c _ _ _).mono ?_; rintro e w1 ⟨rfl, hw⟩; obtain rfl := hw.symm)
  go_ret
  exact ⟨rfl, rfl⟩
theorem ownsRowF_below {B : Nat} {e : TypeId} {c : Nat} {v : Value} {n : Nat} {xs : List Value} {w w' : World} (h : w.ownsRowF B e c v n xs) (hb : Below w.heap.size w w') : w'.ownsRowF B e c v n xs := by
  refine ⟨h.1, ?_⟩
  rcases h.2 with h1 | ⟨g, cap, cur, fz, h1, h2, h3, h4⟩
  · exact .inl h1
  · have hlt : g < w.heap.size := by
      rcases Nat.lt_or_ge g w.heap.size with q | q
      · exact q
      · rw [Array.getElem?_eq_none q] at h3; cases h3
    exact .inr ⟨g, cap, cur, fz, h1, h2, (hb.block g hlt).trans h3, h4⟩
theorem isB_below {T e : TypeId} {B b : Nat} {bs : List Value} {w w' : World} (h : Lib.IsBuilderF T e B b bs w) (hb : Below w.heap.size w w') : Lib.IsBuilderF T e B b bs w' := by
  have one : ∀ {p : Value}, Lib.BuilderAtF T e B b p bs w → Lib.BuilderAtF T e B b p bs w' := by
    rintro p ⟨h1, v, h2, h3, h4⟩
    have hlt : b < w.heap.size := by
      rcases Nat.lt_or_ge b w.heap.size with q | q
      · exact q
      · rw [Array.getElem?_eq_none q] at h2; cases h2
    exact ⟨h1, v, (hb.block b hlt).trans h2, ownsRowF_below h3 hb, h4⟩
  exact h.elim (fun x => .inl (one x)) (fun x => .inr (one x))
/-- Where the first & stands. -/
def amp (s : ByteArray) : Int := Lib.indexByte s.data.toList (38 : Int).toNat.toUInt8
theorem indexByte_lt (l : List UInt8) (c : UInt8) : Lib.indexByte l c < l.length ∧ -1 ≤ Lib.indexByte l c := by
  induction l with
  | nil => exact ⟨by show (-1 : Int) < ((0 : Nat) : Int); decide, by show (-1 : Int) ≤ -1; decide⟩
  | cons b l ih =>
    unfold Lib.indexByte
    rw [List.length_cons]
    split
    · exact ⟨by omega, by omega⟩
    · split <;> exact ⟨by omega, by omega⟩
theorem amp_in (s : ByteArray) : amp s < s.size ∧ -1 ≤ amp s := by
  have := indexByte_lt s.data.toList (38 : Int).toNat.toUInt8
  rw [Array.length_toList] at this
  exact this
def charref_Decode.l0 : Nat → ByteArray → Bool → List UInt8 → Option ByteArray
 | 0, _, _, _ => none
 | k + 1, s, at_, b =>
   if b.length + s.size ≤ 140737488355000 then
    (if amp s < 0 then some ⟨(b ++ s.data.toList).toArray⟩
     else (charref_Find.f k (s.extract (amp s).toNat s.size) at_).bind fun t =>
      if t.2.2 = true then
       (if -2147483648 ≤ t.1 ∧ t.1 ≤ 2147483647 ∧ 0 < t.2.1 ∧ amp s + t.2.1 ≤ s.size then charref_Decode.l0 k (s.extract (amp s + t.2.1).toNat s.size) at_ (b ++ (s.extract 0 (amp s).toNat).data.toList ++ Lib.encodeRune t.1) else none)
      else charref_Decode.l0 k (s.extract (amp s + 1).toNat s.size) at_ (b ++ (s.extract 0 (amp s).toNat).data.toList ++ [38]))
   else none
def charref_Decode.f (k : Nat) (a0 : ByteArray) (a1 : Bool) : Option ByteArray := charref_Decode.l0 k a0 a1 []
theorem charref_Decode.mono_l (a : Bool) : ∀ k s b, LeO (charref_Decode.l0 k s a b) (charref_Decode.l0 (k + 1) s a b)
  | 0, s, b => fun r h => by simp [charref_Decode.l0] at h
  | k + 1, s, b => by
    rw [charref_Decode.l0, charref_Decode.l0]
    refine LeO.ite (LeO.ite (LeO.refl _) (LeO.bind (charref_Find.mono _ _ _) fun t => ?_)) (LeO.refl _)
    exact LeO.ite (LeO.ite (charref_Decode.mono_l a k _ _) (LeO.refl _)) (charref_Decode.mono_l a k _ _)
theorem charref_Decode.mono : ∀ a0 a1 k, LeO (charref_Decode.f k a0 a1) (charref_Decode.f (k + 1) a0 a1) := fun a0 a1 k => charref_Decode.mono_l a1 k a0 []
def strOf : Value → ByteArray
  | .string s => s
  | _ => ByteArray.empty
theorem byteCells_38 : Lib.byteCells [38] = [.int .u8 38] := rfl
set_option maxHeartbeats 8000000 in
theorem decode_c (k0 : Nat) (a0 : ByteArray) (a1 : Bool) (r : ByteArray) (w : World) (h : charref_Decode.l0 k0 a0 a1 [] = some r) (hT : Tabs w) : Calls Tryd.prog 14 #[.string a0, .bool a1] w fun e w' => e = .returned (.string r) ∧ Below w.heap.size w w' := by
  have HT := Aside0.mk hT
  have H0 := Aside0.mk h
  clear hT h
  go_enter Tryd.func14, Tryd.ntmps14
  go_wp2
  go_loopw [0] (fun v0 wr => ∃ (s : ByteArray) (acc : List UInt8) (k : Nat), v0 = .string s ∧ Aside0 (charref_Decode.l0 k s a1 acc = some r) ∧ Aside0 (Lib.IsBuilderF 54 5 w.heap.size w.heap.size (Lib.byteCells acc) wr) ∧ Aside0 (Below w.heap.size w wr)) (fun v0 _ => (strOf v0).size)
  case atStart => exact ⟨a0, [], k0, rfl, H0, ⟨Lib.IsBuilderF.of (Lib.fresh_isBuilder 54 5 w)⟩, ⟨below_alloc (Below.refl _ _) _⟩⟩
  case round =>
    obtain ⟨s, acc, k, rfl, HL, HI, HB⟩ := hrel
    cases k with
    | zero => have := HL.out; rw [charref_Decode.l0] at this; cases this
    | succ k =>
      have hl := HL.out
      rw [charref_Decode.l0] at hl
      clear HL
      obtain ⟨i, hi⟩ : ∃ i, amp s = i := ⟨_, rfl⟩
      have hin := amp_in s
      rw [hi] at hl hin
      have hi' : Lib.indexByte s.data.toList (38 : Int).toNat.toUInt8 = i := hi
      have HI' := Aside0.mk hi'
      by_cases hlen : acc.length + s.size ≤ 140737488355000
      case neg => rw [if_neg hlen] at hl; cases hl
      rw [if_pos hlen] at hl
      have HLen := Aside0.mk hlen
      have HIN := Aside0.mk hin
      have HLe := Aside0.mk (show (Lib.byteCells acc).length = acc.length from Lib.byteCells_length acc)
      have HBs := Aside0.mk HB.out.size
      clear hi hi' hlen hin
      by_cases hneg : i < 0
      · rw [if_pos hneg] at hl
        injection hl with hl
        have d0 : decide (i < 0) = true := decide_eq_true hneg
        clear hneg
        have HR := Aside0.mk hl
        clear hl
        go_wp2_with (first
          | (go_at_call 27; refine (indexByte_c s 38 _).mono ?_; rintro e w1 ⟨rfl, hw⟩; obtain rfl := hw.symm; rw [HI'.out])
          | (go_at_call 28; refine (Builder_WriteString_k w.heap.size w.heap.size (Lib.byteCells acc) s _ HI.out (by rw [HLe.out]; have := HLen.out; omega) HBs.out).mono ?_; rintro e w1 ⟨rfl, h1, h2, h3⟩; have HI2 := Aside0.mk h1; have HB2 := Aside0.mk h2; clear h1 h2 h3)
          | (go_at_call 29; refine (Builder_String_any_k w.heap.size w.heap.size (acc ++ s.data.toList) _ (by rw [Lib.byteCells_append]; exact .inr HI2.out) (Nat.le_trans HBs.out HB2.out.size)).mono ?_; rintro e w2 ⟨rfl, h1, h2, h3⟩; have HB3 := Aside0.mk h2; clear h1 h2 h3))
        go_ret
        exact ⟨by rw [HR.out]; rfl, (HB.out.trans HB2.out).trans HB3.out⟩
      · rw [if_neg hneg] at hl
        have d0 : decide (i < 0) = false := decide_eq_false hneg
        have p0 : (0 ≤ i) = True := eq_true (by omega)
        have p1 : (i ≤ (s.size : Int)) = True := eq_true (by have := HIN.out; omega)
        have p2 : (i < (s.size : Int)) = True := eq_true HIN.out.1
        have p3 : (i.toNat ≤ s.size) = True := eq_true (by have := HIN.out; omega)
        clear hneg
        obtain ⟨⟨fr, fn, fo⟩, hf, hl⟩ := Option.bind_eq_some_iff.mp hl
        have HF := Aside0.mk hf
        dsimp only at hl
        clear hf
        have hsz : (s.extract 0 i.toNat).size = i.toNat := by have := HIN.out; rw [ByteArray.size_extract]; omega
        have HSZ := Aside0.mk hsz
        clear hsz
        cases fo with
        | true =>
          rw [if_pos rfl] at hl
          by_cases hc : -2147483648 ≤ fr ∧ fr ≤ 2147483647 ∧ 0 < fn ∧ i + fn ≤ s.size
          case neg => rw [if_neg hc] at hl; cases hl
          rw [if_pos hc] at hl
          have HC := Aside0.mk hc
          have HL := Aside0.mk hl
          have q0 : (0 ≤ i + fn) = True := eq_true (by have := HIN.out; omega)
          have q1 : (i + fn ≤ (s.size : Int)) = True := eq_true hc.2.2.2
          have q2 : ((i + fn).toNat ≤ s.size) = True := eq_true (by omega)
          have q3 : wrap64 (i + fn) = i + fn := by have := HIN.out; have := HLen.out; exact IntWalk.wrap64_in _ ⟨by omega, by omega⟩
          clear hc hl
          go_wp2_with (first
            | (go_at_call 27; refine (indexByte_c s 38 _).mono ?_; rintro e w1 ⟨rfl, hw⟩; obtain rfl := hw.symm; rw [HI'.out])
            | (go_at_call 28; refine (Builder_WriteString_k w.heap.size w.heap.size (Lib.byteCells acc) (s.extract 0 i.toNat) _ HI.out (by rw [HLe.out, HSZ.out]; have := HLen.out; have := HIN.out; omega) HBs.out).mono ?_; rintro e w1 ⟨rfl, h1, h2, h3⟩; have HI2 := Aside0.mk h1; have HB2 := Aside0.mk h2; clear h1 h2 h3)
            | (go_at_call 12; refine (charref_Find.calls k (s.extract i.toNat s.size) a1 fr fn true _ HF.out (HT.out.below (HB.out.trans HB2.out))).mono ?_; rintro e w2 ⟨rfl, hb⟩; have HB3 := Aside0.mk hb; clear hb)
            | (go_at_call 30; refine (Builder_WriteRune_k w.heap.size w.heap.size (Lib.byteCells acc ++ Lib.strCells (s.extract 0 i.toNat)) fr HC.out.1 HC.out.2.1 _ (isB_below (.inr HI2.out) HB3.out) (by rw [List.length_append, HLe.out, Lib.strCells_length, HSZ.out]; have := HLen.out; have := HIN.out; omega) (Nat.le_trans HBs.out (Nat.le_trans HB2.out.size HB3.out.size))).mono ?_; rintro e w3 ⟨rfl, h1, h2, h3⟩; have HI4 := Aside0.mk h1; have HB4 := Aside0.mk h2; clear h1 h2 h3))
          go_roundw
          case rel => exact ⟨s.extract (i + fn).toNat s.size, acc ++ (s.extract 0 i.toNat).data.toList ++ Lib.encodeRune fr, k, rfl, HL, ⟨by rw [Lib.byteCells_append, Lib.byteCells_append, Lib.byteCells_encodeRune]; exact .inr HI4.out⟩, ⟨((HB.out.trans HB2.out).trans (HB3.out.mono (Nat.le_trans HBs.out HB2.out.size))).trans HB4.out⟩⟩
          case measure =>
            have := HC.out
            have := HIN.out
            show (s.extract (i + fn).toNat s.size).size < s.size
            rw [ByteArray.size_extract]
            have := p0
            simp only [eq_iff_iff, iff_true] at this
            omega
        | false =>
          rw [if_neg (by decide)] at hl
          have HL := Aside0.mk hl
          have q0 : (0 ≤ i + 1) = True := eq_true (by have := HIN.out; omega)
          have q1 : (i + 1 ≤ (s.size : Int)) = True := eq_true (by have := HIN.out; omega)
          have q2 : ((i + 1).toNat ≤ s.size) = True := eq_true (by have := HIN.out; omega)
          have q3 : wrap64 (i + 1) = i + 1 := by have := HIN.out; have := HLen.out; exact IntWalk.wrap64_in _ ⟨by omega, by omega⟩
          clear hl
          go_wp2_with (first
            | (go_at_call 27; refine (indexByte_c s 38 _).mono ?_; rintro e w1 ⟨rfl, hw⟩; obtain rfl := hw.symm; rw [HI'.out])
            | (go_at_call 28; refine (Builder_WriteString_k w.heap.size w.heap.size (Lib.byteCells acc) (s.extract 0 i.toNat) _ HI.out (by rw [HLe.out, HSZ.out]; have := HLen.out; have := HIN.out; omega) HBs.out).mono ?_; rintro e w1 ⟨rfl, h1, h2, h3⟩; have HI2 := Aside0.mk h1; have HB2 := Aside0.mk h2; clear h1 h2 h3)
            | (go_at_call 12; refine (charref_Find.calls k (s.extract i.toNat s.size) a1 fr fn false _ HF.out (HT.out.below (HB.out.trans HB2.out))).mono ?_; rintro e w2 ⟨rfl, hb⟩; have HB3 := Aside0.mk hb; clear hb)
            | (go_at_call 31; refine (Builder_WriteByte_k w.heap.size w.heap.size (Lib.byteCells acc ++ Lib.strCells (s.extract 0 i.toNat)) 38 _ (isB_below (.inr HI2.out) HB3.out) (by rw [List.length_append, HLe.out, Lib.strCells_length, HSZ.out]; have := HLen.out; have := HIN.out; omega) (Nat.le_trans HBs.out (Nat.le_trans HB2.out.size HB3.out.size))).mono ?_; rintro e w3 ⟨rfl, h1, h2, h3⟩; have HI4 := Aside0.mk h1; have HB4 := Aside0.mk h2; clear h1 h2 h3))
          go_roundw
          case rel => exact ⟨s.extract (i + 1).toNat s.size, acc ++ (s.extract 0 i.toNat).data.toList ++ [38], k, rfl, HL, ⟨by rw [Lib.byteCells_append, Lib.byteCells_append]; exact .inr HI4.out⟩, ⟨((HB.out.trans HB2.out).trans (HB3.out.mono (Nat.le_trans HBs.out HB2.out.size))).trans HB4.out⟩⟩
          case measure =>
            have := HIN.out
            show (s.extract (i + 1).toNat s.size).size < s.size
            rw [ByteArray.size_extract]
            have := p0
            simp only [eq_iff_iff, iff_true] at this
            omega
theorem charref_Decode.calls (k : Nat) (a0 : ByteArray) (a1 : Bool) (r : ByteArray) (w : World) (h : charref_Decode.f k a0 a1 = some r) (hT : Tabs w) : Calls Tryd.prog 14 #[.string a0, .bool a1] w fun e w' => e = .returned (.string r) ∧ Below w.heap.size w w' := decode_c k a0 a1 r w h hT
end Go.Proofs.YtaohghcmlohngaaDoor.X
