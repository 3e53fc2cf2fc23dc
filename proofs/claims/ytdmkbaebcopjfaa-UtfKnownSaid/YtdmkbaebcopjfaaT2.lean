import Derived.Test.YtdmkbaebcopjfaaT1
/-! utf.parts with the closure of utf.mended; utf.mended. -/
namespace Go.Proofs.Ytdmkbaebcopjfaa.X
open Go.RowKit Go.Proofs.YtdmkbaebcopjfaaW.PrintWords Go.Proofs.YtdmkbaebcopjfaaW.PrintLast Go.Proofs.YtdmkbaebcopjfaaW.PrintMore
attribute [local go_sem] max2_int min2_int max_two min_two max_three min_three max_four min_four   -- for this text's walks alone
set_option linter.unusedVariables false
set_option linter.unusedSimpArgs false

def strOf : Value → ByteArray
  | .string s => s
  | _ => ByteArray.empty
def PartsPost (B b : Nat) (acc : List UInt8) (w : World) (e : Ending) (w' : World) : Prop := e = .returned (.tuple #[]) ∧ Lib.IsBuilderF 38 5 B b (Lib.byteCells acc) w' ∧ Below B w w' ∧ Lib.OthersKept 5 (some b) w w'
theorem str_ne {s : ByteArray} (h : 0 < s.size) : (!s.toList.isEmpty) = true := by
  rw [Lib.toList_data]
  have : s.data.toList.length = s.size := by rw [Array.length_toList]; rfl
  cases q : s.data.toList with
  | nil => rw [q] at this; simp at this; omega
  | cons _ _ => rfl
theorem str_eq {s : ByteArray} (h : ¬ 0 < s.size) : (!s.toList.isEmpty) = false := by
  rw [Lib.toList_data]
  have : s.data.toList.length = s.size := by rw [Array.length_toList]; rfl
  cases q : s.data.toList with
  | nil => rfl
  | cons _ _ => rw [q] at this; simp at this; omega
set_option maxHeartbeats 8000000 in
set_option maxRecDepth 100000 in
theorem parts_c (B b : Nat) (acc : List UInt8) (s : ByteArray) (w : World) (h : Lib.IsBuilderF 38 5 B b (Lib.byteCells acc) w) (hlen : acc.length + 3 * s.size + 6 ≤ 140737488355328) (hBw : B ≤ w.heap.size) :
    Calls Try.prog 24 #[.string s, .func (.func 25) #[] #[.pointer (some ⟨b, 0, none⟩)]] w (PartsPost B b (acc ++ mend s.size s) w) := by
  have HI := Aside0.mk h
  have HL := Aside0.mk hlen
  have HBW := Aside0.mk hBw
  clear h hlen hBw
  go_enter Try.func24, Try.ntmps24
  go_wp2
  go_loopw [0] (fun v0 wr => ∃ (s' : ByteArray) (acc' : List UInt8) (f' : Nat), v0 = .string s' ∧ Aside0 (s'.size ≤ f') ∧ Aside0 (acc'.length + 3 * s'.size + 6 ≤ 140737488355328) ∧ Aside0 (acc' ++ mend f' s' = acc ++ mend s.size s) ∧ Aside0 (Lib.IsBuilderF 38 5 B b (Lib.byteCells acc') wr) ∧ Aside0 (Below B w wr) ∧ Aside0 (Lib.OthersKept 5 (some b) w wr)) (fun v0 _ => (strOf v0).size)
  case atStart => exact ⟨s, acc, s.size, rfl, ⟨Nat.le_refl _⟩, HL, ⟨rfl⟩, HI, ⟨Below.refl _ _⟩, ⟨Lib.OthersKept.refl _ _ _⟩⟩
  case round =>
    clear HI HL
    obtain ⟨s', acc', f', rfl, HF, HL, HE, HI, HB, HK⟩ := hrel
    by_cases hz : 0 < s'.size
    · have n1 : (!s'.toList.isEmpty) = true := str_ne hz
      have q0 : (0 < s'.size) = True := eq_true hz
      have qi0 : (0 < (s'.size : Int)) = True := eq_true (by omega)
      have hx0 : ∀ h : 0 < s'.size, ((s'[0]'h).toNat : Int) = bt s' 0 := bt_at s' 0
      obtain ⟨f, rfl⟩ : ∃ f, f' = f + 1 := ⟨f' - 1, by have := HF.out; omega⟩
      have hp := part_in s' hz
      have HNZ := Aside0.mk hz
      obtain ⟨pk1, pok, hpart⟩ : ∃ a c, part s' = (a, c) := ⟨_, _, rfl⟩
      have hme : mend (f + 1) s' = pb (s'.extract 0 pk1.toNat) pok ++ mend f (s'.extract pk1.toNat s'.size) := by rw [mend, if_neg (by omega), hpart]
      rw [hpart] at hp
      have HP := Aside0.mk hp
      have HME := Aside0.mk hme
      have HPT := Aside0.mk hpart
      obtain ⟨u1, u2, u3, u4, hu⟩ : ∃ a c d e, uN (bt s' 0) = (a, c, d, e) := ⟨_, _, _, _, rfl⟩
      have hui := uN_in (bt s' 0)
      rw [hu] at hui
      have HUI := Aside0.mk hui
      have ND := fun W => utf_needs.calls 2 (bt s' 0) u1 u2 u3 u4 W ((needs_some _).trans (congrArg some hu))
      have HU := Aside0.mk hu
      clear hz hp hme hpart hu hui
      go_upto_block 2 with (go_at_call 31; (with_reducible refine (ND _).mono ?_); rintro e w' ⟨rfl, ⟨nd, rfl⟩⟩)
      go_cut [7, 8] (fun v7 v8 wc => v7 = .bool pok ∧ v8 = .int .i64 pk1 ∧ wc = wr.drewN nd)
      case first =>
        clear ND n1 qi0 q0 hx0
        go_wp2
        go_loop [5, 6, 7, 8] (fun v5 v6 v7 v8 => ∃ (lo hi k : Int) (ok : Bool), v5 = .int .u8 lo ∧ v6 = .int .u8 hi ∧ v7 = .bool ok ∧ v8 = .int .i64 k ∧ 1 ≤ k ∧ k ≤ 4 ∧ k ≤ (s'.size : Int) ∧ Aside0 ((ok = true → pk s' u1 (5 - k).toNat k lo hi = (pk1, pok)) ∧ (ok = false → (k, false) = (pk1, pok)))) (fun _ _ _ v8 => 5 - (intOf v8).toNat)
        case atStart =>
          refine ⟨u2, u3, 1, u4, rfl, rfl, rfl, rfl, by omega, by omega, by have := HNZ.out; omega, ⟨fun h => ?_, fun h => ?_⟩⟩
          · have := HPT.out
            unfold part at this
            rw [HU.out] at this
            dsimp only at this
            rw [if_pos h] at this
            exact this
          · have := HPT.out
            unfold part at this
            rw [HU.out] at this
            dsimp only at this
            rw [if_neg (by rw [h]; decide)] at this
            exact this
        case round =>
          obtain ⟨lo, hi, k, ok, rfl, rfl, rfl, rfl, hk1, hk4, hks, HR⟩ := hrel
          cases ok with
          | false =>
            have hr := HR.out.2 rfl
            injection hr with e1 e2
            subst e1 e2
            clear HR
            go_wp2
            go_meet
            case rel => exact ⟨rfl, rfl, rfl⟩
          | true =>
            have hr := HR.out.1 rfl
            clear HR
            obtain ⟨d, hd⟩ : ∃ d, (5 - k).toNat = d + 1 := ⟨(5 - k).toNat - 1, by omega⟩
            rw [hd, pk] at hr
            by_cases hkn : k ≤ u1
            · have b0 : decide (k ≤ u1) = true := decide_eq_true hkn
              rw [if_pos hkn] at hr
              by_cases he : k = (s'.size : Int)
              · rw [if_pos (.inl he)] at hr
                injection hr with e1 e2
                subst e1 e2
                have b1 : (k == (s'.size : Int)) = true := beq_iff_eq.mpr he
                clear he hkn hd
                go_wp2
                go_meet
                case rel => exact ⟨rfl, rfl, rfl⟩
              · have b1 : (k == (s'.size : Int)) = false := beq_eq_false_iff_ne.mpr he
                have hlt : k < (s'.size : Int) := by omega
                have p1 : (0 ≤ k) = True := eq_true (by omega)
                have p2 : (k < (s'.size : Int)) = True := eq_true hlt
                have p3 : (k.toNat < s'.size) = True := eq_true (by omega)
                have hxk : ∀ h : k.toNat < s'.size, ((s'[k.toNat]'h).toNat : Int) = bt s' k := bt_at s' k
                by_cases hlo : bt s' k < lo
                · rw [if_pos (.inr (.inl hlo))] at hr
                  injection hr with e1 e2
                  subst e1 e2
                  have b2 : decide (bt s' k < lo) = true := decide_eq_true hlo
                  clear he hkn hd hlo hlt hks
                  go_wp2
                  go_meet
                  case rel => exact ⟨rfl, rfl, rfl⟩
                · have b2 : decide (bt s' k < lo) = false := decide_eq_false hlo
                  by_cases hhi : hi < bt s' k
                  · rw [if_pos (.inr (.inr hhi))] at hr
                    injection hr with e1 e2
                    subst e1 e2
                    have b3 : decide (hi < bt s' k) = true := decide_eq_true hhi
                    clear he hkn hd hlo hhi hlt hks
                    go_wp2
                    go_meet
                    case rel => exact ⟨rfl, rfl, rfl⟩
                  · have b3 : decide (hi < bt s' k) = false := decide_eq_false hhi
                    rw [if_neg (by omega)] at hr
                    have hd' : (5 - (k + 1)).toNat = d := by omega
                    have HH := Aside0.mk (And.intro hr (And.intro hd' hlt))
                    have HKN := Aside0.mk (And.intro hkn HUI.out.2.1)
                    clear hr he hkn hd hlo hhi hlt hks hd'
                    go_wp2
                    go_round
                    case rel => exact ⟨128, 191, k + 1, true, rfl, rfl, rfl, by go_num, by omega, by have := HKN.out; omega, by have := HH.out.2.2; omega, ⟨fun _ => by rw [HH.out.2.1]; exact HH.out.1, fun h => by cases h⟩⟩
                    case measure => simp [intOf]; omega
            · have b0 : decide (k ≤ u1) = false := decide_eq_false hkn
              rw [if_neg hkn] at hr
              injection hr with e1 e2
              subst e1 e2
              clear hkn hd
              go_wp2
              go_meet
              case rel => exact ⟨rfl, rfl, rfl⟩
      obtain ⟨rfl, rfl, rfl⟩ := hcut
      have r1 : (0 ≤ pk1) = True := eq_true (by have := HP.out.1; omega)
      have r2 : (pk1 ≤ (s'.size : Int)) = True := eq_true HP.out.2
      have r3 : (pk1.toNat ≤ s'.size) = True := eq_true (by have := HP.out.2; omega)
      have hI : Lib.IsBuilderF 38 5 B b (Lib.byteCells acc') (wr.drewN nd) := HI.out
      have HI2 := Aside0.mk hI
      clear hI ND n1 q0 qi0 hx0
      have hsz : (s'.extract 0 pk1.toNat).size = pk1.toNat := by have := HP.out; rw [ByteArray.size_extract]; omega
      have HSZ := Aside0.mk hsz
      clear hsz
      go_wp2_with (go_at_call 25; fail)
      refine (each_c B b acc' (s'.extract 0 pk1.toNat) pok _ HI2.out ?side1 ?side2).mono ?_
      case side1 => have := HSZ.out; have := HP.out; have := HL.out; have := HNZ.out; omega
      case side2 => exact Nat.le_trans HBW.out HB.out.size
      rintro e w1 ⟨rfl, hI3, hB3, hK3⟩
      have HI3 := Aside0.mk hI3
      have HB3 := Aside0.mk hB3
      have HK3 := Aside0.mk hK3
      clear hI3 hB3 hK3
      go_wp2
      go_roundw
      case rel =>
        have hsz := HSZ.out
        have hp := HP.out
        have hnz := HNZ.out
        have hpb := pb_len (s'.extract 0 pk1.toNat) pok (by omega)
        have hs2 : (s'.extract pk1.toNat s'.size).size = s'.size - pk1.toNat := by rw [ByteArray.size_extract]; omega
        refine ⟨s'.extract pk1.toNat s'.size, acc' ++ pb (s'.extract 0 pk1.toNat) pok, f, rfl, ⟨by have := HF.out; omega⟩, ⟨?_⟩, ⟨?_⟩, HI3, ⟨(pw_below_drewN HB.out nd).trans HB3.out⟩, ⟨(show Lib.OthersKept 5 (some b) w (wr.drewN nd) from HK.out).trans HK3.out⟩⟩
        · have := HL.out
          rw [List.length_append]
          omega
        · rw [← HE.out, HME.out, List.append_assoc]
      case measure =>
        have hs2 : (s'.extract pk1.toNat s'.size).size = s'.size - pk1.toNat := by rw [ByteArray.size_extract]; omega
        have hp := HP.out
        have hnz := HNZ.out
        show (s'.extract pk1.toNat s'.size).size < s'.size
        omega
    · have n1 : (!s'.toList.isEmpty) = false := str_eq hz
      have hme : mend f' s' = [] := by
        cases f' with
        | zero => rfl
        | succ f => rw [mend, if_pos (by omega)]
      have HE2 := Aside0.mk (show acc' = acc ++ mend s.size s by rw [← HE.out, hme, List.append_nil])
      clear hz hme
      go_wp2
      go_end0
      exact ⟨rfl, by rw [← HE2.out]; exact HI.out, HB.out, HK.out⟩
def MendPost (s : ByteArray) (w : World) (e : Ending) (w' : World) : Prop := e = .returned (.string ⟨(mend s.size s).toArray⟩) ∧ Below w.heap.size w w'
set_option maxHeartbeats 8000000 in
set_option maxRecDepth 100000 in
theorem mended_c (s : ByteArray) (w : World) (hs : s.size ≤ 35184372088832) : Calls Try.prog 17 #[.string s] w (MendPost s w) := by
  have HS := Aside0.mk hs
  clear hs
  go_enter Try.func17, Try.ntmps17
  go_wp2_with (go_at_call 24; fail)
  refine (parts_c w.heap.size w.heap.size [] s _ (Lib.IsBuilderF.of (Lib.fresh_isBuilder 38 5 w)) (by have := HS.out; simp; omega) (by simp)).mono ?_
  rintro e w1 ⟨rfl, hI, hB, hK⟩
  have HI := Aside0.mk hI
  have HB := Aside0.mk hB
  have HK := Aside0.mk hK
  clear hI hB hK
  go_wp2_with (go_at_call 20; fail)
  refine (Builder_String_any_k w.heap.size w.heap.size (mend s.size s) _ HI.out (by have := HB.out.size; simp at this; omega)).mono ?_
  rintro e w2 ⟨rfl, _, hB2, _⟩
  go_wp2
  go_ret
  exact ⟨rfl, ((below_alloc (Below.refl _ w) _).trans HB.out).trans hB2⟩
def utf_mended.f (s : ByteArray) : Option ByteArray := if s.size ≤ 35184372088832 then some ⟨(mend s.size s).toArray⟩ else none
theorem utf_mended.calls (s : ByteArray) (r : ByteArray) (w : World) (h : utf_mended.f s = some r) : Calls Try.prog 17 #[.string s] w fun e w' => e = .returned (.string r) ∧ Below w.heap.size w w' := by
  unfold utf_mended.f at h
  by_cases hl : s.size ≤ 35184372088832
  · rw [if_pos hl] at h
    injection h with h
    subst h
    exact mended_c s w hl
  · rw [if_neg hl] at h
    cases h
end Go.Proofs.Ytdmkbaebcopjfaa.X
