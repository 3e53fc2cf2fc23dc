import Derived.Test.YtaohghcmlohngaaDoorT1
import Derived.Test.YtaohghcmlohngaaDoorE
import Derived.Lib.Bytealg
import Derived.BigCall
/-! Looking a name up. -/
namespace Go.Proofs.YtaohghcmlohngaaDoor.X
open Go.RowKit Go.Proofs.YtaohghcmlohngaaDoorW.PrintWords Go.Proofs.YtaohghcmlohngaaDoorW.PrintLast Go.Proofs.YtaohghcmlohngaaDoorW.PrintMore
set_option linter.unusedVariables false
set_option linter.unusedSimpArgs false
set_option maxRecDepth 100000
theorem cmpstr_c (a b : ByteArray) (w : World) : Calls Tryd.prog 37 #[.string a, .string b] w fun e w' => e = .returned (.int .i64 (Lib.compareBytes a.data.toList b.data.toList)) ∧ w' = w := by
  go_enter Tryd.func37, Tryd.ntmps37
  go_wp2
  rw [run_callFunc_extern Tryd.func44 (by kernel_rfl) (by kernel_rfl) (by kernel_rfl) (e := Extern.BytealgCompare.compare) (by kernel_rfl), Lib.run_compareString]
  simp only [Result.andThen]
  rw [Oper.upon_value]
  go_wp2
  go_ret
  exact ⟨rfl, rfl⟩
theorem compare_c (a b : ByteArray) (w : World) : Calls Tryd.prog 23 #[.string a, .string b] w fun e w' => e = .returned (.int .i64 (Lib.compareBytes a.data.toList b.data.toList)) ∧ w' = w := by
  go_enter Tryd.func23, Tryd.ntmps23
  go_wp2_with (go_at_call 37; refine (cmpstr_c _ _ _).mono ?_; rintro e w1 ⟨rfl, hw⟩; obtain rfl := hw.symm)
  go_ret
  exact ⟨rfl, rfl⟩
theorem closure_c (n s : ByteArray) (r : Int) (b : Bool) (w : World) : Calls Tryd.prog 22 #[.agg #[.string n, .int .i32 r, .bool b], .string s] w fun e w' => e = .returned (.int .i64 (Lib.compareBytes n.data.toList s.data.toList)) ∧ Below w.heap.size w w' := by
  have HB := Aside0.mk (below_alloc (Below.refl w.heap.size w) (.cells #[.string n, .int .i32 r, .bool b] 48))
  go_enter Tryd.func22, Tryd.ntmps22
  go_wp2_with (go_at_call 23; refine (compare_c _ _ _).mono ?_; rintro e w1 ⟨rfl, hw⟩; obtain rfl := hw.symm)
  go_ret
  exact ⟨rfl, HB.out⟩
/-- How the name h stands to a text. -/
def cmpN (h : Nat) (s : ByteArray) : Int := Lib.compareBytes (nmAt h).1.data.toList s.data.toList
def bsF (s : ByteArray) : Nat → Nat → Nat → Nat
  | 0, i, _ => i
  | f + 1, i, j => if i < j then (if cmpN ((i + j) / 2) s < 0 then bsF s f ((i + j) / 2 + 1) j else bsF s f i ((i + j) / 2)) else i
def charref_search.f (s : ByteArray) : Option (Int × Bool) := some ((bsF s 59 0 59 : Nat), decide (bsF s 59 0 59 < 59) && decide (cmpN (bsF s 59 0 59) s = 0))
theorem search_w (s : ByteArray) (w : World) (hT : Tabs w) : Calls Tryd.prog 21 #[.slice (some ⟨0, 0, none⟩) 59 59, .string s, .func (.func 22) #[] #[]] w fun e w' => e = .returned (.tuple #[.int .i64 (bsF s 59 0 59 : Nat), .bool (decide (bsF s 59 0 59 < 59) && decide (cmpN (bsF s 59 0 59) s = 0))]) ∧ Below w.heap.size w w' := by
  obtain ⟨R, hR⟩ : ∃ R, bsF s 59 0 59 = R := ⟨_, rfl⟩
  rw [hR]
  have HR := Aside0.mk hR
  have HT := Aside0.mk hT
  clear hR hT
  go_enter Tryd.func21, Tryd.ntmps21
  go_wp2
  go_loopw [9, 10] (fun v9 v10 wr => ∃ i j f : Nat, v9 = .int .i64 (i : Int) ∧ v10 = .int .i64 (j : Int) ∧ i ≤ j ∧ j ≤ 59 ∧ Aside0 (bsF s f i j = R ∧ j - i ≤ f ∧ Below w.heap.size w wr)) (fun v9 v10 _ => (intOf v10).toNat - (intOf v9).toNat)
  case atStart => exact ⟨0, 59, 59, rfl, rfl, by omega, by omega, ⟨HR.out, by omega, Below.refl _ _⟩⟩
  case round =>
    obtain ⟨i, j, f, rfl, rfl, hij, hj, HF⟩ := hrel
    by_cases hlt : i < j
    · have d1 : decide ((i : Int) < (j : Int)) = true := decide_eq_true (by omega)
      have d2 : decide (i < j) = true := decide_eq_true hlt
      go_upto_region 5 with (fail)
      obtain ⟨h, hh⟩ : ∃ h : Nat, ((i : Int) + (j : Int)) / 2 = (h : Int) := ⟨(i + j) / 2, by omega⟩
      have hn : (i + j) / 2 = h := by omega
      rw [hh]
      have hb : i ≤ 59 := by omega
      have hhb : h ≤ 58 := by omega
      have p0 : (0 ≤ (h : Int)) = True := eq_true (by omega)
      have p1 : ((h : Int) < 59) = True := eq_true (by omega)
      have p2 : (h < 59) = True := eq_true (by omega)
      have hTb := HT.out.below HF.out.2.2
      have c0 := hTb.nm0 h (by omega)
      have c1 := hTb.nm1 h (by omega)
      have c2 := hTb.nm2 h (by omega)
      clear hTb
      have HI := Aside0.mk (And.intro hlt (And.intro hn hj))
      clear hij hj hlt hh hn
      by_cases q : cmpN h s < 0
      · have dq : decide (Lib.compareBytes (nmAt h).1.data.toList s.data.toList < 0) = true := decide_eq_true q
        have hR2 : Aside0 (∃ f', bsF s f' (h + 1) j = R ∧ j - (h + 1) ≤ f') := ⟨by
          cases f with
          | zero => have := HF.out; have := HI.out; omega
          | succ f =>
            refine ⟨f, ?_, by have := HF.out; have := HI.out; omega⟩
            rw [← HF.out.1]
            show _ = if i < j then (if cmpN ((i + j) / 2) s < 0 then bsF s f ((i + j) / 2 + 1) j else bsF s f i ((i + j) / 2)) else i
            rw [if_pos HI.out.1, HI.out.2.1, if_pos q]⟩
        clear q
        go_wp2_with (go_at_call 22; refine (closure_c _ s _ _ _).mono ?_; rintro e w1 ⟨rfl, hw⟩; have HW := Aside0.mk hw; clear hw)
        go_roundw
        case measure => have := HI.out; simp [intOf]; omega
        case rel =>
          obtain ⟨f', g1, g2⟩ := hR2.out
          exact ⟨h + 1, j, f', (by first | rfl | go_num), rfl, by have := HI.out; omega, by have := HI.out; omega, ⟨g1, g2, below_step HF.out.2.2 HW.out⟩⟩
      · have dq : decide (Lib.compareBytes (nmAt h).1.data.toList s.data.toList < 0) = false := decide_eq_false q
        have hR2 : Aside0 (∃ f', bsF s f' i h = R ∧ h - i ≤ f') := ⟨by
          cases f with
          | zero => have := HF.out; have := HI.out; omega
          | succ f =>
            refine ⟨f, ?_, by have := HF.out; have := HI.out; omega⟩
            rw [← HF.out.1]
            show _ = if i < j then (if cmpN ((i + j) / 2) s < 0 then bsF s f ((i + j) / 2 + 1) j else bsF s f i ((i + j) / 2)) else i
            rw [if_pos HI.out.1, HI.out.2.1, if_neg q]⟩
        clear q
        go_wp2_with (go_at_call 22; refine (closure_c _ s _ _ _).mono ?_; rintro e w1 ⟨rfl, hw⟩; have HW := Aside0.mk hw; clear hw)
        go_roundw
        case measure => have := HI.out; simp [intOf]; omega
        case rel =>
          obtain ⟨f', g1, g2⟩ := hR2.out
          exact ⟨i, h, f', rfl, rfl, by have := HI.out; omega, by have := HI.out; omega, ⟨g1, g2, below_step HF.out.2.2 HW.out⟩⟩
    · have d1 : decide ((i : Int) < (j : Int)) = false := decide_eq_false (by omega)
      have d2 : decide (i < j) = false := decide_eq_false hlt
      have hi : i = R := by
        rw [← HF.out.1]
        cases f with
        | zero => rfl
        | succ f => exact (if_neg hlt).symm
      subst hi
      go_upto_region 8 with (fail)
      by_cases q1 : i < 59
      · have e1 : decide ((i : Int) < 59) = true := decide_eq_true (by omega)
        have e2 : decide (i < 59) = true := decide_eq_true q1
        have p0 : (0 ≤ (i : Int)) = True := eq_true (by omega)
        have p1 : ((i : Int) < 59) = True := eq_true (by omega)
        have p2 : (i < 59) = True := eq_true q1
        have hTb := HT.out.below HF.out.2.2
        have c0 := hTb.nm0 i q1
        have c1 := hTb.nm1 i q1
        have c2 := hTb.nm2 i q1
        have ee : (Lib.compareBytes (nmAt i).1.data.toList s.data.toList == 0) = decide (cmpN i s = 0) := by
          unfold cmpN
          by_cases z : Lib.compareBytes (nmAt i).1.data.toList s.data.toList = 0 <;> simp [z]
        clear hTb hlt hij hj q1
        go_wp2_with (go_at_call 22; refine (closure_c _ s _ _ _).mono ?_; rintro e w1 ⟨rfl, hw⟩; have HW := Aside0.mk hw; clear hw)
        go_ret2
        refine ⟨?_, below_step HF.out.2.2 HW.out⟩
        rw [← ee]
        simp
        exact fun _ => of_decide_eq_true e2
      · have e1 : decide ((i : Int) < 59) = false := decide_eq_false (by omega)
        have e2 : decide (i < 59) = false := decide_eq_false q1
        clear hlt hij hj q1
        go_wp2
        go_ret2
        refine ⟨?_, HF.out.2.2⟩
        simp
        exact fun z => absurd z (of_decide_eq_false e2)
theorem charref_search.calls (a0 : ByteArray) (r1 : Int) (r2 : Bool) (w : World) (h : charref_search.f a0 = some (r1, r2)) (hT : Tabs w) : Calls Tryd.prog 21 #[.slice (some ⟨0, 0, none⟩) 59 59, .string a0, .func (.func 22) #[] #[]] w fun e w' => e = .returned (.tuple #[.int .i64 r1, .bool r2]) ∧ Below w.heap.size w w' := by
  unfold charref_search.f at h
  injection h with h
  injection h with h1 h2
  subst h1 h2
  exact search_w a0 w hT
end Go.Proofs.YtaohghcmlohngaaDoor.X
