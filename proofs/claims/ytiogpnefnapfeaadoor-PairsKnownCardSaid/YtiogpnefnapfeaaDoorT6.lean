import Derived.Test.YtiogpnefnapfeaaDoorT1
/-! props.Bracket: its walk. -/
namespace Go.Proofs.YtiogpnefnapfeaaDoor.X
open Go.RowKit Go.Proofs.YtiogpnefnapfeaaDoorW.PrintWords Go.Proofs.YtiogpnefnapfeaaDoorW.PrintLast Go.Proofs.YtiogpnefnapfeaaDoorW.PrintMore Go.Proofs.YtiogpnefnapfeaaDoor.Pure
set_option linter.unusedVariables false
set_option linter.unusedSimpArgs false
set_option maxRecDepth 100000
set_option maxHeartbeats 4000000
theorem bracket_w (r : Int) (w : World) (hT : Tabs w) : Calls Tryd.prog 18 #[.int .i32 r] w fun e w' => e = .returned (.tuple #[.int .i32 (brk r).1, .bool (brk r).2.1, .bool (brk r).2.2]) ∧ Below w.heap.size w w' := by
  have hl := op_bt hT
  have HT := Aside0.mk hT
  have hix := bt_ix
  obtain ⟨cs, hcs⟩ : ∃ cs, btT.toArray = cs := ⟨_, rfl⟩
  simp only [hcs] at hl
  simp only [hcs] at hix
  have HIX := Aside0.mk hix
  clear hix hT hcs
  obtain ⟨R, hR⟩ : ∃ R, brk r = R := ⟨_, rfl⟩
  rw [hR]
  have HR := Aside0.mk (show brkIn r (BT.drop 0) = R from hR)
  clear hR
  go_enter Tryd.func18, Tryd.ntmps18
  go_wp2_with (first | ((with_reducible refine gate_dst (N := 7) rfl ?_); refine Kd.event_run rfl (hl _ _ _ _) ?_))
  clear hl
  go_loopw [8] (fun v8 wr => ∃ j : Nat, j ≤ 23 ∧ v8 = .int .i64 (j : Int) ∧ Aside0 (brkIn r (BT.drop j) = R ∧ Below w.heap.size w wr)) (fun v8 _ => 23 - (intOf v8).toNat)
  case atStart => exact ⟨0, by omega, rfl, ⟨HR.out, Below.refl _ _⟩⟩
  case round =>
    clear HR
    obtain ⟨j, hj, rfl, HJ⟩ := hrel
    by_cases hlt : j < 23
    · have dl : decide ((j : Int) < 23) = true := decide_eq_true (by omega)
      have hix := HIX.out j hlt wr
      obtain ⟨a, b, hab⟩ : ∃ a b, btAt j = (a, b) := ⟨_, _, rfl⟩
      have HD := Aside0.mk (drop_bt j hlt)
      rw [hab] at HD hix
      dsimp only at hix
      have HQ := Aside0.mk HJ.out.1
      have HB := Aside0.mk (below_alloc HJ.out.2 (.cells #[.int .i32 a, .int .i32 b] 67))
      rw [HD.out] at HQ
      simp only [brkIn] at HQ
      clear HJ hj hab
      by_cases q1 : r = a
      · subst q1
        have e1 : (r != r) = false := by simp
        have e2 : (r == r) = true := by simp
        by_cases q3 : b = 9002
        · subst q3
          go_wp2
          repeat (go_quiet (fail); try go_wp2)
          go_ret3
          refine ⟨?_, mvB HB⟩
          have hq := HQ.out
          rw [if_neg (by rintro ⟨z, _⟩; exact z rfl)] at hq; simp only [if_true, beq_self_eq_true] at hq
          subst hq
          rfl
        · have e3 : (b == 9002) = false := beq_eq_false_iff_ne.mpr q3
          have HE := Aside0.mk q3
          clear q3
          go_wp2
          repeat (go_quiet (fail); try go_wp2)
          go_ret3
          refine ⟨?_, mvB HB⟩
          have hq := HQ.out
          rw [if_neg (by rintro ⟨z, _⟩; exact z rfl), if_neg HE.out, beq_self_eq_true] at hq
          subst hq
          rfl
      · have e1 : (r != a) = true := bne_iff_ne.mpr q1
        have e2 : (r == a) = false := beq_eq_false_iff_ne.mpr q1
        have HE1 := Aside0.mk q1
        clear q1
        by_cases q2 : r = b
        · subst q2
          have e5 : (r != r) = false := by simp
          have e6 : (r == r) = true := by simp
          by_cases q3 : r = 9002
          · subst q3
            go_wp2
            repeat (go_quiet (fail); try go_wp2)
            go_ret3
            refine ⟨?_, mvB HB⟩
            have hq := HQ.out
            rw [if_neg (by rintro ⟨_, z⟩; exact z rfl)] at hq; simp only [if_true, beq_eq_false_iff_ne.mpr HE1.out] at hq
            subst hq
            rfl
          · have e3 : (r == 9002) = false := beq_eq_false_iff_ne.mpr q3
            have HE := Aside0.mk q3
            clear q3
            go_wp2
            repeat (go_quiet (fail); try go_wp2)
            go_ret3
            refine ⟨?_, mvB HB⟩
            have hq := HQ.out
            rw [if_neg (by rintro ⟨_, z⟩; exact z rfl), if_neg HE.out, beq_eq_false_iff_ne.mpr HE1.out] at hq
            subst hq
            rfl
        · have e5 : (r != b) = true := bne_iff_ne.mpr q2
          have HE2 := Aside0.mk q2
          clear q2
          go_wp2
          go_roundw
          case measure => simp [intOf]; omega
          case rel =>
            refine ⟨j + 1, by omega, (by first | rfl | go_num), ⟨?_, HB.out⟩⟩
            rw [← HQ.out, if_pos ⟨HE1.out, HE2.out⟩]
    · have dl : decide ((j : Int) < 23) = false := decide_eq_false (by omega)
      obtain rfl : j = 23 := by omega
      have HQ := Aside0.mk HJ.out.1
      have HB := Aside0.mk HJ.out.2
      clear HJ hj hlt
      go_wp2
      repeat (go_quiet (fail); try go_wp2)
      go_ret3
      refine ⟨?_, mvB HB⟩
      have hq := HQ.out
      subst hq
      rfl
end Go.Proofs.YtiogpnefnapfeaaDoor.X
