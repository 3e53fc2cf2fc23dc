import Derived.Test.YtiogpnefnapfeaaDoorT9
/-! pairs.Resolve: what its closure become tells. -/
namespace Go.Proofs.YtiogpnefnapfeaaDoor.X
open Go.RowKit Go.Proofs.YtiogpnefnapfeaaDoorW.PrintWords Go.Proofs.YtiogpnefnapfeaaDoorW.PrintLast Go.Proofs.YtiogpnefnapfeaaDoorW.PrintMore Go.Proofs.YtiogpnefnapfeaaDoor.Pure
set_option linter.unusedVariables false
set_option linter.unusedSimpArgs false
set_option maxRecDepth 100000
set_option maxHeartbeats 8000000
theorem hasF_snoc (l : List Int) (i : Nat) (hi : i < l.length) (s : Int) : hasF (l.take (i + 1)) s = (hasF (l.take i) s || sideF (l.getD i 0) == s) := by
  unfold hasF
  rw [List.take_add_one, List.any_append, List.getElem?_eq_getElem hi, List.getD_eq_getElem?_getD, List.getElem?_eq_getElem hi]
  simp
theorem become_w {w wr : World} {X : Bx} {out : List Int} (h : RR w X out wr) (hl : out.length ≤ 65536) (x y : Nat) (hxy : x < y) (hy : y < out.length) (hm : X.mine ≠ 0) (ho : X.other ≠ 0) :
    Calls Tryd.prog 23 #[.agg #[.int .i64 (x : Int), .int .i64 (y : Int)], .pointer (some ⟨X.g12, 0, none⟩), .pointer (some ⟨X.g13, 0, none⟩), .pointer (some ⟨X.g14, 0, none⟩), .pointer (some ⟨X.g9, 0, none⟩)] wr fun e w' => e = .returned (.int .u8 (becF out X.mine X.other X.sos ((x : Int), (y : Int)))) ∧ Below wr.heap.size wr w' := by
  obtain ⟨w1, hw1⟩ : ∃ w1, wr.alloc (.cells #[.int .i64 (x : Int), .int .i64 (y : Int)] 30) = w1 := ⟨_, rfl⟩
  have hb1 : Below wr.heap.size wr w1 := by rw [← hw1]; exact below_alloc (Below.refl _ _) _
  have hbx : w1.heap[wr.heap.size]? = some (.cells #[.int .i64 (x : Int), .int .i64 (y : Int)] 30 (0, 0)) := by rw [← hw1]; exact heap_alloc_new wr _
  have h1 := h.step hb1
  obtain ⟨g, cap, hv, hgb, hcap⟩ := h1.form (by omega)
  have hR := h1.ou
  rw [hv] at hR
  have hC := (Kd.R_reads' hR).2.2
  obtain ⟨i033, hi033, _, hsz33, _⟩ := info_parts info33
  have hcut := cut_mid (P := Tryd.prog) 23 33 .i64 .i64 Tryd.underlying23 hi033 1 hsz33 (some ⟨g, 0, none⟩) out.length cap ((x + 1 : Nat) : Int) (y : Int) (by omega) (by omega) (by omega) hcap
  have hCm := Kd.C_mid (lo := x + 1) (hi := y) (c := cap) hC (by omega) (by omega) hcap
  rw [Int.toNat_natCast, Int.toNat_natCast] at hcut
  obtain ⟨As, hAs⟩ : ∃ A, A = (if cap = x + 1 then some (⟨g, 0, none⟩ : Addr) else (some (⟨g, 0, none⟩ : Addr)).map (·.add ((x + 1) * 1))) := ⟨_, rfl⟩
  obtain ⟨md, hmd⟩ : ∃ l, (out.take y).drop (x + 1) = l := ⟨_, rfl⟩
  have hml : md.length = y - (x + 1) := by rw [← hmd, List.length_drop, List.length_take]; omega
  rw [hmd] at hCm
  replace hCm : Kd.C (Kd.int .u8) w1 As md.length md := by rw [hAs]; exact hCm
  rw [← hAs, ← hml, show ((x + 1 : Nat) : Int) = (x : Int) + 1 by omega] at hcut
  have z12 := (blk_cell h1.b12 0).trans rfl
  rw [hv] at z12
  have z13 := (blk_cell h1.b13 0).trans rfl
  have z14 := (blk_cell h1.b14 0).trans rfl
  have z9 := (blk_cell h1.b9 0).trans rfl
  have zx : w1.cell? ⟨wr.heap.size, 0, none⟩ = some (.int .i64 (x : Int)) := (blk_cell hbx 0).trans rfl
  have zy : w1.cell? ⟨wr.heap.size, 1, none⟩ = some (.int .i64 (y : Int)) := (blk_cell hbx 1).trans rfl
  have hxb : x ≤ 65535 := by omega
  have HB := Aside0.mk hb1
  have HR1 := Aside0.mk h1
  have HV := Aside0.mk hv
  have HL := Aside0.mk (And.intro hl (And.intro hxy hy))
  have HM := Aside0.mk (And.intro hml hmd)
  have HCm := Aside0.mk hCm
  have hmlen : md.length ≤ 65536 := by omega
  have hbec : becF out X.mine X.other X.sos ((x : Int), (y : Int)) = if hasF md X.mine = true then X.mine else if hasF md X.other = true then lookF out X.sos x else 0 := by
    unfold becF midF
    dsimp only
    rw [Int.toNat_natCast, Int.toNat_natCast, hmd]
  have HBE := Aside0.mk hbec
  have HMO := Aside0.mk (And.intro hm ho)
  obtain ⟨gb, hgbx⟩ : ∃ k, wr.heap.size = k := ⟨_, rfl⟩
  rw [hgbx] at zx zy
  have HGX := Aside0.mk hgbx
  clear h h1 hb1 hbx hgb hcap hR hC hCm hi033 hsz33 hv hl hxy hy hml hmd hAs hbec hm ho
  go_enter Tryd.func23, Tryd.ntmps23
  go_upto_region 1 with (fail)
  clear hw1 hgbx
  go_wp2
  clear hcut z12 zy
  go_loopw [7, 21] (fun v7 v21 w2 => ∃ (i : Nat) (f : Int), i ≤ md.length ∧ v21 = .int .i64 (i : Int) ∧ v7 = .int .u8 f ∧ Aside0 (hasF (md.take i) X.mine = false ∧ f = if hasF (md.take i) X.other = true then X.other else 0) ∧ w2 = w1) (fun _ v21 _ => md.length - (intOf v21).toNat)
  case atStart => exact ⟨0, 0, Nat.zero_le _, rfl, rfl, ⟨rfl, rfl⟩, rfl⟩
  case round =>
    obtain ⟨i, fo, hi, rfl, rfl, HF, rfl⟩ := hrel
    by_cases hlt : i < md.length
    · have dl : decide ((i : Int) < (md.length : Int)) = true := decide_eq_true (by omega)
      have p0 : (0 ≤ (i : Int)) = True := eq_true (by omega)
      have p1 : ((i : Int) < (md.length : Int)) = True := eq_true (by omega)
      have p2 : (i < md.length) = True := eq_true hlt
      have hib : i ≤ 65535 := by omega
      obtain ⟨al, el, hxl⟩ := Kd.at_int HCm.out (i : Int) (by omega) (by omega)
      obtain ⟨c, hc⟩ : ∃ c, md.getD i 0 = c := ⟨_, rfl⟩
      rw [show rd md (i : Int) = c from hc, Int.toNat_natCast] at hxl
      have s1 := hasF_snoc md i hlt X.mine
      have s2 := hasF_snoc md i hlt X.other
      rw [hc] at s1 s2
      obtain ⟨sc, hsc⟩ : ∃ sc, sideF c = sc := ⟨_, rfl⟩
      rw [hsc, HF.out.1, Bool.false_or] at s1
      rw [hsc] at s2
      have HS := Aside0.mk (And.intro s1 s2)
      have HC2 := Aside0.mk hc
      have HI := Aside0.mk (And.intro hi hlt)
      subst el
      clear s1 s2 hc hi hlt
      by_cases q : sc = X.mine
      · have e1 : (sc == X.mine) = true := beq_iff_eq.mpr q
        have HQ := Aside0.mk q
        clear q
        go_wp2_with (go_at_call 24; refine (side_w _ _).mono ?_; rintro e w2 ⟨rfl, hw⟩; obtain rfl := hw.symm; rw [hsc])
        go_ret
        refine ⟨?_, HB.out⟩
        have hh : hasF md X.mine = true := by
          unfold hasF
          rw [List.any_eq_true]
          have := HI.out.2
          refine ⟨md.getD i 0, getD_mem 0 this, ?_⟩
          rw [HC2.out, hsc]
          exact beq_iff_eq.mpr HQ.out
        rw [HBE.out, if_pos hh]
        rfl
      · have e1 : (sc == X.mine) = false := beq_eq_false_iff_ne.mpr q
        have HQ := Aside0.mk q
        clear q
        by_cases q2 : sc = X.other
        · have e2 : (sc == X.other) = true := beq_iff_eq.mpr q2
          have HQ2 := Aside0.mk q2
          clear q2
          go_wp2_with (go_at_call 24; refine (side_w _ _).mono ?_; rintro e w2 ⟨rfl, hw⟩; obtain rfl := hw.symm; rw [hsc])
          go_roundw
          case measure => have := HI.out; (try simp [intOf]); (try omega)
          case rel => exact ⟨i + 1, X.other, by have := HI.out; omega, (by first | rfl | go_num), (by first | rfl | (rw [HQ2.out]; rfl) | rfl), ⟨by rw [HS.out.1]; exact beq_eq_false_iff_ne.mpr HQ.out, by rw [HS.out.2, beq_iff_eq.mpr HQ2.out, Bool.or_true]; rfl⟩, (by first | rfl | trivial)⟩
        · have e2 : (sc == X.other) = false := beq_eq_false_iff_ne.mpr q2
          have HQ2 := Aside0.mk q2
          clear q2
          go_wp2_with (go_at_call 24; refine (side_w _ _).mono ?_; rintro e w2 ⟨rfl, hw⟩; obtain rfl := hw.symm; rw [hsc])
          go_roundw
          case measure => have := HI.out; (try simp [intOf]); (try omega)
          case rel => exact ⟨i + 1, fo, by have := HI.out; omega, (by first | rfl | go_num), (by first | rfl | trivial), ⟨by rw [HS.out.1]; exact beq_eq_false_iff_ne.mpr HQ.out, by rw [HS.out.2, beq_eq_false_iff_ne.mpr HQ2.out, Bool.or_false]; exact HF.out.2⟩, (by first | rfl | trivial)⟩
    · have dl : decide ((i : Int) < (md.length : Int)) = false := decide_eq_false (by omega)
      obtain rfl : i = md.length := by omega
      rw [List.take_length] at HF
      clear hlt hi
      cases hho : hasF md X.other with
      | false =>
        have HH := Aside0.mk hho
        clear hho
        obtain rfl : fo = 0 := by rw [HF.out.2, HH.out]; rfl
        go_wp2
        go_ret
        refine ⟨?_, HB.out⟩
        rw [HBE.out, HF.out.1, HH.out]
        rfl
      | true =>
        have HH := Aside0.mk hho
        clear hho
        obtain rfl : fo = X.other := by rw [HF.out.2, HH.out]; rfl
        have e5 : (X.other == 0) = false := beq_eq_false_iff_ne.mpr HMO.out.2
        go_wp2
        have z12 := (blk_cell HR1.out.b12 0).trans rfl
        rw [HV.out] at z12
        go_loopw [11, 12] (fun v11 _ w2 => ∃ k : Nat, k ≤ x ∧ v11 = .int .i64 ((k : Int) - 1) ∧ Aside0 (lookF out X.sos x = lookF out X.sos k) ∧ w2 = wr) (fun v11 _ _ => (intOf v11 + 1).toNat)
        case atStart => exact ⟨x, Nat.le_refl _, (by first | rfl | go_num), ⟨rfl⟩, rfl⟩
        case round =>
          obtain ⟨k, hk, rfl, HK, rfl⟩ := hrel
          cases k with
          | zero =>
            by_cases q : X.sos = 2
            · have e6 : (X.sos == 2) = true := beq_iff_eq.mpr q
              have HQ := Aside0.mk q
              clear q
              go_wp2
              go_ret
              refine ⟨?_, HB.out⟩
              rw [HBE.out, HF.out.1, HH.out, HK.out]
              unfold lookF
              rw [if_pos HQ.out]
              rfl
            · have e6 : (X.sos == 2) = false := beq_eq_false_iff_ne.mpr q
              have HQ := Aside0.mk q
              clear q
              go_wp2
              go_ret
              refine ⟨?_, HB.out⟩
              rw [HBE.out, HF.out.1, HH.out, HK.out]
              unfold lookF
              rw [if_neg HQ.out]
              rfl
          | succ k =>
            have ek : ((k + 1 : Nat) : Int) - 1 = (k : Int) := by omega
            rw [ek]
            have dk : decide (0 ≤ (k : Int)) = true := decide_eq_true (by omega)
            have p0 : (0 ≤ (k : Int)) = True := eq_true (by omega)
            have p1 : ((k : Int) < (out.length : Int)) = True := eq_true (by have := HL.out; omega)
            have p2 : (k < out.length) = True := eq_true (by have := HL.out; omega)
            have hkb : k ≤ 65535 := by omega
            obtain ⟨y1, y2⟩ := HR1.out.at HV.out k (by have := HL.out; omega)
            obtain ⟨c, hc⟩ : ∃ c, out.getD k 0 = c := ⟨_, rfl⟩
            rw [hc] at y1
            obtain ⟨sc, hsc⟩ : ∃ sc, sideF c = sc := ⟨_, rfl⟩
            have hlk : lookF out X.sos (k + 1) = if sc ≠ 0 then sc else lookF out X.sos k := by
              show (if sideF (out.getD k 0) ≠ 0 then sideF (out.getD k 0) else lookF out X.sos k) = _
              rw [hc, hsc]
            have HLK := Aside0.mk hlk
            clear hlk hc
            by_cases q : sc = 0
            · subst q
              go_wp2_with (go_at_call 24; refine (side_w _ _).mono ?_; rintro e w2 ⟨rfl, hw⟩; obtain rfl := hw.symm; rw [hsc])
              go_roundw
              case measure => (try simp [intOf]); (try omega)
              case rel => exact ⟨k, by omega, (by first | rfl | go_num), ⟨by rw [HK.out, HLK.out]; simp⟩, (by first | rfl | trivial)⟩
            · have e6 : (sc != 0) = true := bne_iff_ne.mpr q
              have HQ := Aside0.mk q
              clear q
              go_wp2_with (go_at_call 24; refine (side_w _ _).mono ?_; rintro e w2 ⟨rfl, hw⟩; obtain rfl := hw.symm; rw [hsc])
              go_ret
              refine ⟨?_, HB.out⟩
              rw [HBE.out, HF.out.1, HH.out, HK.out, HLK.out, if_pos HQ.out]
              rfl
end Go.Proofs.YtiogpnefnapfeaaDoor.X
