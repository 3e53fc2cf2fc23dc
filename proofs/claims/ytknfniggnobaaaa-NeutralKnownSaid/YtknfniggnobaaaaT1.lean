import Derived.Test.YtknfniggnobaaaaX6
import Derived.Deep.QuietTactic
import Derived.Deep.Cut
import Derived.IntWalk
namespace Go.Proofs.Ytknfniggnobaaaa.X
open Go.RowKit Go.Proofs.YtknfniggnobaaaaW.PrintWords Go.Proofs.YtknfniggnobaaaaW.PrintLast Go.Proofs.YtknfniggnobaaaaW.PrintMore
attribute [local go_sem] max2_int min2_int max_two min_two max_three min_three max_four min_four   -- for this text's walks alone
set_option linter.unusedVariables false
set_option linter.unusedSimpArgs false
--BEGIN
/-- One place of NeutralEnds' row: what it asks of it. -/
def neRd (a sd ci ri ni b i : Int) : Bool := decide (ri = 10 ∧ ci = 10 ∨ (ri ≠ 10 ∧ (nIs ci = false → ri = ci) ∧ (ri = 1 ∨ ri = 2 ∨ ri = 4 ∨ ri = 7) ∧ a ≤ ni ∧ ni ≤ (a + 2) % 256 ∧ (Int.tmod ni 2 = 1 ↔ ri = 2) ∧ (nIs ci = true → (ri = 1 ∨ ri = 2) ∧ (ri ≠ sd → i > 0 → b > 0 → (b = 1 ↔ ri = 1)))))
def neNx (ri b : Int) : Int := if ri = 10 then b else if ri = 1 then 1 else 2
/-- m places from place i on. -/
def neOk (a sd : Int) (c r n : List Int) : Nat → Int → Int → Bool
  | 0, _, _ => true
  | m + 1, i, b => neRd a sd (rd c i) (rd r i) (rd n i) b i && neOk a sd c r n m (i + 1) (neNx (rd r i) b)
theorem ref_Neutral_some (c : Int) : selvedgeref18_Neutral.f c = some (nIs c) := by
  unfold selvedgeref18_Neutral.f nIs
  by_cases h1 : 11 ≤ c <;> by_cases h2 : c ≤ 14 <;> by_cases h3 : 20 ≤ c <;> simp [h1, h2, h3] <;> omega
theorem neutral_c (c : Int) (b : Bool) (w : World) (h : nIs c = b) : Calls Try.prog 17 #[.int .u8 c] w fun e w' => e = .returned (.bool b) ∧ Drawn0 w w' := by
  subst h
  exact selvedgeref18_Neutral.calls c (nIs c) w (ref_Neutral_some c)
def selvedgelaw18_NeutralEnds.f (k : Nat) (l0 : List Int) (a1 : Int) (a2 : Int) (a3 : Int) : Option Bool :=
  if (l0.length : Int) > 3000 ∨ a1 > 250 then selvedgelaw18_works.f k else
    (selvedgelaw18_cleared.f k l0).bind fun c => (neutral_Resolve.f c a1 a2 a3).bind fun r => (neutral_Levels.f r a1).bind fun n =>
      if c.length = l0.length ∧ r.length = l0.length ∧ n.length = l0.length ∧ neOk a1 (if Int.tmod a1 2 = 1 then 2 else 1) c r n l0.length 0 0 = true then selvedgelaw18_works.f k else none
theorem selvedgelaw18_NeutralEnds.mono (l0 : List Int) (a1 a2 a3 : Int) (k : Nat) : LeO (selvedgelaw18_NeutralEnds.f k l0 a1 a2 a3) (selvedgelaw18_NeutralEnds.f (k + 1) l0 a1 a2 a3) := by
  unfold selvedgelaw18_NeutralEnds.f
  refine LeO.ite (selvedgelaw18_works.mono k) (LeO.bind (selvedgelaw18_cleared.mono _ k) (fun c => LeO.bind (LeO.refl _) (fun r => LeO.bind (LeO.refl _) (fun n => LeO.ite (selvedgelaw18_works.mono k) (LeO.none _)))))
/-- The operations of a region, by its number. -/
def opsAt (n : Nat) : Code → List Oper
  | .region id ops _ => if id = n then ops.toList else []
  | .seq a b => opsAt n a ++ opsAt n b
  | .cond _ a b => opsAt n a ++ opsAt n b
  | .block _ a => opsAt n a
  | .loop a => opsAt n a
  | .scope a => opsAt n a
  | .rangeFunc _ _ a b => opsAt n a ++ opsAt n b
  | _ => []
theorem drewN_ex1 (w : World) (a : Nat) : ∃ q, w.drewN a = w.drewN q := ⟨_, rfl⟩
theorem drewN_ex2 (w : World) (a b : Nat) : ∃ q, (w.drewN a).drewN b = w.drewN q := ⟨_, World.drewN_drewN _ _ _⟩
theorem drewN_ex3 (w : World) (a b c : Nat) : ∃ q, ((w.drewN a).drewN b).drewN c = w.drewN q := ⟨_, by rw [World.drewN_drewN, World.drewN_drewN]⟩
theorem lex19 : Region.lexB .any (opsAt 19 (Try.f5.body.getD .skip)).toArray = true := by kernel_rfl
set_option maxHeartbeats 8000000 in
set_option maxRecDepth 100000 in
theorem selvedgelaw18_NeutralEnds.calls (k : Nat) (A0 : Option Addr) (c0 : Nat) (l0 : List Int) (a1 : Int) (a2 : Int) (a3 : Int) (r : Bool) (w : World) (hr0 : Kd.C (Kd.int .u8) w A0 l0.length l0) (hc0 : l0.length ≤ c0) (h : selvedgelaw18_NeutralEnds.f k l0 a1 a2 a3 = some r) :
    Calls Try.prog 5 #[.slice A0 l0.length c0, .int .u8 a1, .int .u8 a2, .int .u8 a3] w fun e w' => e = .returned (.bool r) ∧ Below w.heap.size w w' := by
  have HR0 := Aside0.mk hr0
  have HC0 := Aside0.mk hc0
  clear hr0 hc0
  unfold selvedgelaw18_NeutralEnds.f at h
  by_cases h1 : (l0.length : Int) > 3000 ∨ a1 > 250
  · rw [if_pos h1] at h
    have WK := fun W => selvedgelaw18_works.calls k r W h
    clear h
    by_cases h2 : (l0.length : Int) > 3000
    · have b1 : decide (3000 < (l0.length : Int)) = true := decide_eq_true h2
      clear h1 h2
      go_enter Try.func5, Try.ntmps5
      go_wp2_with (go_at_call 9; (with_reducible refine (WK _).mono ?_); rintro e w' ⟨rfl, hB⟩)
      go_ret
      exact ⟨rfl, hB⟩
    · have b1 : decide (3000 < (l0.length : Int)) = false := decide_eq_false h2
      have b2 : decide (250 < a1) = true := decide_eq_true (by omega)
      clear h1 h2
      go_enter Try.func5, Try.ntmps5
      go_wp2_with (go_at_call 9; (with_reducible refine (WK _).mono ?_); rintro e w' ⟨rfl, hB⟩)
      go_ret
      exact ⟨rfl, hB⟩
  rw [if_neg h1] at h
  have b1 : decide (3000 < (l0.length : Int)) = false := decide_eq_false (by omega)
  have b2 : decide (250 < a1) = false := decide_eq_false (by omega)
  have HLM := Aside0.mk (show (l0.length : Int) ≤ 3000 by omega)
  clear h1
  obtain ⟨c, hc, h⟩ := Option.bind_eq_some_iff.mp h
  obtain ⟨rs, hrs, h⟩ := Option.bind_eq_some_iff.mp h
  obtain ⟨ns, hns, h⟩ := Option.bind_eq_some_iff.mp h
  obtain ⟨sd, hsd⟩ : ∃ sd : Int, sd = if Int.tmod a1 2 = 1 then 2 else 1 := ⟨_, rfl⟩
  rw [← hsd] at h
  split at h
  case isFalse => cases h
  rename_i hq
  obtain ⟨hq1, hq2, hq3, hq4⟩ := hq
  have WK := fun W => selvedgelaw18_works.calls k r W h
  clear h
  have CL := selvedgelaw18_cleared.calls k A0 c0 l0 c w HR0.out HC0.out hc
  have HRS := Aside0.mk hrs
  have HNS := Aside0.mk hns
  have HSD := Aside0.mk hsd
  have HQ := Aside0.mk hq4
  have bL : ((rs.length : Int) != (l0.length : Int)) = false := bne_eq_false_iff_eq.mpr (by omega)
  have bN : ((ns.length : Int) != (l0.length : Int)) = false := bne_eq_false_iff_eq.mpr (by omega)
  have HL := Aside0.mk (And.intro hq1 (And.intro hq2 hq3))
  clear hc hrs hns hsd hq1 hq2 hq3 hq4
  go_enter Try.func5, Try.ntmps5
  go_upto_if 48 with (first
    | (go_at_call 16; (with_reducible refine CL.mono ?_); rintro e w1 ⟨v1, rfl, hO1, hB1⟩; obtain ⟨Ac, cc, e1_, hc1, hC1⟩ := Kd.R_reads hO1; subst e1_; have HC1 := Aside0.mk hC1; have HK1 := Aside0.mk hc1; have HB1 := Aside0.mk hB1; clear hO1 hB1 hC1 hc1)
    | (go_at_call 12; (with_reducible refine (neutral_Resolve.calls Ac cc c a1 a2 a3 rs _ HC1.out HK1.out HRS.out).mono ?_); rintro e w2 ⟨v2, rfl, hO2, hB2⟩; obtain ⟨Ar, cr, e2_, hc2, hC2⟩ := Kd.R_reads hO2; subst e2_; have HC2 := Aside0.mk hC2; have HK2 := Aside0.mk hc2; have HB2 := Aside0.mk hB2; clear hO2 hB2 hC2 hc2)
    | (go_at_call 14; (with_reducible refine (neutral_Levels.calls Ar cr rs a1 ns _ HC2.out HK2.out HNS.out).mono ?_); rintro e w3 ⟨v3, rfl, hO3, hB3⟩; obtain ⟨An, cn, e3_, hc3, hC3⟩ := Kd.R_reads hO3; subst e3_; have HC3 := Aside0.mk hC3; have HK3 := Aside0.mk hc3; have HB3 := Aside0.mk hB3; clear hO3 hB3 hC3 hc3))
  go_cut [13] from 46 (fun v13 wx => v13 = .int .u8 sd ∧ w3 = wx)
  case first =>
    by_cases hs2 : Int.tmod a1 2 = 1
    · have b3 : (Int.tmod a1 2 == 1) = true := beq_iff_eq.mpr hs2
      go_wp2
      go_meet
      case rel => exact ⟨by rw [HSD.out, if_pos hs2], rfl⟩
    · have b3 : (Int.tmod a1 2 == 1) = false := beq_eq_false_iff_ne.mpr hs2
      go_wp2
      go_meet
      case rel => exact ⟨by rw [HSD.out, if_neg hs2], rfl⟩
  obtain ⟨rfl, rfl⟩ := hcut
  have hx2 := Kd.C_below HC2.out HB3.out
  have hx1 := Kd.C_below (Kd.C_below HC1.out HB2.out) HB3.out
  have HX1 := Aside0.mk hx1
  have HX2 := Aside0.mk hx2
  clear hx1 hx2 HC1 HC2
  have HB := Aside0.mk (below_step (below_step (below_step (Below.refl w.heap.size w) HB1.out) HB2.out) HB3.out)
  clear HB1 HB2 HB3 HSD HR0 HC0 HK1 HK2 HK3 CL HRS HNS
  go_wp2
  go_loopw [12, 14] (fun v12 v14 wr => ∃ i b : Int, 0 ≤ i ∧ i ≤ (rs.length : Int) ∧ 0 ≤ b ∧ b ≤ 2 ∧ v12 = .int .i64 b ∧ v14 = .int .i64 i ∧ Aside0 (neOk a1 sd c rs ns (l0.length - i.toNat) i b = true) ∧ ∃ q, wr = w3.drewN q) (fun v12 v14 _ => rs.length - (intOf v14).toNat)
  case atStart => exact ⟨0, 0, by omega, by omega, by omega, by omega, rfl, rfl, HQ, 0, rfl⟩
  case round =>
    clear HQ
    obtain ⟨i, b, hi0, hi1, hb0, hb1, rfl, rfl, HF, q, rfl⟩ := hrel
    by_cases hlt : i < (rs.length : Int)
    · have bl : decide (i < (rs.length : Int)) = true := decide_eq_true hlt
      have hf := HF.out
      have e1 := HL.out
      have e2 := HLM.out
      obtain ⟨m, hm⟩ : ∃ m, l0.length - i.toNat = m + 1 := ⟨l0.length - i.toNat - 1, by omega⟩
      rw [hm, neOk, Bool.and_eq_true] at hf
      obtain ⟨hf1, hf2⟩ := hf
      rw [show m = l0.length - (i + 1).toNat by omega] at hf2
      have HF2 := Aside0.mk hf2
      clear hf2 HF hm
      have hw64 : i + 1 ≤ 9223372036854775807 := by omega
      obtain ⟨ad1, ea1, x1⟩ := Kd.at_int HX1.out i hi0 (by omega)
      obtain ⟨ad2, ea2, x2⟩ := Kd.at_int HX2.out i hi0 (by omega)
      obtain ⟨ad3, ea3, x3⟩ := Kd.at_int HC3.out i hi0 (by omega)
      subst ea1
      subst ea2
      subst ea3
      have hcl : i < (c.length : Int) := by omega
      have hnl : i < (ns.length : Int) := by omega
      obtain ⟨ci, hci⟩ : ∃ ci, rd c i = ci := ⟨_, rfl⟩
      obtain ⟨ri, hri⟩ : ∃ ri, rd rs i = ri := ⟨_, rfl⟩
      obtain ⟨ni, hni⟩ : ∃ ni, rd ns i = ni := ⟨_, rfl⟩
      rw [hci, hri, hni] at hf1
      rw [hri] at HF2
      rw [hci] at x1
      rw [hri] at x2
      rw [hni] at x3
      clear hci hri hni e1 e2
      have hf := of_decide_eq_true hf1
      clear hf1
      have NEU : ∀ v, nIs ci = v → ∀ a, Calls Try.prog 17 #[.int .u8 ci] (w3.drewN (q + a)) fun e w' => e = .returned (.bool v) ∧ ∃ m, w' = w3.drewN (q + m) := fun v hv a => by
        refine (neutral_c ci v _ hv).mono ?_
        rintro e w' ⟨h1, m, h2⟩
        exact ⟨h1, a + m, by rw [h2, World.drewN_drewN, Nat.add_assoc]⟩
      by_cases h10 : ri = 10
      · have c10 : ci = 10 := by
          rcases hf with h | h
          · exact h.2
          · exact absurd h10 h.1
        have B2 : (ri == 2) = false := by rw [h10]; rfl
        have B10 : (ri == 10) = true := by rw [h10]; rfl
        have C10 : (ci != 10) = false := by rw [c10]; rfl
        have HN := Aside0.mk (show neNx ri b = b by unfold neNx; rw [if_pos h10])
        clear hf NEU h10 c10 x3
        go_wp2
        go_roundw
        case rel => exact ⟨i + 1, b, by omega, by omega, hb0, hb1, rfl, by go_num, ⟨by have q := HF2.out; rw [HN.out] at q; exact q⟩, by first | exact drewN_ex1 _ _ | exact drewN_ex2 _ _ _ | exact drewN_ex3 _ _ _ _⟩
        case measure => simp [intOf]; omega
      · obtain ⟨_, g1, g2, g4, g5, g6, g7⟩ := hf.resolve_left (fun h => h10 h.1)
        have L1 : decide (ni < a1) = false := decide_eq_false (by omega)
        have L2 : decide ((a1 + 2) % 256 < ni) = false := decide_eq_false (by omega)
        clear hf g4 g5
        by_cases hnu : nIs ci = true
        · have g2 := (g7 hnu).1
          rcases g2 with hr | hr
          · by_cases hsd : ri = sd
            · as_aux_lemma =>
              have B1 : (ri == 1) = true := by rw [hr]; rfl
              have B2 : (ri == 2) = false := by rw [hr]; rfl
              have N1 : (ri != 1) = false := by rw [hr]; rfl
              have N4 : (ri != 4) = true := by rw [hr]; rfl
              have N7 : (ri != 7) = true := by rw [hr]; rfl
              have B10 : (ri == 10) = false := by rw [hr]; rfl
              have LT : (Int.tmod ni 2 == 1) = false := beq_eq_false_iff_ne.mpr (fun e => by have := g6.1 e; omega)
              have HN := Aside0.mk (show neNx ri b = 1 by unfold neNx; rw [hr]; simp)
              have NEU := NEU true hnu
              have NEP := fun W => neutral_c ci true W hnu
              have RS : (ri != sd) = false := bne_eq_false_iff_eq.mpr hsd
              clear hnu g1 g6 g7 hr hsd h10
              go_upto_region 19 with (fail)
              simp only [List.append]
              refine wp_region_quiet_lit (by kernel_rfl) ?lex ?_
              case lex =>
                refine Eq.trans (congrArg (fun l : List Oper => Region.lexB Region.Mode.any l.toArray) (?_ : _ = opsAt 19 (Try.f5.body.getD .skip))) lex19
                kernel_rfl
              repeat (go_big_quiet_step ((go_at_call 17; (with_reducible exact NEU _))))
              refine wpQuiet_nil ?_
              intro _ hw'
              obtain ⟨nq, hw''⟩ := hw'
              subst hw''
              go_wp2_with (go_at_call 17; (with_reducible refine (NEP _).mono ?_); rintro e w' ⟨rfl, ⟨m21, rfl⟩⟩)
              go_roundw
              case rel => exact ⟨i + 1, 1, by omega, by omega, by omega, by omega, rfl, by go_num, ⟨by have q := HF2.out; rw [HN.out] at q; exact q⟩, by first | exact drewN_ex1 _ _ | exact drewN_ex2 _ _ _ | exact drewN_ex3 _ _ _ _⟩
              case measure => simp [intOf]; omega
            · by_cases hi : 0 < i
              · by_cases hb : 0 < b
                · as_aux_lemma =>
                  have B1 : (ri == 1) = true := by rw [hr]; rfl
                  have B2 : (ri == 2) = false := by rw [hr]; rfl
                  have N1 : (ri != 1) = false := by rw [hr]; rfl
                  have N4 : (ri != 4) = true := by rw [hr]; rfl
                  have N7 : (ri != 7) = true := by rw [hr]; rfl
                  have B10 : (ri == 10) = false := by rw [hr]; rfl
                  have LT : (Int.tmod ni 2 == 1) = false := beq_eq_false_iff_ne.mpr (fun e => by have := g6.1 e; omega)
                  have HN := Aside0.mk (show neNx ri b = 1 by unfold neNx; rw [hr]; simp)
                  have NEU := NEU true hnu
                  have NEP := fun W => neutral_c ci true W hnu
                  have RS : (ri != sd) = true := bne_iff_ne.mpr hsd
                  have I0 : decide (0 < i) = true := decide_eq_true hi
                  have P0 : decide (0 < b) = true := decide_eq_true hb
                  have g8 := (g7 hnu).2 hsd hi hb
                  have P1 : (b == 1) = true := beq_iff_eq.mpr (g8.2 hr)
                  clear hnu g1 g6 g7 g8 hr hsd hi hb h10
                  go_upto_region 19 with (fail)
                  simp only [List.append]
                  refine wp_region_quiet_lit (by kernel_rfl) ?lex ?_
                  case lex =>
                    refine Eq.trans (congrArg (fun l : List Oper => Region.lexB Region.Mode.any l.toArray) (?_ : _ = opsAt 19 (Try.f5.body.getD .skip))) lex19
                    kernel_rfl
                  repeat (go_big_quiet_step ((go_at_call 17; (with_reducible exact NEU _))))
                  refine wpQuiet_nil ?_
                  intro _ hw'
                  obtain ⟨nq, hw''⟩ := hw'
                  subst hw''
                  go_wp2_with (go_at_call 17; (with_reducible refine (NEP _).mono ?_); rintro e w' ⟨rfl, ⟨m21, rfl⟩⟩)
                  go_roundw
                  case rel => exact ⟨i + 1, 1, by omega, by omega, by omega, by omega, rfl, by go_num, ⟨by have q := HF2.out; rw [HN.out] at q; exact q⟩, by first | exact drewN_ex1 _ _ | exact drewN_ex2 _ _ _ | exact drewN_ex3 _ _ _ _⟩
                  case measure => simp [intOf]; omega
                · as_aux_lemma =>
                  have B1 : (ri == 1) = true := by rw [hr]; rfl
                  have B2 : (ri == 2) = false := by rw [hr]; rfl
                  have N1 : (ri != 1) = false := by rw [hr]; rfl
                  have N4 : (ri != 4) = true := by rw [hr]; rfl
                  have N7 : (ri != 7) = true := by rw [hr]; rfl
                  have B10 : (ri == 10) = false := by rw [hr]; rfl
                  have LT : (Int.tmod ni 2 == 1) = false := beq_eq_false_iff_ne.mpr (fun e => by have := g6.1 e; omega)
                  have HN := Aside0.mk (show neNx ri b = 1 by unfold neNx; rw [hr]; simp)
                  have NEU := NEU true hnu
                  have NEP := fun W => neutral_c ci true W hnu
                  have RS : (ri != sd) = true := bne_iff_ne.mpr hsd
                  have I0 : decide (0 < i) = true := decide_eq_true hi
                  have P0 : decide (0 < b) = false := decide_eq_false hb
                  clear hnu g1 g6 g7 hr hsd hi hb h10
                  go_upto_region 19 with (fail)
                  simp only [List.append]
                  refine wp_region_quiet_lit (by kernel_rfl) ?lex ?_
                  case lex =>
                    refine Eq.trans (congrArg (fun l : List Oper => Region.lexB Region.Mode.any l.toArray) (?_ : _ = opsAt 19 (Try.f5.body.getD .skip))) lex19
                    kernel_rfl
                  repeat (go_big_quiet_step ((go_at_call 17; (with_reducible exact NEU _))))
                  refine wpQuiet_nil ?_
                  intro _ hw'
                  obtain ⟨nq, hw''⟩ := hw'
                  subst hw''
                  go_wp2_with (go_at_call 17; (with_reducible refine (NEP _).mono ?_); rintro e w' ⟨rfl, ⟨m21, rfl⟩⟩)
                  go_roundw
                  case rel => exact ⟨i + 1, 1, by omega, by omega, by omega, by omega, rfl, by go_num, ⟨by have q := HF2.out; rw [HN.out] at q; exact q⟩, by first | exact drewN_ex1 _ _ | exact drewN_ex2 _ _ _ | exact drewN_ex3 _ _ _ _⟩
                  case measure => simp [intOf]; omega
              · as_aux_lemma =>
                have B1 : (ri == 1) = true := by rw [hr]; rfl
                have B2 : (ri == 2) = false := by rw [hr]; rfl
                have N1 : (ri != 1) = false := by rw [hr]; rfl
                have N4 : (ri != 4) = true := by rw [hr]; rfl
                have N7 : (ri != 7) = true := by rw [hr]; rfl
                have B10 : (ri == 10) = false := by rw [hr]; rfl
                have LT : (Int.tmod ni 2 == 1) = false := beq_eq_false_iff_ne.mpr (fun e => by have := g6.1 e; omega)
                have HN := Aside0.mk (show neNx ri b = 1 by unfold neNx; rw [hr]; simp)
                have NEU := NEU true hnu
                have NEP := fun W => neutral_c ci true W hnu
                have RS : (ri != sd) = true := bne_iff_ne.mpr hsd
                have I0 : decide (0 < i) = false := decide_eq_false hi
                clear hnu g1 g6 g7 hr hsd hi h10
                go_upto_region 19 with (fail)
                simp only [List.append]
                refine wp_region_quiet_lit (by kernel_rfl) ?lex ?_
                case lex =>
                  refine Eq.trans (congrArg (fun l : List Oper => Region.lexB Region.Mode.any l.toArray) (?_ : _ = opsAt 19 (Try.f5.body.getD .skip))) lex19
                  kernel_rfl
                repeat (go_big_quiet_step ((go_at_call 17; (with_reducible exact NEU _))))
                refine wpQuiet_nil ?_
                intro _ hw'
                obtain ⟨nq, hw''⟩ := hw'
                subst hw''
                go_wp2_with (go_at_call 17; (with_reducible refine (NEP _).mono ?_); rintro e w' ⟨rfl, ⟨m21, rfl⟩⟩)
                go_roundw
                case rel => exact ⟨i + 1, 1, by omega, by omega, by omega, by omega, rfl, by go_num, ⟨by have q := HF2.out; rw [HN.out] at q; exact q⟩, by first | exact drewN_ex1 _ _ | exact drewN_ex2 _ _ _ | exact drewN_ex3 _ _ _ _⟩
                case measure => simp [intOf]; omega
          · by_cases hsd : ri = sd
            · as_aux_lemma =>
              have B1 : (ri == 1) = false := by rw [hr]; rfl
              have B2 : (ri == 2) = true := by rw [hr]; rfl
              have N1 : (ri != 1) = true := by rw [hr]; rfl
              have N4 : (ri != 4) = true := by rw [hr]; rfl
              have N7 : (ri != 7) = true := by rw [hr]; rfl
              have B10 : (ri == 10) = false := by rw [hr]; rfl
              have LT : (Int.tmod ni 2 == 1) = true := beq_iff_eq.mpr (g6.2 hr)
              have HN := Aside0.mk (show neNx ri b = 2 by unfold neNx; rw [hr]; simp)
              have NEU := NEU true hnu
              have NEP := fun W => neutral_c ci true W hnu
              have RS : (ri != sd) = false := bne_eq_false_iff_eq.mpr hsd
              clear hnu g1 g6 g7 hr hsd h10
              go_upto_region 19 with (fail)
              simp only [List.append]
              refine wp_region_quiet_lit (by kernel_rfl) ?lex ?_
              case lex =>
                refine Eq.trans (congrArg (fun l : List Oper => Region.lexB Region.Mode.any l.toArray) (?_ : _ = opsAt 19 (Try.f5.body.getD .skip))) lex19
                kernel_rfl
              repeat (go_big_quiet_step ((go_at_call 17; (with_reducible exact NEU _))))
              refine wpQuiet_nil ?_
              intro _ hw'
              obtain ⟨nq, hw''⟩ := hw'
              subst hw''
              go_wp2_with (go_at_call 17; (with_reducible refine (NEP _).mono ?_); rintro e w' ⟨rfl, ⟨m21, rfl⟩⟩)
              go_roundw
              case rel => exact ⟨i + 1, 2, by omega, by omega, by omega, by omega, rfl, by go_num, ⟨by have q := HF2.out; rw [HN.out] at q; exact q⟩, by first | exact drewN_ex1 _ _ | exact drewN_ex2 _ _ _ | exact drewN_ex3 _ _ _ _⟩
              case measure => simp [intOf]; omega
            · by_cases hi : 0 < i
              · by_cases hb : 0 < b
                · as_aux_lemma =>
                  have B1 : (ri == 1) = false := by rw [hr]; rfl
                  have B2 : (ri == 2) = true := by rw [hr]; rfl
                  have N1 : (ri != 1) = true := by rw [hr]; rfl
                  have N4 : (ri != 4) = true := by rw [hr]; rfl
                  have N7 : (ri != 7) = true := by rw [hr]; rfl
                  have B10 : (ri == 10) = false := by rw [hr]; rfl
                  have LT : (Int.tmod ni 2 == 1) = true := beq_iff_eq.mpr (g6.2 hr)
                  have HN := Aside0.mk (show neNx ri b = 2 by unfold neNx; rw [hr]; simp)
                  have NEU := NEU true hnu
                  have NEP := fun W => neutral_c ci true W hnu
                  have RS : (ri != sd) = true := bne_iff_ne.mpr hsd
                  have I0 : decide (0 < i) = true := decide_eq_true hi
                  have P0 : decide (0 < b) = true := decide_eq_true hb
                  have g8 := (g7 hnu).2 hsd hi hb
                  have P1 : (b == 1) = false := beq_eq_false_iff_ne.mpr (fun e => by have := g8.1 e; omega)
                  clear hnu g1 g6 g7 g8 hr hsd hi hb h10
                  go_upto_region 19 with (fail)
                  simp only [List.append]
                  refine wp_region_quiet_lit (by kernel_rfl) ?lex ?_
                  case lex =>
                    refine Eq.trans (congrArg (fun l : List Oper => Region.lexB Region.Mode.any l.toArray) (?_ : _ = opsAt 19 (Try.f5.body.getD .skip))) lex19
                    kernel_rfl
                  repeat (go_big_quiet_step ((go_at_call 17; (with_reducible exact NEU _))))
                  refine wpQuiet_nil ?_
                  intro _ hw'
                  obtain ⟨nq, hw''⟩ := hw'
                  subst hw''
                  go_wp2_with (go_at_call 17; (with_reducible refine (NEP _).mono ?_); rintro e w' ⟨rfl, ⟨m21, rfl⟩⟩)
                  go_roundw
                  case rel => exact ⟨i + 1, 2, by omega, by omega, by omega, by omega, rfl, by go_num, ⟨by have q := HF2.out; rw [HN.out] at q; exact q⟩, by first | exact drewN_ex1 _ _ | exact drewN_ex2 _ _ _ | exact drewN_ex3 _ _ _ _⟩
                  case measure => simp [intOf]; omega
                · as_aux_lemma =>
                  have B1 : (ri == 1) = false := by rw [hr]; rfl
                  have B2 : (ri == 2) = true := by rw [hr]; rfl
                  have N1 : (ri != 1) = true := by rw [hr]; rfl
                  have N4 : (ri != 4) = true := by rw [hr]; rfl
                  have N7 : (ri != 7) = true := by rw [hr]; rfl
                  have B10 : (ri == 10) = false := by rw [hr]; rfl
                  have LT : (Int.tmod ni 2 == 1) = true := beq_iff_eq.mpr (g6.2 hr)
                  have HN := Aside0.mk (show neNx ri b = 2 by unfold neNx; rw [hr]; simp)
                  have NEU := NEU true hnu
                  have NEP := fun W => neutral_c ci true W hnu
                  have RS : (ri != sd) = true := bne_iff_ne.mpr hsd
                  have I0 : decide (0 < i) = true := decide_eq_true hi
                  have P0 : decide (0 < b) = false := decide_eq_false hb
                  clear hnu g1 g6 g7 hr hsd hi hb h10
                  go_upto_region 19 with (fail)
                  simp only [List.append]
                  refine wp_region_quiet_lit (by kernel_rfl) ?lex ?_
                  case lex =>
                    refine Eq.trans (congrArg (fun l : List Oper => Region.lexB Region.Mode.any l.toArray) (?_ : _ = opsAt 19 (Try.f5.body.getD .skip))) lex19
                    kernel_rfl
                  repeat (go_big_quiet_step ((go_at_call 17; (with_reducible exact NEU _))))
                  refine wpQuiet_nil ?_
                  intro _ hw'
                  obtain ⟨nq, hw''⟩ := hw'
                  subst hw''
                  go_wp2_with (go_at_call 17; (with_reducible refine (NEP _).mono ?_); rintro e w' ⟨rfl, ⟨m21, rfl⟩⟩)
                  go_roundw
                  case rel => exact ⟨i + 1, 2, by omega, by omega, by omega, by omega, rfl, by go_num, ⟨by have q := HF2.out; rw [HN.out] at q; exact q⟩, by first | exact drewN_ex1 _ _ | exact drewN_ex2 _ _ _ | exact drewN_ex3 _ _ _ _⟩
                  case measure => simp [intOf]; omega
              · as_aux_lemma =>
                have B1 : (ri == 1) = false := by rw [hr]; rfl
                have B2 : (ri == 2) = true := by rw [hr]; rfl
                have N1 : (ri != 1) = true := by rw [hr]; rfl
                have N4 : (ri != 4) = true := by rw [hr]; rfl
                have N7 : (ri != 7) = true := by rw [hr]; rfl
                have B10 : (ri == 10) = false := by rw [hr]; rfl
                have LT : (Int.tmod ni 2 == 1) = true := beq_iff_eq.mpr (g6.2 hr)
                have HN := Aside0.mk (show neNx ri b = 2 by unfold neNx; rw [hr]; simp)
                have NEU := NEU true hnu
                have NEP := fun W => neutral_c ci true W hnu
                have RS : (ri != sd) = true := bne_iff_ne.mpr hsd
                have I0 : decide (0 < i) = false := decide_eq_false hi
                clear hnu g1 g6 g7 hr hsd hi h10
                go_upto_region 19 with (fail)
                simp only [List.append]
                refine wp_region_quiet_lit (by kernel_rfl) ?lex ?_
                case lex =>
                  refine Eq.trans (congrArg (fun l : List Oper => Region.lexB Region.Mode.any l.toArray) (?_ : _ = opsAt 19 (Try.f5.body.getD .skip))) lex19
                  kernel_rfl
                repeat (go_big_quiet_step ((go_at_call 17; (with_reducible exact NEU _))))
                refine wpQuiet_nil ?_
                intro _ hw'
                obtain ⟨nq, hw''⟩ := hw'
                subst hw''
                go_wp2_with (go_at_call 17; (with_reducible refine (NEP _).mono ?_); rintro e w' ⟨rfl, ⟨m21, rfl⟩⟩)
                go_roundw
                case rel => exact ⟨i + 1, 2, by omega, by omega, by omega, by omega, rfl, by go_num, ⟨by have q := HF2.out; rw [HN.out] at q; exact q⟩, by first | exact drewN_ex1 _ _ | exact drewN_ex2 _ _ _ | exact drewN_ex3 _ _ _ _⟩
                case measure => simp [intOf]; omega
        · have hnu := Bool.eq_false_iff.mpr hnu
          rcases g2 with hr | hr | hr | hr
          · as_aux_lemma =>
            have B1 : (ri == 1) = true := by rw [hr]; rfl
            have B2 : (ri == 2) = false := by rw [hr]; rfl
            have N1 : (ri != 1) = false := by rw [hr]; rfl
            have N4 : (ri != 4) = true := by rw [hr]; rfl
            have N7 : (ri != 7) = true := by rw [hr]; rfl
            have B10 : (ri == 10) = false := by rw [hr]; rfl
            have LT : (Int.tmod ni 2 == 1) = false := beq_eq_false_iff_ne.mpr (fun e => by have := g6.1 e; omega)
            have HN := Aside0.mk (show neNx ri b = 1 by unfold neNx; rw [hr]; simp)
            have NEU := NEU false hnu
            have NEP := fun W => neutral_c ci false W hnu
            have RC : (ri != ci) = false := bne_eq_false_iff_eq.mpr (g1 hnu)
            clear hnu g1 g6 g7 hr h10
            go_upto_region 19 with (fail)
            simp only [List.append]
            refine wp_region_quiet_lit (by kernel_rfl) ?lex ?_
            case lex =>
              refine Eq.trans (congrArg (fun l : List Oper => Region.lexB Region.Mode.any l.toArray) (?_ : _ = opsAt 19 (Try.f5.body.getD .skip))) lex19
              kernel_rfl
            repeat (go_big_quiet_step ((go_at_call 17; (with_reducible exact NEU _))))
            refine wpQuiet_nil ?_
            intro _ hw'
            obtain ⟨nq, hw''⟩ := hw'
            subst hw''
            go_wp2_with (go_at_call 17; (with_reducible refine (NEP _).mono ?_); rintro e w' ⟨rfl, ⟨m21, rfl⟩⟩)
            go_roundw
            case rel => exact ⟨i + 1, 1, by omega, by omega, by omega, by omega, rfl, by go_num, ⟨by have q := HF2.out; rw [HN.out] at q; exact q⟩, by first | exact drewN_ex1 _ _ | exact drewN_ex2 _ _ _ | exact drewN_ex3 _ _ _ _⟩
            case measure => simp [intOf]; omega
          · as_aux_lemma =>
            have B1 : (ri == 1) = false := by rw [hr]; rfl
            have B2 : (ri == 2) = true := by rw [hr]; rfl
            have N1 : (ri != 1) = true := by rw [hr]; rfl
            have N4 : (ri != 4) = true := by rw [hr]; rfl
            have N7 : (ri != 7) = true := by rw [hr]; rfl
            have B10 : (ri == 10) = false := by rw [hr]; rfl
            have LT : (Int.tmod ni 2 == 1) = true := beq_iff_eq.mpr (g6.2 hr)
            have HN := Aside0.mk (show neNx ri b = 2 by unfold neNx; rw [hr]; simp)
            have NEU := NEU false hnu
            have NEP := fun W => neutral_c ci false W hnu
            have RC : (ri != ci) = false := bne_eq_false_iff_eq.mpr (g1 hnu)
            clear hnu g1 g6 g7 hr h10
            go_upto_region 19 with (fail)
            simp only [List.append]
            refine wp_region_quiet_lit (by kernel_rfl) ?lex ?_
            case lex =>
              refine Eq.trans (congrArg (fun l : List Oper => Region.lexB Region.Mode.any l.toArray) (?_ : _ = opsAt 19 (Try.f5.body.getD .skip))) lex19
              kernel_rfl
            repeat (go_big_quiet_step ((go_at_call 17; (with_reducible exact NEU _))))
            refine wpQuiet_nil ?_
            intro _ hw'
            obtain ⟨nq, hw''⟩ := hw'
            subst hw''
            go_wp2_with (go_at_call 17; (with_reducible refine (NEP _).mono ?_); rintro e w' ⟨rfl, ⟨m21, rfl⟩⟩)
            go_roundw
            case rel => exact ⟨i + 1, 2, by omega, by omega, by omega, by omega, rfl, by go_num, ⟨by have q := HF2.out; rw [HN.out] at q; exact q⟩, by first | exact drewN_ex1 _ _ | exact drewN_ex2 _ _ _ | exact drewN_ex3 _ _ _ _⟩
            case measure => simp [intOf]; omega
          · as_aux_lemma =>
            have B1 : (ri == 1) = false := by rw [hr]; rfl
            have B2 : (ri == 2) = false := by rw [hr]; rfl
            have N1 : (ri != 1) = true := by rw [hr]; rfl
            have N4 : (ri != 4) = false := by rw [hr]; rfl
            have N7 : (ri != 7) = true := by rw [hr]; rfl
            have B10 : (ri == 10) = false := by rw [hr]; rfl
            have LT : (Int.tmod ni 2 == 1) = false := beq_eq_false_iff_ne.mpr (fun e => by have := g6.1 e; omega)
            have HN := Aside0.mk (show neNx ri b = 2 by unfold neNx; rw [hr]; simp)
            have NEU := NEU false hnu
            have NEP := fun W => neutral_c ci false W hnu
            have RC : (ri != ci) = false := bne_eq_false_iff_eq.mpr (g1 hnu)
            clear hnu g1 g6 g7 hr h10
            go_upto_region 19 with (fail)
            simp only [List.append]
            refine wp_region_quiet_lit (by kernel_rfl) ?lex ?_
            case lex =>
              refine Eq.trans (congrArg (fun l : List Oper => Region.lexB Region.Mode.any l.toArray) (?_ : _ = opsAt 19 (Try.f5.body.getD .skip))) lex19
              kernel_rfl
            repeat (go_big_quiet_step ((go_at_call 17; (with_reducible exact NEU _))))
            refine wpQuiet_nil ?_
            intro _ hw'
            obtain ⟨nq, hw''⟩ := hw'
            subst hw''
            go_wp2_with (go_at_call 17; (with_reducible refine (NEP _).mono ?_); rintro e w' ⟨rfl, ⟨m21, rfl⟩⟩)
            go_roundw
            case rel => exact ⟨i + 1, 2, by omega, by omega, by omega, by omega, rfl, by go_num, ⟨by have q := HF2.out; rw [HN.out] at q; exact q⟩, by first | exact drewN_ex1 _ _ | exact drewN_ex2 _ _ _ | exact drewN_ex3 _ _ _ _⟩
            case measure => simp [intOf]; omega
          · as_aux_lemma =>
            have B1 : (ri == 1) = false := by rw [hr]; rfl
            have B2 : (ri == 2) = false := by rw [hr]; rfl
            have N1 : (ri != 1) = true := by rw [hr]; rfl
            have N4 : (ri != 4) = true := by rw [hr]; rfl
            have N7 : (ri != 7) = false := by rw [hr]; rfl
            have B10 : (ri == 10) = false := by rw [hr]; rfl
            have LT : (Int.tmod ni 2 == 1) = false := beq_eq_false_iff_ne.mpr (fun e => by have := g6.1 e; omega)
            have HN := Aside0.mk (show neNx ri b = 2 by unfold neNx; rw [hr]; simp)
            have NEU := NEU false hnu
            have NEP := fun W => neutral_c ci false W hnu
            have RC : (ri != ci) = false := bne_eq_false_iff_eq.mpr (g1 hnu)
            clear hnu g1 g6 g7 hr h10
            go_upto_region 19 with (fail)
            simp only [List.append]
            refine wp_region_quiet_lit (by kernel_rfl) ?lex ?_
            case lex =>
              refine Eq.trans (congrArg (fun l : List Oper => Region.lexB Region.Mode.any l.toArray) (?_ : _ = opsAt 19 (Try.f5.body.getD .skip))) lex19
              kernel_rfl
            repeat (go_big_quiet_step ((go_at_call 17; (with_reducible exact NEU _))))
            refine wpQuiet_nil ?_
            intro _ hw'
            obtain ⟨nq, hw''⟩ := hw'
            subst hw''
            go_wp2_with (go_at_call 17; (with_reducible refine (NEP _).mono ?_); rintro e w' ⟨rfl, ⟨m21, rfl⟩⟩)
            go_roundw
            case rel => exact ⟨i + 1, 2, by omega, by omega, by omega, by omega, rfl, by go_num, ⟨by have q := HF2.out; rw [HN.out] at q; exact q⟩, by first | exact drewN_ex1 _ _ | exact drewN_ex2 _ _ _ | exact drewN_ex3 _ _ _ _⟩
            case measure => simp [intOf]; omega
    · obtain rfl : i = rs.length := by omega
      have bl : decide ((rs.length : Int) < (rs.length : Int)) = false := by simp
      go_wp2_with (go_at_call 9; (with_reducible refine (WK _).mono ?_); rintro e w' ⟨rfl, hB⟩)
      go_ret
      exact ⟨rfl, below_step (pw_below_drewN HB.out q) hB⟩
--END
end Go.Proofs.Ytknfniggnobaaaa.X
