import Derived.Test.YtofiflhjlohakaaX4
import Derived.Test.YtofiflhjlohakaaX5
import Derived.Test.YtofiflhjlohakaaX1
import Derived.Test.YtofiflhjlohakaaC
import Derived.Deep.QuietTactic
import Derived.Deep.RegionHeld3
/-! selvedgelaw15.RunsSequences: its walk, on the way on which it is true. -/
namespace Go.Proofs.Ytofiflhjlohakaa.X
open Go.RowKit Go.Proofs.YtofiflhjlohakaaW.PrintWords Go.Proofs.YtofiflhjlohakaaW.PrintLast Go.Proofs.YtofiflhjlohakaaW.PrintMore
set_option linter.unusedVariables false
set_option linter.unusedSimpArgs false
/-- What the stores into places leave: all below B, the rows of structs; the rows of places keep their sizes. -/
structure Keep3 (B : Nat) (W W' : World) : Prop where
  be : Below B W W'
  b36 : ∀ (k : Nat) (C : Array Value), W.heap[k]? = some (.cells C 36 (0, 0)) → W'.heap[k]? = W.heap[k]?
  b3 : ∀ (k : Nat) (C : Array Value), W.heap[k]? = some (.cells C 3 (0, 0)) → ∃ C' : Array Value, W'.heap[k]? = some (.cells C' 3 (0, 0)) ∧ C'.size = C.size
theorem Keep3.refl (B : Nat) (W : World) : Keep3 B W W := ⟨Below.refl _ _, fun _ _ _ => rfl, fun k C h => ⟨C, h, rfl⟩⟩
theorem Keep3.set {B : Nat} {W W' : World} (h : Keep3 B W W') {b : Nat} {C : Array Value} (hb : B ≤ b) (hC : W.heap[b]? = some (.cells C 3 (0, 0))) (j : Nat) (v : Value) : Keep3 B W (W'.setCell ⟨b, j, none⟩ v) := by
  refine ⟨h.be.setCell hb v, fun k D hD => ?_, fun k D hD => ?_⟩
  · refine (Below.heap_setCell _ _ _ _ (fun e => ?_)).trans (h.b36 k D hD)
    have e : k = b := e
    rw [e, hC] at hD
    injection hD with hD
    injection hD with _ hD
    cases hD
  · obtain ⟨C', h1, h2⟩ := h.b3 k D hD
    by_cases e : k = b
    · subst e
      exact ⟨C'.setIfInBounds j v, blk_put h1 j v rfl, by simp [h2]⟩
    · exact ⟨C', (Below.heap_setCell _ _ _ _ e).trans h1, h2⟩
/-- A sequence of the told row, as it stands. -/
theorem got_at {W : World} {B : Nat} {ok : Nat → Prop} {v : Value} {xs : List S36} (h : Kd.S k36 36 W B ok v xs) (i : Nat) (hi : i < xs.length) : ∃ g cap A c, v = .slice (some ⟨g, 0, none⟩) xs.length cap ∧ (∃ C : Array Value, W.heap[g]? = some (.cells C 36 (0, 0))) ∧
    W.cell? ⟨g, i * 4, none⟩ = some (.slice A (rd_T36 xs i).f0.length c) ∧ (0 < (rd_T36 xs i).f0.length → ∃ (b : Nat) (C : Array Value), A = some ⟨b, 0, none⟩ ∧ B ≤ b ∧ W.heap[b]? = some (.cells C 3 (0, 0)) ∧ (rd_T36 xs i).f0.length ≤ C.size) := by
  obtain ⟨g, cap, e, hb, hl, hC⟩ := Kd.S_form h (by omega)
  subst e
  obtain ⟨c, hcl, hM, hcc⟩ := Kd.S_get h z36 (i : Int) (by omega) (by omega)
  obtain ⟨v0, hc0, hR⟩ := k36_openM hM
  have hv := hcc 0 v0 (by rw [hc0]; rfl)
  have e1 : (⟨g, 0, none⟩ : Addr).add ((i : Int).toNat * k36.sz + 0) = ⟨g, i * 4, none⟩ := by
    rw [add_at]
    simp
    rfl
  rw [e1] at hv
  obtain ⟨A, c0, e0⟩ := Kd.R_slice hR
  refine ⟨g, cap, A, c0, rfl, hC, by rw [hv, e0]; rfl, fun hp => ?_⟩
  obtain ⟨b, capb, eb, hbb, _⟩ := Kd.R_form hR hp
  obtain ⟨inner, ho⟩ := Kd.R_own hR
  rw [e0] at eb ho
  injection eb with eA
  subst eA
  rcases ho.2 with ⟨hv2, _⟩ | ⟨b2, cap2, cur, hv2, _, hcur, hle, _, hsz, _⟩
  · cases hv2
  · injection hv2 with ha hn hc2
    injection ha with ha
    injection ha with ha
    subst ha
    exact ⟨b, cur, rfl, hbb, hcur, by rw [hsz]; simp [Kd.int, Kd.scalar] ; exact hle⟩
set_option maxHeartbeats 4000000 in
set_option maxRecDepth 100000 in
theorem rseq_main (k : Nat) (A0 : Option Addr) (c0 : Nat) (l0 : List Int) (A1 : Option Addr) (c1 : Nat) (l1 : List Int) (a2 : Int) (r : Bool) (want : List S56) (e2 : Int) (got : List S36) (w : World) (hr0 : Kd.C (Kd.int .u8) w A0 l0.length l0) (hc0 : l0.length ≤ c0) (hr1 : Kd.C (Kd.int .u8) w A1 l1.length l1) (hc1 : l1.length ≤ c1)
    (h0 : l0.length ≤ 2000) (h1 : l1.length ≤ 2000) (hW : selvedgeref15_Sequences.f k l0 l1 a2 = some (want, e2)) (hG : runs_Sequences.f l0 l1 a2 = some (got, e2)) (hS : selvedgelaw15_same.f k got want = some true) (hR : selvedgelaw15_works.f k = some r) (hg1 : got.length ≤ 100000) (hg2 : ∀ i : Nat, i < got.length → (rd_T36 got i).f0.length ≤ 100000) :
    Calls Try.prog 3 #[.slice A0 l0.length c0, .slice A1 l1.length c1, .int .u8 a2] w fun e w' => e = .returned (.bool r) ∧ Below w.heap.size w w' := by
  have d0 : decide (2000 < (l0.length : Int)) = false := decide_eq_false (by omega)
  have d1 : decide (2000 < (l1.length : Int)) = false := decide_eq_false (by omega)
  have HA := Aside0.mk (And.intro hr0 (And.intro hc0 (And.intro hr1 hc1)))
  have HN := Aside0.mk (And.intro h0 h1)
  have HF := Aside0.mk (And.intro hW (And.intro hG (And.intro hS hR)))
  have HG := Aside0.mk (And.intro hg1 hg2)
  clear hr0 hc0 hr1 hc1 hW hG hS hR hg1 hg2 h0 h1
  go_enter Try.func3, Try.ntmps3
  go_upto_region 7 with (first
    | ((with_reducible refine gate_builtin (b := .append) (xs := #[.tmp 26, .tmp 27]) rfl ?_); at_builtin; refine Kd.R_append_rows (Kd.int .u8) (w0 := w) (W := w) w.heap.size rfl (.tmp 26) (.tmp 27) 22 34 (.int .u8 0) 1 rfl Try.underlying22 info34 rfl (by decide) (by omega) (.slice none 0 0) ([] : List Int) l0 _ _ _ (fun _ => True) (fun _ => False) rfl rfl (Kd.R_nil _ _ _ _ _) HA.out.1 (fun _ _ h => h) (fun _ h => h.elim) (fun _ _ => trivial) (Below.refl _ _) (Nat.le_refl _) (by have := HN.out.1; simp; omega) ?_; intro vc w1 ho hb hg hat; have H1 := Aside0.mk (And.intro ho hb); clear ho hb hg hat)
    | ((with_reducible refine gate_builtin (b := .append) (xs := #[.tmp 29, .tmp 30]) rfl ?_); at_builtin; refine Kd.R_append_rows (Kd.int .u8) (w0 := w) (W := w1) w.heap.size rfl (.tmp 29) (.tmp 30) 23 5 (.int .u8 0) 1 rfl Try.underlying23 info5 rfl (by decide) (by omega) (.slice none 0 0) ([] : List Int) l1 _ _ _ (fun _ => True) (fun _ => False) rfl rfl (Kd.R_nil _ _ _ _ _) (Kd.C_below HA.out.2.2.1 H1.out.2) (fun _ _ h => h) (fun _ h => h.elim) (fun _ _ => trivial) H1.out.2 H1.out.2.size (by have := HN.out.2; simp; omega) ?_; intro vn w2 ho hb hg hat; have H2 := Aside0.mk (And.intro (Kd.R_grown H1.out.1 hg (by intro k _; simp [Value.ownBlock])) (And.intro ho hb)); clear ho hb hg hat))
  have H3 : Aside0 (Kd.R (Kd.int .u8) 34 w2 w.heap.size (fun _ => True) vc l0 ∧ Kd.R (Kd.int .u8) 5 w2 w.heap.size (fun _ => True) vn l1 ∧ Below w.heap.size w w2) := ⟨H2.out⟩
  clear H1 H2
  obtain ⟨Ac, cc, ec⟩ := Kd.R_slice H3.out.1
  subst ec
  obtain ⟨An, cn, en⟩ := Kd.R_slice H3.out.2.1
  subst en
  go_upto_region 8 with (go_at_call 9; refine (selvedgeref15_Sequences.calls k A0 c0 l0 A1 c1 l1 a2 want e2 w2 (Kd.C_below HA.out.1 H3.out.2.2) HA.out.2.1 (Kd.C_below HA.out.2.2.1 H3.out.2.2) HA.out.2.2.2 HF.out.1).mono ?_; rintro e w3 ⟨vw, rfl, hS, hB⟩; have H4 := Aside0.mk (And.intro hS hB); clear hS hB)
  obtain ⟨Aw, cw, ew⟩ := Kd.S_slice H4.out.1
  subst ew
  have H5 : Aside0 (Kd.R (Kd.int .u8) 34 w3 w.heap.size (fun _ => True) (.slice Ac l0.length cc) l0 ∧ Kd.R (Kd.int .u8) 5 w3 w.heap.size (fun _ => True) (.slice An l1.length cn) l1 ∧ Below w.heap.size w w3 ∧ Kd.S k56 56 w3 w2.heap.size (fun _ => True) (.slice Aw want.length cw) want) := ⟨Kd.R_below H3.out.1 H4.out.2, Kd.R_below H3.out.2.1 H4.out.2, below_step H3.out.2.2 H4.out.2, H4.out.1⟩
  clear H3 H4
  go_wp2
  go_loopw [11] (fun v11 wr => ∃ t : Nat, t ≤ 2 ∧ v11 = .int .i64 (t : Int) ∧ Aside0 (Below w3.heap.size w3 wr)) (fun v11 _ => 2 - (intOf v11).toNat)
  case atStart => exact ⟨0, by omega, rfl, ⟨Below.refl _ _⟩⟩
  case round =>
    obtain ⟨t, ht, rfl, HX⟩ := hrel
    obtain ⟨wo, rfl⟩ : ∃ x, x = wr := ⟨_, rfl⟩
    by_cases hlt : t < 2
    · have dl : decide ((t : Int) < 2) = true := decide_eq_true (by omega)
      have dn : decide (t < 2) = true := decide_eq_true hlt
      have pl : ((t : Int) < 2) = True := eq_true (by omega)
      have pn : (t < 2) = True := eq_true hlt
      have HT := Aside0.mk hlt
      have htb : t ≤ 2 := ht
      clear hlt ht
      go_upto_region 12 with (go_at_call 10; refine (runs_Sequences.calls Ac cc l0 An cn l1 a2 got e2 wo (Kd.C_below (Kd.R_reads' H5.out.1).2.2 HX.out) (Kd.R_reads' H5.out.1).2.1 (Kd.C_below (Kd.R_reads' H5.out.2.1).2.2 HX.out) (Kd.R_reads' H5.out.2.1).2.1 HF.out.2.1).mono ?_; rintro e w4 ⟨vg, rfl, hS, hB⟩; have H6 := Aside0.mk (And.intro hS hB); clear hS hB)
      obtain ⟨Ag, cg, eg⟩ := Kd.S_slice H6.out.1
      subst eg
      have de : (e2 != e2) = false := by simp
      have ds : ((strOfNums l1).toList != (strOfNums l1).toList) = false := bne_eq_false_iff_eq.mpr rfl
      go_upto_region 14 with (go_at_call 11; refine (selvedgelaw15_same.calls k Ag cg got Aw cw want true w4 (Kd.S_reads' H6.out.1).2.2 (Kd.S_reads' H6.out.1).2.1 (Kd.C_below (Kd.C_below (Kd.S_reads' H5.out.2.2.2).2.2 HX.out) H6.out.2) (Kd.S_reads' H5.out.2.2.2).2.1 HF.out.2.2.1).mono ?_; rintro e w5 ⟨rfl, hb⟩; have H7 := Aside0.mk hb; clear hb; have hcn := Kd.C_string (P := Try.prog) (c := cn) Try.underlying23 Try.underlying5 Try.underlying9 (Kd.C_below (Kd.C_below (Kd.C_below (Kd.R_reads' H5.out.2.1).2.2 HX.out) H6.out.2) H7.out); have hc1 := Kd.C_string (P := Try.prog) (c := c1) Try.underlying23 Try.underlying5 Try.underlying9 (Kd.C_below (Kd.C_below (Kd.C_below (Kd.C_below HA.out.2.2.1 H5.out.2.2.1) HX.out) H6.out.2) H7.out))
      have HS5 : Aside0 (Kd.S k36 36 w5 wo.heap.size (fun _ => True) (.slice Ag got.length cg) got ∧ Below wo.heap.size wo w5) := ⟨Kd.S_below H6.out.1 H7.out, below_step H6.out.2 H7.out⟩
      clear H6 H7 hcn hc1 ds de
      go_wp2
      go_loopw [14] (fun v14 wx => ∃ i : Nat, i ≤ got.length ∧ v14 = .int .i64 (i : Int) ∧ Aside0 (Keep3 wo.heap.size w5 wx)) (fun v14 _ => got.length - (intOf v14).toNat)
      case atStart => exact ⟨0, Nat.zero_le _, rfl, ⟨Keep3.refl _ _⟩⟩
      case round =>
        obtain ⟨i, hi, rfl, HK⟩ := hrel
        obtain ⟨wx, rfl⟩ : ∃ x, x = wr := ⟨_, rfl⟩
        by_cases hlt : i < got.length
        · have di : decide ((i : Int) < (got.length : Int)) = true := decide_eq_true (by omega)
          have pi1 : ((i : Int) < (got.length : Int)) = True := eq_true (by omega)
          have pi2 : (0 ≤ (i : Int)) = True := eq_true (by omega)
          have pi3 : (i < got.length) = True := eq_true hlt
          have hib : i ≤ 100000 := by have := HG.out.1; omega
          obtain ⟨g, cap, A, c, e1, hg36, hcell, hrow⟩ := got_at HS5.out.1 i hlt
          injection e1 with e1 _ e1c
          subst e1c
          obtain ⟨ad, had⟩ : ∃ ad : Addr, (⟨g, 0, none⟩ : Addr) = ad := ⟨_, rfl⟩
          rw [had] at e1
          subst e1
          have e4 : (⟨g, i * 4, none⟩ : Addr) = ad.add (i * 4) := by rw [← had, add_at, Nat.zero_add]
          obtain ⟨n, hn⟩ : ∃ n, (rd_T36 got i).f0.length = n := ⟨_, rfl⟩
          rw [hn] at hcell hrow
          have hnb : n ≤ 100000 := by have := HG.out.2 i hlt; omega
          have HI := Aside0.mk (And.intro hlt (And.intro e4 (And.intro hg36 (And.intro hcell hrow))))
          clear hi hlt had hg36 hcell hrow e4 hn
          go_wp2
          go_loopw [15] (fun v15 wy => ∃ j : Nat, j ≤ n ∧ v15 = .int .i64 (j : Int) ∧ Aside0 (Keep3 wo.heap.size w5 wy)) (fun v15 _ => n - (intOf v15).toNat)
          case atStart => exact ⟨0, Nat.zero_le _, rfl, HK⟩
          case round =>
            clear HK
            obtain ⟨j, hj, rfl, HK⟩ := hrel
            obtain ⟨wy, rfl⟩ : ∃ x, x = wr := ⟨_, rfl⟩
            have y0 : wy.cell? (ad.add (i * 4)) = some (.slice A n c) := by
              obtain ⟨C, hC⟩ := HI.out.2.2.1
              rw [← HI.out.2.1]
              exact (blk_cell ((HK.out.b36 g C hC).trans hC) _).trans ((blk_cell hC _).symm.trans HI.out.2.2.2.1)
            by_cases hjn : j < n
            · have hjb : j ≤ 100000 := by omega
              have dj : decide ((j : Int) < (n : Int)) = true := decide_eq_true (by omega)
              have dj2 : decide (j < n) = true := decide_eq_true hjn
              have pj1 : ((j : Int) < (n : Int)) = True := eq_true (by omega)
              have pj2 : (0 ≤ (j : Int)) = True := eq_true (by omega)
              have pj3 : (j < n) = True := eq_true hjn
              obtain ⟨b, C, eA, hb, hC, hle⟩ := HI.out.2.2.2.2 (by omega)
              obtain ⟨ab, hab⟩ : ∃ ab : Addr, (⟨b, 0, none⟩ : Addr) = ab := ⟨_, rfl⟩
              rw [hab] at eA
              subst eA
              have e5 : (⟨b, j, none⟩ : Addr) = ab.add j := by rw [← hab, add_at, Nat.zero_add]
              obtain ⟨C', hC', hsz⟩ := HK.out.b3 b C hC
              have fj := blk_frozen hC' j
              obtain ⟨z, hz⟩ : ∃ z, C'[j]? = some z := ⟨_, Array.getElem?_eq_getElem (show j < C'.size by omega)⟩
              have yj := (blk_cell hC' j).trans hz
              have HK2 := Aside0.mk (HK.out.set hb hC j (.int .i64 0))
              rw [e5] at fj yj HK2
              have HJ := Aside0.mk hjn
              clear hj hjn hab e5 hC hle hC' hsz hb hz
              go_wp2
              go_roundw
              case measure => have := HJ.out; simp [intOf]; omega
              case rel => exact ⟨j + 1, by have := HJ.out; omega, (by first | rfl | go_num), HK2⟩
            · have dj : decide ((j : Int) < (n : Int)) = false := decide_eq_false (by omega)
              have dj2 : decide (j < n) = false := decide_eq_false hjn
              have pj1 : ((j : Int) < (n : Int)) = False := eq_false (by omega)
              have pj3 : (j < n) = False := eq_false hjn
              clear hj hjn
              go_wp2
              go_roundw
              case measure => have := HI.out.1; simp [intOf]; omega
              case rel => exact ⟨i + 1, by have := HI.out.1; omega, (by first | rfl | go_num), HK⟩
        · have di : decide ((i : Int) < (got.length : Int)) = false := decide_eq_false (by omega)
          have pi1 : ((i : Int) < (got.length : Int)) = False := eq_false (by omega)
          have pi3 : (i < got.length) = False := eq_false hlt
          clear hi hlt
          go_wp2
          go_roundw
          case measure => have := HT.out; simp [intOf]; omega
          case rel => exact ⟨t + 1, by have := HT.out; omega, (by first | rfl | go_num), ⟨below_step HX.out (HS5.out.2.trans HK.out.be)⟩⟩
    · have dl : decide ((t : Int) < 2) = false := decide_eq_false (by omega)
      have dn : decide (t < 2) = false := decide_eq_false hlt
      have pl : ((t : Int) < 2) = False := eq_false (by omega)
      have pn : (t < 2) = False := eq_false hlt
      clear hlt ht
      go_upto_region 21 with (fail)
      go_wp2
      go_loopw [16] (fun v16 wx => ∃ i : Nat, i ≤ l0.length ∧ v16 = .int .i64 (i : Int) ∧ Aside0 (Below w3.heap.size w3 wx)) (fun v16 _ => l0.length - (intOf v16).toNat)
      case atStart => exact ⟨0, Nat.zero_le _, rfl, HX⟩
      case round =>
        clear HX
        obtain ⟨i, hi, rfl, HX⟩ := hrel
        by_cases hlt : i < l0.length
        · have di : decide ((i : Int) < (l0.length : Int)) = true := decide_eq_true (by omega)
          have d0i : decide (0 ≤ (i : Int)) = true := decide_eq_true (by omega)
          have hib : i ≤ 2000 := by have := HN.out.1; omega
          obtain ⟨a1, e1, x1, p1, p2⟩ := atI (Kd.C_below (Kd.R_reads' H5.out.1).2.2 HX.out) (i : Int)
          cases e1
          obtain ⟨a3, e3, x3, p3, p4⟩ := atI (Kd.C_below (Kd.C_below HA.out.1 H5.out.2.2.1) HX.out) (i : Int)
          cases e3
          rw [Int.toNat_natCast] at x1 x3
          have de : (rd l0 (i : Int) != rd l0 (i : Int)) = false := by simp
          have HI := Aside0.mk hlt
          clear hi hlt
          go_upto_region 24 with (fail)
          go_quiet (fail)
          go_wp2
          go_roundw
          case measure => have := HI.out; simp [intOf]; omega
          case rel => exact ⟨i + 1, by have := HI.out; omega, (by first | rfl | go_num), ⟨pw_below_drewN HX.out _⟩⟩
        · have di : decide ((i : Int) < (l0.length : Int)) = false := decide_eq_false (by omega)
          have di2 : decide (i < l0.length) = false := decide_eq_false hlt
          clear hi hlt
          go_wp2_with (go_at_call 8; refine (selvedgelaw15_works.calls k r _ HF.out.2.2.2).mono ?_; rintro e w6 ⟨rfl, hb⟩; have HZ := Aside0.mk hb; clear hb)
          go_ret
          exact ⟨rfl, below_step (below_step H5.out.2.2.1 HX.out) HZ.out⟩
end Go.Proofs.Ytofiflhjlohakaa.X
