import Derived.Test.YtknfniggnobaaaaX7
import Derived.Test.YtknfniggnobaaaaT1
import Derived.Test.YtknfniggnobaaaaPureNeutralResolves
import Derived.Test.YtknfniggnobaaaaPureNeutralLevels
import Derived.Test.YtknfniggnobaaaaPureNeutralEnds
import Derived.Test.YtknfniggnobaaaaA
/-! The law NeutralKnown: its walk along the one path that holds. -/
namespace Go.Proofs.Ytknfniggnobaaaa.X
open Go.RowKit Go.Proofs.YtknfniggnobaaaaW.PrintWords Go.Proofs.YtknfniggnobaaaaW.PrintLast Go.Proofs.YtknfniggnobaaaaW.PrintMore Go.Proofs.Ytknfniggnobaaaa
attribute [local go_sem] max2_int min2_int max_two min_two max_three min_three max_four min_four   -- for this text's walks alone
set_option linter.unusedVariables false
set_option linter.unusedSimpArgs false

set_option maxRecDepth 100000 in
theorem lit1 (x0 : Int) (W : World) : (Instr.buildSlice 22 1 #[(0, .int .u8 x0)]).run Try.prog W = .ok (.slice (some ⟨W.heap.size, 0, none⟩) 1 1) (W.alloc (.cells #[.int .u8 x0] 23)) := by
  go_simp
set_option maxRecDepth 100000 in
theorem lit2 (x0 x1 : Int) (W : World) : (Instr.buildSlice 22 2 #[(0, .int .u8 x0), (1, .int .u8 x1)]).run Try.prog W = .ok (.slice (some ⟨W.heap.size, 0, none⟩) 2 2) (W.alloc (.cells #[.int .u8 x0, .int .u8 x1] 23)) := by
  go_simp
set_option maxRecDepth 100000 in
theorem lit3 (x0 x1 x2 : Int) (W : World) : (Instr.buildSlice 22 3 #[(0, .int .u8 x0), (1, .int .u8 x1), (2, .int .u8 x2)]).run Try.prog W = .ok (.slice (some ⟨W.heap.size, 0, none⟩) 3 3) (W.alloc (.cells #[.int .u8 x0, .int .u8 x1, .int .u8 x2] 23)) := by
  go_simp
set_option maxRecDepth 100000 in
theorem lit4 (x0 x1 x2 x3 : Int) (W : World) : (Instr.buildSlice 22 4 #[(0, .int .u8 x0), (1, .int .u8 x1), (2, .int .u8 x2), (3, .int .u8 x3)]).run Try.prog W = .ok (.slice (some ⟨W.heap.size, 0, none⟩) 4 4) (W.alloc (.cells #[.int .u8 x0, .int .u8 x1, .int .u8 x2, .int .u8 x3] 23)) := by
  go_simp
set_option maxRecDepth 100000 in
theorem lit5 (x0 x1 x2 x3 x4 : Int) (W : World) : (Instr.buildSlice 22 5 #[(0, .int .u8 x0), (1, .int .u8 x1), (2, .int .u8 x2), (3, .int .u8 x3), (4, .int .u8 x4)]).run Try.prog W = .ok (.slice (some ⟨W.heap.size, 0, none⟩) 5 5) (W.alloc (.cells #[.int .u8 x0, .int .u8 x1, .int .u8 x2, .int .u8 x3, .int .u8 x4] 23)) := by
  go_simp
theorem C_of_cells {W : World} {g : Nat} {xs : List Int} {t : TypeId} {fr : Nat × Nat} (h : W.heap[g]? = some (.cells (xs.map (Value.int .u8)).toArray t fr)) (hm : xs.length ≤ 9223372036854775807) : Kd.C (Kd.int .u8) W (some ⟨g, 0, none⟩) xs.length xs := by
  refine ⟨rfl, hm, fun _ => ⟨⟨g, 0, none⟩, rfl, fun j p hj => ⟨[.int .u8 p], rfl, rfl, fun i u hu => ?_⟩⟩⟩
  match i, hu with
  | 0, hu =>
    simp at hu
    subst hu
    show W.cell? ((⟨g, 0, none⟩ : Addr).add (j * 1 + 0)) = _
    have e : (⟨g, 0, none⟩ : Addr).add (j * 1 + 0) = ⟨g, j, none⟩ := by simp [Addr.add]; omega
    rw [e]
    simp only [World.cell?, h]
    rw [List.getElem?_toArray, List.getElem?_map, hj]
    rfl
theorem Clit (W : World) (xs : List Int) (hm : xs.length ≤ 9223372036854775807) : Kd.C (Kd.int .u8) (W.alloc (.cells (xs.map (Value.int .u8)).toArray 23)) (some ⟨W.heap.size, 0, none⟩) xs.length xs := C_of_cells (heap_alloc_new W _) hm
theorem u8_wf {x : Int} (h0 : 0 ≤ x) (h1 : x ≤ 255) : (Lit.int .u8 x).wf = true := by
  simp [Lit.wf, IntKind.min, IntKind.max, IntKind.signed, IntKind.bits]
  omega
theorem res_k (l : List Int) (a s e : Int) (hl : l.length ≤ 100) (hx : ∀ x ∈ l, 0 ≤ x ∧ x ≤ 255) (ha : 0 ≤ a ∧ a ≤ 255) (hs : 0 ≤ s ∧ s ≤ 255) (he : 0 ≤ e ∧ e ≤ 255) : ∃ k, selvedgelaw18_NeutralResolves.f k l a s e = some true :=
  Pure.NeutralResolves l a s e (by unfold maxLen; omega) (by omega) (fun x h => u8_wf (hx x h).1 (hx x h).2) (u8_wf ha.1 ha.2) (u8_wf hs.1 hs.2) (u8_wf he.1 he.2)
theorem lev_k (l : List Int) (a : Int) (hl : l.length ≤ 100) (hx : ∀ x ∈ l, 0 ≤ x ∧ x ≤ 255) (ha : 0 ≤ a ∧ a ≤ 255) : ∃ k, selvedgelaw18_NeutralLevels.f k l a = some true :=
  Pure.NeutralLevels l a (by unfold maxLen; omega) (by omega) (fun x h => u8_wf (hx x h).1 (hx x h).2) (u8_wf ha.1 ha.2)
theorem end_k (l : List Int) (a s e : Int) (hl : l.length ≤ 100) (hx : ∀ x ∈ l, 0 ≤ x ∧ x ≤ 255) (ha : 0 ≤ a ∧ a ≤ 255) (hs : 0 ≤ s ∧ s ≤ 255) (he : 0 ≤ e ∧ e ≤ 255) : ∃ k, selvedgelaw18_NeutralEnds.f k l a s e = some true :=
  Pure.NeutralEnds l a s e (by unfold maxLen; omega) (by omega) (fun x h => u8_wf (hx x h).1 (hx x h).2) (u8_wf ha.1 ha.2) (u8_wf hs.1 hs.2) (u8_wf he.1 he.2)
theorem is_k (l : List Int) (hl : l.length ≤ 100) : ∃ k, selvedgelaw18_is.f k l l = some true := E.out (A.is_self l (by omega))
set_option maxHeartbeats 8000000 in
set_option maxRecDepth 100000 in
theorem known_c (w : World) : Calls Try.prog 8 #[] w fun e w' => e = .returned (.bool true) ∧ Below w.heap.size w w' := by
  go_enter Try.func8, Try.ntmps8
  go_wp2_with (go_at_call 12; fail)
  have D := neutral_Resolve.calls (some ⟨w.heap.size, 0, none⟩) 5 [2, 10, 14, 10, 2] 0 1 1 [2, 10, 2, 10, 2] (w.alloc _) (Clit w [2, 10, 14, 10, 2] (by decide)) (by decide) (by decide +kernel)
  refine D.mono ?_
  rintro e w17 ⟨v17, rfl, hR17, hB17⟩
  obtain ⟨A17, c17, e17, hc17, hC17⟩ := Kd.R_reads hR17
  subst e17
  have HX := Aside0.mk (And.intro hc17 hC17)
  have HB0 := Aside0.mk ((below_alloc (Below.refl w.heap.size w) _).trans (hB17.mono (by simp)))
  clear hR17 hB17 hc17 hC17 D
  have HB := Aside0.mk (Below.refl w17.heap.size w17)
  go_wp2_with (go_at_call 12; fail)
  have D := neutral_Resolve.calls (some ⟨w17.heap.size, 0, none⟩) 1 [14] 1 1 1 [1] (w17.alloc _) (Clit w17 [14] (by decide)) (by decide) (by decide +kernel)
  refine D.mono ?_
  rintro e w22 ⟨v22, rfl, hR, hB⟩
  obtain ⟨A22, c22, e22, hc, hC⟩ := Kd.R_reads hR
  subst e22
  have HR22 := Aside0.mk (And.intro hc hC)
  have n0_ := Aside0.mk (HB.out.trans ((below_alloc (Below.refl _ _) _).trans (hB.mono (by simp)) |>.mono HB.out.size))
  clear HB D hR hB hc hC
  have HB := n0_
  clear n0_
  go_wp2_with (go_at_call 11; fail)
  obtain ⟨k25, hk25⟩ := is_k [1] (by decide)
  have D := selvedgelaw18_is.calls k25 A22 c22 [1] (some ⟨w22.heap.size, 0, none⟩) 1 [1] true (w22.alloc _) (Kd.C_alloc HR22.out.2 _) HR22.out.1 (Clit w22 [1] (by decide)) (by decide) hk25
  refine D.mono ?_
  rintro e w25 ⟨rfl, hd⟩
  have hB := hd.below
  have n0_ := Aside0.mk (HB.out.trans ((below_alloc (Below.refl _ _) _).trans (hB.mono (by simp)) |>.mono HB.out.size))
  clear HB D hB hd hk25
  have HB := n0_
  clear n0_
  go_wp2_with (go_at_call 14; fail)
  have D := neutral_Levels.calls (some ⟨w25.heap.size, 0, none⟩) 1 [1] 1 [2] (w25.alloc _) (Clit w25 [1] (by decide)) (by decide) (by decide +kernel)
  refine D.mono ?_
  rintro e w29 ⟨v29, rfl, hR, hB⟩
  obtain ⟨A29, c29, e29, hc, hC⟩ := Kd.R_reads hR
  subst e29
  have hcv := Kd.C_string (P := Try.prog) (A := A29) (n := 1) (c := c29) Try.underlying29 Try.underlying5 Try.underlying9 hC
  rw [show strOfNums [2] = ⟨#[2]⟩ from by decide +kernel] at hcv
  have n0_ := Aside0.mk (HB.out.trans ((below_alloc (Below.refl _ _) _).trans (hB.mono (by simp)) |>.mono HB.out.size))
  clear HB D hR hB hc hC
  have HB := n0_
  clear n0_
  go_wp2_with (go_at_call 12; fail)
  have D := neutral_Resolve.calls (some ⟨w29.heap.size, 0, none⟩) 3 [21, 23, 11] 0 2 2 [2, 2, 2] (w29.alloc _) (Clit w29 [21, 23, 11] (by decide)) (by decide) (by decide +kernel)
  refine D.mono ?_
  rintro e w37 ⟨v37, rfl, hR, hB⟩
  obtain ⟨A37, c37, e37, hc, hC⟩ := Kd.R_reads hR
  subst e37
  have HR37 := Aside0.mk (And.intro hc hC)
  have n0_ := Aside0.mk (HB.out.trans ((below_alloc (Below.refl _ _) _).trans (hB.mono (by simp)) |>.mono HB.out.size))
  clear HB D hR hB hc hC
  have HB := n0_
  clear n0_
  go_wp2_with (go_at_call 11; fail)
  obtain ⟨k42, hk42⟩ := is_k [2, 2, 2] (by decide)
  have D := selvedgelaw18_is.calls k42 A37 c37 [2, 2, 2] (some ⟨w37.heap.size, 0, none⟩) 3 [2, 2, 2] true (w37.alloc _) (Kd.C_alloc HR37.out.2 _) HR37.out.1 (Clit w37 [2, 2, 2] (by decide)) (by decide) hk42
  refine D.mono ?_
  rintro e w42 ⟨rfl, hd⟩
  have hB := hd.below
  have n0_ := Aside0.mk (HB.out.trans ((below_alloc (Below.refl _ _) _).trans (hB.mono (by simp)) |>.mono HB.out.size))
  clear HB D hB hd hk42
  have HB := n0_
  clear n0_
  go_wp2_with (go_at_call 11; fail)
  obtain ⟨k52, hk52⟩ := is_k [2, 10, 2, 10, 2] (by decide)
  have D := selvedgelaw18_is.calls k52 A17 c17 [2, 10, 2, 10, 2] (some ⟨w42.heap.size, 0, none⟩) 5 [2, 10, 2, 10, 2] true (w42.alloc _) (Kd.C_alloc (Kd.C_below HX.out.2 HB.out) _) HX.out.1 (Clit w42 [2, 10, 2, 10, 2] (by decide)) (by decide) hk52
  refine D.mono ?_
  rintro e w52 ⟨rfl, hd⟩
  have hB := hd.below
  have n0_ := Aside0.mk (HB.out.trans ((below_alloc (Below.refl _ _) _).trans (hB.mono (by simp)) |>.mono HB.out.size))
  clear HB D hB hd hk52
  have HB := n0_
  clear n0_
  go_wp2_with (go_at_call 14; fail)
  have D := neutral_Levels.calls A17 c17 [2, 10, 2, 10, 2] 0 [1, 0, 1, 0, 1] w52 (Kd.C_below HX.out.2 HB.out) HX.out.1 (by decide +kernel)
  refine D.mono ?_
  rintro e w56 ⟨v56, rfl, hR, hB⟩
  obtain ⟨A56, c56, e56, hc, hC⟩ := Kd.R_reads hR
  subst e56
  have hcv := Kd.C_string (P := Try.prog) (A := A56) (n := 5) (c := c56) Try.underlying29 Try.underlying5 Try.underlying9 hC
  rw [show strOfNums [1, 0, 1, 0, 1] = ⟨#[1, 0, 1, 0, 1]⟩ from by decide +kernel] at hcv
  have n0_ := Aside0.mk (HB.out.trans (hB.mono HB.out.size))
  clear HB D hR hB hc hC
  have HB := n0_
  clear n0_
  go_wp2_with (go_at_call 12; fail)
  have D := neutral_Resolve.calls (some ⟨w56.heap.size, 0, none⟩) 2 [14, 14] 0 2 1 [1, 1] (w56.alloc _) (Clit w56 [14, 14] (by decide)) (by decide) (by decide +kernel)
  refine D.mono ?_
  rintro e w66 ⟨v66, rfl, hR, hB⟩
  obtain ⟨A66, c66, e66, hc, hC⟩ := Kd.R_reads hR
  subst e66
  have HR66 := Aside0.mk (And.intro hc hC)
  have n0_ := Aside0.mk (HB.out.trans ((below_alloc (Below.refl _ _) _).trans (hB.mono (by simp)) |>.mono HB.out.size))
  clear HB D hR hB hc hC
  have HB := n0_
  clear n0_
  go_wp2_with (go_at_call 11; fail)
  obtain ⟨k70, hk70⟩ := is_k [1, 1] (by decide)
  have D := selvedgelaw18_is.calls k70 A66 c66 [1, 1] (some ⟨w66.heap.size, 0, none⟩) 2 [1, 1] true (w66.alloc _) (Kd.C_alloc HR66.out.2 _) HR66.out.1 (Clit w66 [1, 1] (by decide)) (by decide) hk70
  refine D.mono ?_
  rintro e w70 ⟨rfl, hd⟩
  have hB := hd.below
  have n0_ := Aside0.mk (HB.out.trans ((below_alloc (Below.refl _ _) _).trans (hB.mono (by simp)) |>.mono HB.out.size))
  clear HB D hB hd hk70
  have HB := n0_
  clear n0_
  go_wp2_with (go_at_call 12; fail)
  have D := neutral_Resolve.calls (some ⟨w70.heap.size, 0, none⟩) 3 [4, 14, 7] 0 1 1 [4, 2, 7] (w70.alloc _) (Clit w70 [4, 14, 7] (by decide)) (by decide) (by decide +kernel)
  refine D.mono ?_
  rintro e w77 ⟨v77, rfl, hR, hB⟩
  obtain ⟨A77, c77, e77, hc, hC⟩ := Kd.R_reads hR
  subst e77
  have HR77 := Aside0.mk (And.intro hc hC)
  have n0_ := Aside0.mk (HB.out.trans ((below_alloc (Below.refl _ _) _).trans (hB.mono (by simp)) |>.mono HB.out.size))
  clear HB D hR hB hc hC
  have HB := n0_
  clear n0_
  go_wp2_with (go_at_call 11; fail)
  obtain ⟨k80, hk80⟩ := is_k [4, 2, 7] (by decide)
  have D := selvedgelaw18_is.calls k80 A77 c77 [4, 2, 7] (some ⟨w77.heap.size, 0, none⟩) 3 [4, 2, 7] true (w77.alloc _) (Kd.C_alloc HR77.out.2 _) HR77.out.1 (Clit w77 [4, 2, 7] (by decide)) (by decide) hk80
  refine D.mono ?_
  rintro e w80 ⟨rfl, hd⟩
  have hB := hd.below
  have n0_ := Aside0.mk (HB.out.trans ((below_alloc (Below.refl _ _) _).trans (hB.mono (by simp)) |>.mono HB.out.size))
  clear HB D hB hd hk80
  have HB := n0_
  clear n0_
  go_wp2_with (go_at_call 12; fail)
  have D := neutral_Resolve.calls none 0 [] 0 1 1 [] w80 (Kd.C_nil _ _) (by decide) (by decide +kernel)
  refine D.mono ?_
  rintro e w85 ⟨v85, rfl, hR, hB⟩
  obtain ⟨A85, c85, e85, hc, hC⟩ := Kd.R_reads hR
  subst e85
  have HR85 := Aside0.mk (And.intro hc hC)
  have n0_ := Aside0.mk (HB.out.trans (hB.mono HB.out.size))
  clear HB D hR hB hc hC
  have HB := n0_
  clear n0_
  have HBa := Aside0.mk (HB0.out.trans (HB.out.mono HB0.out.size))
  clear HB HB0 HX
  go_wp2
  go_loopw [7, 8] (fun v7 v8 wq => ∃ a : Int, 0 ≤ a ∧ a ≤ 25 ∧ v7 = .int .u8 a ∧ Aside0 (Below w.heap.size w wq)) (fun v7 _ _ => 25 - (intOf v7).toNat)
  case atStart => exact ⟨0, by omega, by omega, rfl, HBa⟩
  case round =>
    as_aux_lemma =>
    obtain ⟨a, ha0, ha1, rfl, HB⟩ := hrel
    by_cases hlt : a ≤ 24
    · have bl : decide (a ≤ 24) = true := decide_eq_true hlt
      go_wp2
      go_loopw [8] (fun v8 wp => ∃ c : Int, 0 ≤ c ∧ c ≤ 25 ∧ v8 = .int .u8 c ∧ Aside0 (Below w.heap.size w wp)) (fun v8 _ => 25 - (intOf v8).toNat)
      case atStart => exact ⟨0, by omega, by omega, rfl, HB⟩
      case round =>
        as_aux_lemma =>
        obtain ⟨c, hc0, hc1, rfl, HB⟩ := hrel
        by_cases hltc : c ≤ 24
        · have blc : decide (c ≤ 24) = true := decide_eq_true hltc
          obtain ⟨c2, hc2⟩ : ∃ c2 : Int, (c + 1) % 256 = c2 := ⟨_, rfl⟩
          have hc3 : IntKind.u8.wrap (c + 1) = c2 := by rw [IntKind.wrap_u8]; exact hc2
          have hc4 : c2 = c + 1 := by omega
          obtain ⟨k3, hk3⟩ := res_k [a, 14, c] a a c (by simp) (by simp; omega) (by omega) (by omega) (by omega)
          obtain ⟨k4, hk4⟩ := res_k [14, a, c, 13] c 2 1 (by simp) (by simp; omega) (by omega) (by omega) (by omega)
          obtain ⟨k5, hk5⟩ := lev_k [a, c] 0 (by simp) (by simp; omega) (by omega)
          obtain ⟨k6, hk6⟩ := lev_k [a, c] 255 (by simp) (by simp; omega) (by omega)
          obtain ⟨k7, hk7⟩ := end_k [a, 14, 10, c] 1 2 2 (by simp) (by simp; omega) (by omega) (by omega) (by omega)
          have HK := Aside0.mk (And.intro hk3 (And.intro hk4 (And.intro hk5 (And.intro hk6 hk7))))
          have HC4 := Aside0.mk hc4
          clear hk3 hk4 hk5 hk6 hk7 hc4
          go_wp2_with (first | ((with_reducible refine gate_dst (N := 100) rfl ?_); refine Kd.R_lit (Kd.int .u8) _ 23 ?hg (N := 100) ?hd (xs := ([a, 14, c] : List Int)) (inner := [.int .u8 a, .int .u8 14, .int .u8 c]) (ok := fun _ => True) (okp := fun _ => True) ?hr ?hp (fun _ hk => hk) trivial (Below.refl _ _) (Nat.le_refl _) (by simp) ?_; (case hd => rfl); (case hg => rfl); (case hr => (simp [execOp, Act.eval]; rw [lit3]; rfl)); (case hp => exact (Reps.one (show Kd.M (Kd.int .u8) _ _ _ a [.int .u8 a] from rfl) (Reps.one (show Kd.M (Kd.int .u8) _ _ _ 14 [.int .u8 14] from rfl) (Reps.one (show Kd.M (Kd.int .u8) _ _ _ c [.int .u8 c] from rfl) (Reps.none _ _))))); intro v100 w100 ho hb hg_ hn_; clear hg_ hn_; obtain ⟨A100, c100, e100, hc100, hC100⟩ := Kd.R_reads ho; subst e100; have HV100 := Aside0.mk (And.intro hc100 (And.intro hC100 hb)); have n0_ := Aside0.mk (HB.out.trans (hb.mono HB.out.size)); clear HB; have HB := n0_; clear n0_ ho hb hc100 hC100) | (go_at_call 3; fail))
          refine (selvedgelaw18_NeutralResolves.calls k3 A100 c100 [a, 14, c] a a c true w100 HV100.out.2.1 HV100.out.1 HK.out.1).mono ?_
          rintro e w104 ⟨rfl, hB⟩
          have n0_ := Aside0.mk (HB.out.trans (hB.mono HB.out.size))
          clear HB hB HV100
          have HB := n0_
          clear n0_
          go_wp2_with (first | ((with_reducible refine gate_dst (N := 110) rfl ?_); refine gate_guard (by kernel_rfl) ?_; refine Kd.R_lit (Kd.int .u8) _ 23 ?hg (N := 110) ?hd (xs := ([14, a, c, 13] : List Int)) (inner := [.int .u8 14, .int .u8 a, .int .u8 c, .int .u8 13]) (ok := fun _ => True) (okp := fun _ => True) ?hr ?hp (fun _ hk => hk) trivial (Below.refl _ _) (Nat.le_refl _) (by simp) ?_; (case hd => rfl); (case hg => rfl); (case hr => (simp [execOp, Act.eval]; rw [lit4]; rfl)); (case hp => exact (Reps.one (show Kd.M (Kd.int .u8) _ _ _ 14 [.int .u8 14] from rfl) (Reps.one (show Kd.M (Kd.int .u8) _ _ _ a [.int .u8 a] from rfl) (Reps.one (show Kd.M (Kd.int .u8) _ _ _ c [.int .u8 c] from rfl) (Reps.one (show Kd.M (Kd.int .u8) _ _ _ 13 [.int .u8 13] from rfl) (Reps.none _ _)))))); intro v110 w110 ho hb hg_ hn_; clear hg_ hn_; obtain ⟨A110, c110, e110, hc110, hC110⟩ := Kd.R_reads ho; subst e110; have HV110 := Aside0.mk (And.intro hc110 (And.intro hC110 hb)); have n0_ := Aside0.mk (HB.out.trans (hb.mono HB.out.size)); clear HB; have HB := n0_; clear n0_ ho hb hc110 hC110) | (go_at_call 3; fail))
          refine (selvedgelaw18_NeutralResolves.calls k4 A110 c110 [14, a, c, 13] c 2 1 true w110 HV110.out.2.1 HV110.out.1 HK.out.2.1).mono ?_
          rintro e w114 ⟨rfl, hB⟩
          have n0_ := Aside0.mk (HB.out.trans (hB.mono HB.out.size))
          clear HB hB HV110
          have HB := n0_
          clear n0_
          go_wp2_with (first | ((with_reducible refine gate_dst (N := 120) rfl ?_); refine gate_guard (by kernel_rfl) ?_; refine Kd.R_lit (Kd.int .u8) _ 23 ?hg (N := 120) ?hd (xs := ([a, c] : List Int)) (inner := [.int .u8 a, .int .u8 c]) (ok := fun _ => True) (okp := fun _ => True) ?hr ?hp (fun _ hk => hk) trivial (Below.refl _ _) (Nat.le_refl _) (by simp) ?_; (case hd => rfl); (case hg => rfl); (case hr => (simp [execOp, Act.eval]; rw [lit2]; rfl)); (case hp => exact (Reps.one (show Kd.M (Kd.int .u8) _ _ _ a [.int .u8 a] from rfl) (Reps.one (show Kd.M (Kd.int .u8) _ _ _ c [.int .u8 c] from rfl) (Reps.none _ _)))); intro v120 w120 ho hb hg_ hn_; clear hg_ hn_; obtain ⟨A120, c120, e120, hc120, hC120⟩ := Kd.R_reads ho; subst e120; have HV120 := Aside0.mk (And.intro hc120 (And.intro hC120 hb)); have n0_ := Aside0.mk (HB.out.trans (hb.mono HB.out.size)); clear HB; have HB := n0_; clear n0_ ho hb hc120 hC120) | (go_at_call 4; fail))
          refine (selvedgelaw18_NeutralLevels.calls k5 A120 c120 [a, c] 0 true w120 HV120.out.2.1 HV120.out.1 HK.out.2.2.1).mono ?_
          rintro e w121 ⟨rfl, hB⟩
          have n0_ := Aside0.mk (HB.out.trans (hB.mono HB.out.size))
          clear HB hB HV120
          have HB := n0_
          clear n0_
          go_wp2_with (first | ((with_reducible refine gate_dst (N := 127) rfl ?_); refine gate_guard (by kernel_rfl) ?_; refine Kd.R_lit (Kd.int .u8) _ 23 ?hg (N := 127) ?hd (xs := ([a, c] : List Int)) (inner := [.int .u8 a, .int .u8 c]) (ok := fun _ => True) (okp := fun _ => True) ?hr ?hp (fun _ hk => hk) trivial (Below.refl _ _) (Nat.le_refl _) (by simp) ?_; (case hd => rfl); (case hg => rfl); (case hr => (simp [execOp, Act.eval]; rw [lit2]; rfl)); (case hp => exact (Reps.one (show Kd.M (Kd.int .u8) _ _ _ a [.int .u8 a] from rfl) (Reps.one (show Kd.M (Kd.int .u8) _ _ _ c [.int .u8 c] from rfl) (Reps.none _ _)))); intro v127 w127 ho hb hg_ hn_; clear hg_ hn_; obtain ⟨A127, c127, e127, hc127, hC127⟩ := Kd.R_reads ho; subst e127; have HV127 := Aside0.mk (And.intro hc127 (And.intro hC127 hb)); have n0_ := Aside0.mk (HB.out.trans (hb.mono HB.out.size)); clear HB; have HB := n0_; clear n0_ ho hb hc127 hC127) | (go_at_call 4; fail))
          refine (selvedgelaw18_NeutralLevels.calls k6 A127 c127 [a, c] 255 true w127 HV127.out.2.1 HV127.out.1 HK.out.2.2.2.1).mono ?_
          rintro e w128 ⟨rfl, hB⟩
          have n0_ := Aside0.mk (HB.out.trans (hB.mono HB.out.size))
          clear HB hB HV127
          have HB := n0_
          clear n0_
          go_wp2_with (first | ((with_reducible refine gate_dst (N := 136) rfl ?_); refine gate_guard (by kernel_rfl) ?_; refine Kd.R_lit (Kd.int .u8) _ 23 ?hg (N := 136) ?hd (xs := ([a, 14, 10, c] : List Int)) (inner := [.int .u8 a, .int .u8 14, .int .u8 10, .int .u8 c]) (ok := fun _ => True) (okp := fun _ => True) ?hr ?hp (fun _ hk => hk) trivial (Below.refl _ _) (Nat.le_refl _) (by simp) ?_; (case hd => rfl); (case hg => rfl); (case hr => (simp [execOp, Act.eval]; rw [lit4]; rfl)); (case hp => exact (Reps.one (show Kd.M (Kd.int .u8) _ _ _ a [.int .u8 a] from rfl) (Reps.one (show Kd.M (Kd.int .u8) _ _ _ 14 [.int .u8 14] from rfl) (Reps.one (show Kd.M (Kd.int .u8) _ _ _ 10 [.int .u8 10] from rfl) (Reps.one (show Kd.M (Kd.int .u8) _ _ _ c [.int .u8 c] from rfl) (Reps.none _ _)))))); intro v136 w136 ho hb hg_ hn_; clear hg_ hn_; obtain ⟨A136, c136, e136, hc136, hC136⟩ := Kd.R_reads ho; subst e136; have HV136 := Aside0.mk (And.intro hc136 (And.intro hC136 hb)); have n0_ := Aside0.mk (HB.out.trans (hb.mono HB.out.size)); clear HB; have HB := n0_; clear n0_ ho hb hc136 hC136) | (go_at_call 5; fail))
          refine (selvedgelaw18_NeutralEnds.calls k7 A136 c136 [a, 14, 10, c] 1 2 2 true w136 HV136.out.2.1 HV136.out.1 HK.out.2.2.2.2).mono ?_
          rintro e w139 ⟨rfl, hB⟩
          have n0_ := Aside0.mk (HB.out.trans (hB.mono HB.out.size))
          clear HB hB HV136
          have HB := n0_
          clear n0_
          go_wp2
          go_roundw
          case rel => exact ⟨c2, by have := HC4.out; omega, by have := HC4.out; omega, (by first | rfl | go_num), HB⟩
          case measure => have := HC4.out; simp [intOf]; omega
        · have blc : decide (c ≤ 24) = false := decide_eq_false hltc
          obtain ⟨a2, ha2⟩ : ∃ a2 : Int, (a + 1) % 256 = a2 := ⟨_, rfl⟩
          have ha3 : IntKind.u8.wrap (a + 1) = a2 := by rw [IntKind.wrap_u8]; exact ha2
          have ha4 : a2 = a + 1 := by omega
          have HA4 := Aside0.mk ha4
          clear ha4
          go_wp2
          go_roundw
          case rel => exact ⟨a2, by have := HA4.out; omega, by have := HA4.out; omega, (by first | rfl | go_num), HB⟩
          case measure => have := HA4.out; simp [intOf]; omega
    · have bl : decide (a ≤ 24) = false := decide_eq_false hlt
      go_wp2_with (go_at_call 9; fail)
      obtain ⟨k9, hk9⟩ := E.out A.works_ev
      refine (selvedgelaw18_works.calls k9 true _ hk9).mono ?_
      rintro e w86 ⟨rfl, hB86⟩
      have HB86 := Aside0.mk (HB.out.trans (hB86.mono HB.out.size))
      clear hB86 HB
      go_wp2
      go_ret
      exact ⟨rfl, HB86.out⟩
end Go.Proofs.Ytknfniggnobaaaa.X
