import Derived.Test.YtiogpnefnapfeaaDoorT3
import Derived.Test.YtiogpnefnapfeaaDoorT10
/-! pairs.Resolve: its walk. -/
namespace Go.Proofs.YtiogpnefnapfeaaDoor.X
open Go.RowKit Go.Proofs.YtiogpnefnapfeaaDoorW.PrintWords Go.Proofs.YtiogpnefnapfeaaDoorW.PrintLast Go.Proofs.YtiogpnefnapfeaaDoorW.PrintMore Go.Proofs.YtiogpnefnapfeaaDoor.Pure
set_option linter.unusedVariables false
set_option linter.unusedSimpArgs false
set_option maxRecDepth 100000
set_option maxHeartbeats 8000000
theorem RR.start {w w2 w3 : World} {A1 : Option Addr} {c1 : Nat} {first now : List Int} {sos : Int} {Av : Option Addr} {cv : Nat} (B2 : Below w.heap.size w w2) (x6 : w2.heap[w.heap.size]? = some (.cells #[.slice A1 first.length c1] 23 (0, 0))) (x9 : w2.heap[w.heap.size + 1]? = some (.cells #[.int .u8 sos] 33 (0, 0)))
    (hR : Kd.R (Kd.int .u8) 33 w3 w2.heap.size (fun _ => True) (.slice Av now.length cv) now) (hB : Below w2.heap.size w2 w3) :
    RR w ⟨A1, c1, first, w.heap.size, w.heap.size + 1, w3.heap.size, w3.heap.size + 1, w3.heap.size + 1 + 1, .slice Av now.length cv, 1, 2, sos⟩ now (((w3.alloc (.cells #[.slice Av now.length cv] 23)).alloc (.cells #[.int .u8 1] 33)).alloc (.cells #[.int .u8 2] 33)) := by
  have hl9 := blk_lt x9
  have hs := hB.size
  have s1 : (w3.alloc (.cells #[.slice Av now.length cv] 23)).heap.size = w3.heap.size + 1 := by simp
  have s2 : ((w3.alloc (.cells #[.slice Av now.length cv] 23)).alloc (.cells #[.int .u8 1] 33)).heap.size = w3.heap.size + 1 + 1 := by simp
  refine ⟨below_alloc (below_alloc (below_alloc (below_step B2 hB) _) _) _, blk_alloc (blk_alloc (blk_alloc (blk_below x6 hB) _) _) _, blk_alloc (blk_alloc (blk_alloc (blk_below x9 hB) _) _) _, blk_alloc (blk_alloc (heap_alloc_new _ _) _) _, ?_, ?_, ?_⟩
  · have := heap_alloc_new (w3.alloc (.cells #[.slice Av now.length cv] 23)) (.cells #[.int .u8 1] 33)
    rw [s1] at this
    exact blk_alloc this _
  · have := heap_alloc_new ((w3.alloc (.cells #[.slice Av now.length cv] 23)).alloc (.cells #[.int .u8 1] 33)) (.cells #[.int .u8 2] 33)
    rw [s2] at this
    exact this
  · refine Kd.R_alloc (Kd.R_alloc (Kd.R_alloc (Kd.R_lower (Kd.R_mono (Kd.R_bound hR) fun k hk => ?_) (by omega)) _) _) _
    dsimp only
    have h1 := hk.2.1
    have h2 := hk.2.2.1
    omega
/-- Both sides are exchanged. -/
theorem RR.swap {w : World} {A1 : Option Addr} {c1 : Nat} {first out : List Int} {g6 g9 g12 g13 g14 : Nat} {vo : Value} {m o sos : Int} {wr : World} (h : RR w ⟨A1, c1, first, g6, g9, g12, g13, g14, vo, m, o, sos⟩ out wr) (h13 : w.heap.size ≤ g13) (h14 : w.heap.size ≤ g14) (hne : g13 ≠ g14) (h9 : g9 ≠ g13 ∧ g9 ≠ g14) :
    RR w ⟨A1, c1, first, g6, g9, g12, g13, g14, vo, o, m, sos⟩ out ((wr.setCell ⟨g13, 0, none⟩ (.int .u8 o)).setCell ⟨g14, 0, none⟩ (.int .u8 m)) := by
  obtain ⟨a, b6, b9, b12, b13, b14, ou⟩ := h
  dsimp only at b6 b9 b12 b13 b14 ou
  have k : ∀ g, g ≠ g13 → g ≠ g14 → ∀ ob, wr.heap[g]? = some ob → ((wr.setCell ⟨g13, 0, none⟩ (.int .u8 o)).setCell ⟨g14, 0, none⟩ (.int .u8 m)).heap[g]? = some ob := by
    intro g q1 q2 ob hb
    rw [Below.heap_setCell _ _ _ _ q2, Below.heap_setCell _ _ _ _ q1]
    exact hb
  have t6 : g6 ≠ g13 ∧ g6 ≠ g14 := ⟨blk_ne b6 b13 (by decide), blk_ne b6 b14 (by decide)⟩
  have t12 : g12 ≠ g13 ∧ g12 ≠ g14 := ⟨blk_ne b12 b13 (by decide), blk_ne b12 b14 (by decide)⟩
  refine ⟨below_set (below_set a h13) h14, k _ t6.1 t6.2 _ b6, k _ h9.1 h9.2 _ b9, k _ t12.1 t12.2 _ b12, ?_, ?_, ?_⟩
  · rw [Below.heap_setCell _ _ _ _ (by exact hne)]
    exact blk_put b13 0 _ rfl
  · have : (wr.setCell ⟨g13, 0, none⟩ (.int .u8 o)).heap[g14]? = some (.cells #[.int .u8 o] 33 (0, 0)) := by
      rw [Below.heap_setCell _ _ _ _ (by exact Ne.symm hne)]
      exact b14
    exact blk_put this 0 _ rfl
  · have g1 : wr.grownBy (wr.setCell ⟨g13, 0, none⟩ (.int .u8 o)) (some g13) := ⟨rfl, rfl, rfl, by simp, fun k _ hk => Below.heap_setCell _ _ _ _ (fun e => hk (by rw [e]))⟩
    have g2 : (wr.setCell ⟨g13, 0, none⟩ (.int .u8 o)).grownBy ((wr.setCell ⟨g13, 0, none⟩ (.int .u8 o)).setCell ⟨g14, 0, none⟩ (.int .u8 m)) (some g14) := ⟨rfl, rfl, rfl, by simp, fun k _ hk => Below.heap_setCell _ _ _ _ (fun e => hk (by rw [e]))⟩
    exact Kd.R_grown (Kd.R_grown ou g1 (fun k hk => by simpa using hk.2.1)) g2 (fun k hk => by simpa using hk.2.2)
theorem and1_all : ∀ l : Fin 256, bits .and .u8 (l.val : Int) 1 = (l.val : Int) % 2 := by decide
theorem and1 (l : Int) (h : 0 ≤ l ∧ l ≤ 255) : bits .and .u8 l 1 = l % 2 := by
  obtain ⟨n, rfl⟩ := Int.eq_ofNat_of_zero_le h.1
  exact and1_all ⟨n, by omega⟩
theorem become_x {w wr : World} {X : Bx} {out : List Int} {g6 g12 : Nat} {m o sos : Int} (h : RR w X out wr) (e9 : X.g9 = g6 + 1) (e12 : X.g12 = g12) (e13 : X.g13 = g12 + 1) (e14 : X.g14 = g12 + 1 + 1) (em : X.mine = m) (eo : X.other = o) (es : X.sos = sos) (hl : out.length ≤ 65536) (x y : Nat) (hxy : x < y) (hy : y < out.length) (hm : m ≠ 0) (ho : o ≠ 0) :
    Calls Tryd.prog 23 #[.agg #[.int .i64 (x : Int), .int .i64 (y : Int)], .pointer (some ⟨g12, 0, none⟩), .pointer (some ⟨g12 + 1, 0, none⟩), .pointer (some ⟨g12 + 1 + 1, 0, none⟩), .pointer (some ⟨g6 + 1, 0, none⟩)] wr fun e w' => e = .returned (.int .u8 (becF out m o sos ((x : Int), (y : Int)))) ∧ Below wr.heap.size wr w' := by
  have := become_w h hl x y hxy hy (by rw [em]; exact hm) (by rw [eo]; exact ho)
  rw [e9, e12, e13, e14, em, eo, es] at this
  exact this
theorem set_x {w wr : World} {X : Bx} {out first : List Int} {g6 g12 : Nat} (h : RR w X out wr) (e6 : X.g6 = g6) (e12 : X.g12 = g12) (e1 : X.first = first) (hC : ∀ W', Below w.heap.size w W' → Kd.C (Kd.int .u8) W' X.A1 first.length first) (hc1 : first.length ≤ X.c1) (hf : first.length = out.length) (hl : out.length ≤ 65536) (a : Nat) (ha : a < out.length) (c : Int) :
    Calls Tryd.prog 22 #[.int .i64 (a : Int), .int .u8 c, .pointer (some ⟨g12, 0, none⟩), .pointer (some ⟨g6, 0, none⟩)] wr fun e w' => e = .returned (.tuple #[]) ∧ RR w X (setF first out a c) w' ∧ wr.grownBy w' X.vo.ownBlock := by
  subst e1
  have := set_w h hC hc1 hf hl a ha c
  rw [e6, e12] at this
  exact this
theorem res_limit (A0 : Option Addr) (c0 : Nat) (l : List Int) (A1 : Option Addr) (c1 : Nat) (first : List Int) (A2 : Option Addr) (c2 : Nat) (now : List Int) (level sos : Int) (w : World) (h0 : 65536 < l.length) :
    Calls Tryd.prog 11 #[.slice A0 l.length c0, .slice A1 first.length c1, .slice A2 now.length c2, .int .u8 level, .int .u8 sos] w fun e w' => e = .returned (.tuple #[.slice none 0 0, .int .i64 3]) ∧ Below w.heap.size w w' := by
  have d0 : decide (65536 < (l.length : Int)) = true := decide_eq_true (by omega)
  have B1 := Aside0.mk (below_alloc (below_alloc (Below.refl w.heap.size w) (.cells #[.slice A1 first.length c1] 23)) (.cells #[.int .u8 sos] 33))
  go_enter Tryd.func11, Tryd.ntmps11
  go_wp2
  go_ret2
  exact ⟨rfl, B1.out⟩
theorem res_arg (A0 : Option Addr) (c0 : Nat) (l : List Int) (A1 : Option Addr) (c1 : Nat) (first : List Int) (A2 : Option Addr) (c2 : Nat) (now : List Int) (level sos : Int) (w : World) (h0 : l.length ≤ 65536) (h1 : first.length ≠ l.length ∨ now.length ≠ l.length) :
    Calls Tryd.prog 11 #[.slice A0 l.length c0, .slice A1 first.length c1, .slice A2 now.length c2, .int .u8 level, .int .u8 sos] w fun e w' => e = .returned (.tuple #[.slice none 0 0, .int .i64 2]) ∧ Below w.heap.size w w' := by
  have d0 : decide (65536 < (l.length : Int)) = false := decide_eq_false (by omega)
  have B1 := Aside0.mk (below_alloc (below_alloc (Below.refl w.heap.size w) (.cells #[.slice A1 first.length c1] 23)) (.cells #[.int .u8 sos] 33))
  by_cases q : first.length = l.length
  · have q2 : now.length ≠ l.length := by rcases h1 with z | z; exact absurd q z; exact z
    have d1 : ((first.length : Int) != (l.length : Int)) = false := by rw [q]; simp
    have d2 : ((now.length : Int) != (l.length : Int)) = true := bne_iff_ne.mpr (by omega)
    have HQ := Aside0.mk q
    clear q q2 h1
    go_enter Tryd.func11, Tryd.ntmps11
    go_wp2
    go_ret2
    exact ⟨rfl, B1.out⟩
  · have d1 : ((first.length : Int) != (l.length : Int)) = true := bne_iff_ne.mpr (by omega)
    clear q h1
    go_enter Tryd.func11, Tryd.ntmps11
    go_wp2
    go_ret2
    exact ⟨rfl, B1.out⟩
theorem res_w (A0 : Option Addr) (c0 : Nat) (l : List Int) (A1 : Option Addr) (c1 : Nat) (first : List Int) (A2 : Option Addr) (c2 : Nat) (now : List Int) (level sos : Int) (w : World)
    (hr0 : Kd.C (Kd.int .i32) w A0 l.length l) (hc0 : l.length ≤ c0) (hr1 : Kd.C (Kd.int .u8) w A1 first.length first) (hc1 : first.length ≤ c1) (hr2 : Kd.C (Kd.int .u8) w A2 now.length now) (hc2 : now.length ≤ c2) (hT : Tabs w)
    (h0 : l.length ≤ 65536) (h1 : first.length = l.length) (h2 : now.length = l.length) (hlv : 0 ≤ level ∧ level ≤ 255) :
    Calls Tryd.prog 11 #[.slice A0 l.length c0, .slice A1 first.length c1, .slice A2 now.length c2, .int .u8 level, .int .u8 sos] w fun e w' => ∃ v0 : Value, e = .returned (.tuple #[v0, .int .i64 0]) ∧ Kd.R (Kd.int .u8) 33 w' w.heap.size (fun _ => True) v0 (resF l first now level sos) ∧ Below w.heap.size w w' := by
  have d0 : decide (65536 < (l.length : Int)) = false := decide_eq_false (by omega)
  have d1 : ((first.length : Int) != (l.length : Int)) = false := by rw [h1]; simp
  have d2 : ((now.length : Int) != (l.length : Int)) = false := by rw [h2]; simp
  obtain ⟨w2, hw2⟩ : ∃ w2, (w.alloc (.cells #[.slice A1 first.length c1] 23)).alloc (.cells #[.int .u8 sos] 33) = w2 := ⟨_, rfl⟩
  have B2 : Below w.heap.size w w2 := by rw [← hw2]; exact below_alloc (below_alloc (Below.refl _ _) _) _
  have x6 : w2.heap[w.heap.size]? = some (.cells #[.slice A1 first.length c1] 23 (0, 0)) := by rw [← hw2]; exact blk_alloc (heap_alloc_new w _) _
  have x9 : w2.heap[w.heap.size + 1]? = some (.cells #[.int .u8 sos] 33 (0, 0)) := by rw [← hw2]; have := heap_alloc_new (w.alloc (.cells #[.slice A1 first.length c1] 23)) (.cells #[.int .u8 sos] 33); rwa [show (w.alloc (.cells #[.slice A1 first.length c1] 23)).heap.size = w.heap.size + 1 by simp] at this
  have HA := Aside0.mk (And.intro hr0 (And.intro hc0 (And.intro hr1 (And.intro hc1 (And.intro hr2 hc2)))))
  have HH := Aside0.mk (And.intro h0 (And.intro h1 h2))
  have HT := Aside0.mk hT
  have HLV := Aside0.mk hlv
  have HX := Aside0.mk (And.intro B2 (And.intro x6 x9))
  have y6 : w2.cell? ⟨w.heap.size, 0, none⟩ = some (.slice A1 first.length c1) := (blk_cell x6 0).trans rfl
  clear hr0 hc0 hr1 hc1 hr2 hc2 hT h0 h1 h2 hlv B2 x6 x9
  go_enter Tryd.func11, Tryd.ntmps11
  go_upto_region 5 with (fail)
  clear hw2 y6 d0 d1 d2
  obtain ⟨g6, hg6⟩ : ∃ g, w.heap.size = g := ⟨_, rfl⟩
  rw [hg6]
  have HG := Aside0.mk hg6
  rw [hg6] at HX
  clear hg6
  go_upto_region 6 with (go_at_call 21; refine (clone_w A2 c2 now w2 (Kd.C_below HA.out.2.2.2.2.1 (HG.out ▸ HX.out.1)) HA.out.2.2.2.2.2 (by have := HH.out; omega)).mono ?_; rintro e w3 ⟨vo, rfl, hRv, hBv⟩; obtain ⟨Av, cv, ev⟩ := Kd.R_slice hRv; subst ev; have HC := Aside0.mk (And.intro hRv hBv); clear hRv hBv)
  go_upto_region 7 with (fail)
  have HR0 := Aside0.mk (RR.start (HG.out ▸ HX.out.1) (by rw [HG.out]; exact HX.out.2.1) (by rw [HG.out]; exact HX.out.2.2) HC.out.1 HC.out.2)
  rw [HG.out] at HR0
  obtain ⟨w4, hw4⟩ : ∃ w4, ((w3.alloc (.cells #[.slice Av now.length cv] 23)).alloc (.cells #[.int .u8 1] 33)).alloc (.cells #[.int .u8 2] 33) = w4 := ⟨_, rfl⟩
  rw [hw4] at HR0 ⊢
  clear hw4
  obtain ⟨g12, h12⟩ : ∃ g, w3.heap.size = g := ⟨_, rfl⟩
  rw [h12] at HR0 ⊢
  have H12 := Aside0.mk (show g6 + 1 < g12 by have h1 := blk_lt HX.out.2.2; have h2 := HC.out.2.size; omega)
  clear h12
  have y13 : w4.cell? ⟨g12 + 1, 0, none⟩ = some (.int .u8 1) := (blk_cell HR0.out.b13 0).trans rfl
  have y14 : w4.cell? ⟨g12 + 1 + 1, 0, none⟩ = some (.int .u8 2) := (blk_cell HR0.out.b14 0).trans rfl
  have f13 : w4.frozen? ⟨g12 + 1, 0, none⟩ = false := blk_frozen HR0.out.b13 0
  have f14 : w4.frozen? ⟨g12 + 1 + 1, 0, none⟩ = false := blk_frozen HR0.out.b14 0
  go_upto_if 41 with (fail)
  rw [and1 level HLV.out]
  have H13 := Aside0.mk (And.intro y13 (And.intro y14 (And.intro f13 f14)))
  clear y13 y14 f13 f14
  go_cut [42, 43] (fun _ _ wc => Aside0 (RR w ⟨A1, c1, first, g6, g6 + 1, g12, g12 + 1, g12 + 1 + 1, .slice Av now.length cv, mineF level, otherF level, sos⟩ now wc))
  case first =>
    obtain ⟨y13, y14, f13, f14⟩ := H13.out
    by_cases q : level % 2 = 1
    · have e1 : (level % 2 == 1) = true := beq_iff_eq.mpr q
      rw [e1]
      have y14' : (w4.setCell ⟨g12 + 1, 0, none⟩ (.int .u8 2)).cell? ⟨g12 + 1 + 1, 0, none⟩ = some (.int .u8 2) := by
        have hb := HR0.out.b14
        dsimp only at hb
        have : (w4.setCell ⟨g12 + 1, 0, none⟩ (.int .u8 2)).heap[g12 + 1 + 1]? = some (.cells #[.int .u8 2] 33 (0, 0)) := by
          rw [Below.heap_setCell _ _ _ _ (by show g12 + 1 + 1 ≠ g12 + 1; omega)]
          exact hb
        exact (blk_cell this 0).trans rfl
      have HQ := Aside0.mk q
      clear q
      go_wp2
      go_meet
      case rel =>
        have em : mineF level = 2 := if_pos HQ.out
        have eo : otherF level = 1 := if_pos HQ.out
        rw [em, eo]
        have hg := HG.out
        have h12 := H12.out
        exact ⟨HR0.out.swap (by omega) (by omega) (by omega) (by omega)⟩
    · have e1 : (level % 2 == 1) = false := beq_eq_false_iff_ne.mpr q
      rw [e1]
      have HQ := Aside0.mk q
      clear q
      go_wp2
      go_meet
      case rel =>
        have em : mineF level = 1 := if_neg HQ.out
        have eo : otherF level = 2 := if_neg HQ.out
        rw [em, eo]
        exact HR0
  case rest =>
    have HRR := hcut
    clear hcut HR0 H13 HC HX
    obtain ⟨X, hX⟩ : ∃ X : Bx, (⟨A1, c1, first, g6, g6 + 1, g12, g12 + 1, g12 + 1 + 1, .slice Av now.length cv, mineF level, otherF level, sos⟩ : Bx) = X := ⟨_, rfl⟩
    have HXE := Aside0.mk hX
    rw [hX] at HRR
    clear hX
    go_upto_region 12 with (go_at_call 9; refine (pairs_w A0 c0 l A2 c2 now wc (Kd.C_below HA.out.1 HRR.out.be) HA.out.2.1 (Kd.C_below HA.out.2.2.2.2.1 HRR.out.be) HA.out.2.2.2.2.2 (HT.out.below HRR.out.be) HH.out.1).mono ?_; rintro e w5 ⟨vp, ps, rfl, hps, hRp, hBp⟩; obtain ⟨Ap, cp, ep⟩ := Kd.R_slice hRp; subst ep; have HP := Aside0.mk (And.intro hps (And.intro (Kd.R_lower hRp HRR.out.be.size) (HRR.out.step hBp))); clear hps hRp hBp)
    have hF : X.g6 = g6 ∧ X.g9 = g6 + 1 ∧ X.g12 = g12 ∧ X.g13 = g12 + 1 ∧ X.g14 = g12 + 1 + 1 ∧ X.mine = mineF level ∧ X.other = otherF level ∧ X.sos = sos ∧ X.first = first ∧ X.A1 = A1 ∧ X.c1 = c1 ∧ X.vo = .slice Av now.length cv := by rw [← HXE.out]; exact ⟨rfl, rfl, rfl, rfl, rfl, rfl, rfl, rfl, rfl, rfl, rfl, rfl⟩
    have HF := Aside0.mk hF
    clear hF HRR
    have hpl : ps.length ≤ 65536 := by
      have h1 := congrArg List.length HP.out.1
      rw [List.length_map] at h1
      have h2 := pairsF_len l now
      have h3 := HH.out.1
      omega
    go_loopw [50] (fun v50 wr => ∃ (i : Nat) (out : List Int), i ≤ ps.length ∧ v50 = .int .i64 (i : Int) ∧ Aside0 (RR w X out wr ∧ Kd.R k30 30 wr w.heap.size (fun _ => True) (.slice Ap ps.length cp) ps ∧ out.length = now.length ∧ ((pairsF l now).drop i).foldl (stepF first (mineF level) (otherF level) sos) out = resF l first now level sos)) (fun v50 _ => ps.length - (intOf v50).toNat)
    case atStart => exact ⟨0, now, Nat.zero_le _, rfl, ⟨HP.out.2.2, HP.out.2.1, rfl, rfl⟩⟩
    case round =>
      obtain ⟨i, out, hi, rfl, HO⟩ := hrel
      by_cases hlt : i < ps.length
      · have dl : decide ((i : Int) < (ps.length : Int)) = true := decide_eq_true (by omega)
        have p0 : (0 ≤ (i : Int)) = True := eq_true (by omega)
        have p1 : ((i : Int) < (ps.length : Int)) = True := eq_true (by omega)
        have p2 : (i < ps.length) = True := eq_true hlt
        have hib : i ≤ 65535 := by omega
        obtain ⟨ad, ea, y0, y1⟩ := at_T30 (Kd.R_reads' HO.out.2.1).2.2 (i : Int) (by omega) (by omega)
        subst ea
        obtain ⟨s, hs⟩ : ∃ s, rd_T30 ps (i : Int) = s := ⟨_, rfl⟩
        rw [hs] at y0 y1
        have hps : ps[i]? = some s := by
          rw [List.getElem?_eq_getElem hlt, ← hs]
          unfold rd_T30
          rw [Int.toNat_natCast, List.getD_eq_getElem?_getD, List.getElem?_eq_getElem hlt]
          rfl
        have hpi : (pairsF l now)[i]? = some (toP s) := by rw [← HP.out.1, List.getElem?_map, hps]; rfl
        have hmem := (mem_pairsF _).1 (List.mem_of_getElem? hpi)
        have hg := goF_mem hmem
        obtain ⟨x, hx⟩ := Int.eq_ofNat_of_zero_le hg.1.nn
        obtain ⟨y, hy⟩ := Int.eq_ofNat_of_zero_le (Int.le_trans hg.1.nn (Int.le_of_lt hg.1.lt))
        have hxy := hg.1.lt
        have hyl := hg.2.2
        rw [hx, hy] at hxy
        rw [hy] at hyl
        have ex : s.f0 = (x : Int) := hx
        have ey : s.f1 = (y : Int) := hy
        have ets : toP s = ((x : Int), (y : Int)) := by unfold toP; rw [ex, ey]
        rw [ex, Int.toNat_natCast] at y0
        rw [ey, Int.toNat_natCast] at y1
        have hfd : ((pairsF l now).drop (i + 1)).foldl (stepF first (mineF level) (otherF level) sos) (stepF first (mineF level) (otherF level) sos out ((x : Int), (y : Int))) = resF l first now level sos := by
          rw [← HO.out.2.2.2]
          have hil : i < (pairsF l now).length := (List.getElem?_eq_some_iff.mp hpi).1
          have h1 : (pairsF l now).drop i = ((x : Int), (y : Int)) :: (pairsF l now).drop (i + 1) := by
            rw [List.drop_eq_getElem_cons hil, (List.getElem?_eq_some_iff.mp hpi).2, ets]
          rw [h1, List.foldl_cons]
        have HI := Aside0.mk (And.intro hlt (And.intro (show x < y by omega) (show y < now.length by omega)))
        have HFD := Aside0.mk hfd
        clear hs hps hpi hmem hg hx hy hxy hyl ex ey ets hfd hlt hi
        go_upto_region 14 with (fail)
        obtain ⟨w6, hw6⟩ : ∃ w6, wr.alloc (.cells #[.int .i64 (x : Int), .int .i64 (y : Int)] 30) = w6 := ⟨_, rfl⟩
        have hb6 : Below wr.heap.size wr w6 := by rw [← hw6]; exact below_alloc (Below.refl _ _) _
        have hbx : w6.heap[wr.heap.size]? = some (.cells #[.int .i64 (x : Int), .int .i64 (y : Int)] 30 (0, 0)) := by rw [← hw6]; exact heap_alloc_new wr _
        rw [hw6]
        have H6 := Aside0.mk (And.intro (HO.out.1.step hb6) (And.intro (Kd.R_below HO.out.2.1 hb6) hbx))
        have HLN := Aside0.mk (And.intro HO.out.2.2.1 (show out.length ≤ 65536 by have := HO.out.2.2.1; have := HH.out; omega))
        obtain ⟨gb, hgb⟩ : ∃ g, wr.heap.size = g := ⟨_, rfl⟩
        rw [hgb] at H6 ⊢
        clear hw6 hb6 hbx y0 y1 HO hgb
        have z0 : w6.cell? ⟨gb, 0, none⟩ = some (.int .i64 (x : Int)) := (blk_cell H6.out.2.2 0).trans rfl
        have z1 : w6.cell? ⟨gb, 1, none⟩ = some (.int .i64 (y : Int)) := (blk_cell H6.out.2.2 1).trans rfl
        obtain ⟨bc, hbc⟩ : ∃ bc, becF out (mineF level) (otherF level) sos ((x : Int), (y : Int)) = bc := ⟨_, rfl⟩
        have hm0 : mineF level ≠ 0 := by rcases mineF_or level with z | z <;> omega
        have ho0 : otherF level ≠ 0 := by rcases otherF_or level with z | z <;> omega
        have hcall := become_x H6.out.1 HF.out.2.1 HF.out.2.2.1 HF.out.2.2.2.1 HF.out.2.2.2.2.1 HF.out.2.2.2.2.2.1 HF.out.2.2.2.2.2.2.1 HF.out.2.2.2.2.2.2.2.1 HLN.out.2 x y HI.out.2.1 (by have := HI.out; have := HLN.out; omega) hm0 ho0
        rw [hbc] at hcall
        have HBC := Aside0.mk hbc
        have HCALL := Aside0.mk hcall
        clear hcall hm0 ho0 hbc
        go_upto_region 15 with (go_at_call 23; refine (HCALL.out).mono ?_; rintro e w7 ⟨rfl, hB7⟩; have H7 := Aside0.mk (And.intro (H6.out.1.step hB7) (And.intro (Kd.R_below H6.out.2.1 hB7) (blk_below H6.out.2.2 hB7))); clear hB7)
        clear z0 z1 HCALL H6
        by_cases q : bc = 0
        · have e0 : (bc != 0) = false := by rw [q]; rfl
          have HQ := Aside0.mk q
          clear q
          go_wp2
          go_roundw
          case measure => have := HI.out; (try simp [intOf]); (try omega)
          case rel =>
            refine ⟨i + 1, out, by have := HI.out; omega, (by first | rfl | go_num), ⟨H7.out.1, H7.out.2.1, HLN.out.1, ?_⟩⟩
            have := HFD.out
            unfold stepF at this
            rw [HBC.out, if_neg (by simpa using HQ.out)] at this
            exact this
        · have e0 : (bc != 0) = true := bne_iff_ne.mpr q
          have HQ := Aside0.mk q
          clear q
          have z0 : w7.cell? ⟨gb, 0, none⟩ = some (.int .i64 (x : Int)) := (blk_cell H7.out.2.2 0).trans rfl
          have hC : ∀ W', Below w.heap.size w W' → Kd.C (Kd.int .u8) W' X.A1 first.length first := by
            intro W' hb
            rw [HF.out.2.2.2.2.2.2.2.2.2.1]
            exact Kd.C_below HA.out.2.2.1 hb
          have hc1 : first.length ≤ X.c1 := by
            rw [HF.out.2.2.2.2.2.2.2.2.2.2.1]
            exact HA.out.2.2.2.1
          have hfl : first.length = out.length := by have := HLN.out; have := HH.out; omega
          have hs1 := set_x H7.out.1 HF.out.1 HF.out.2.2.1 HF.out.2.2.2.2.2.2.2.2.1 hC hc1 hfl HLN.out.2 x (by have := HI.out; have := HLN.out; omega) bc
          have HS1 := Aside0.mk hs1
          have HCC := Aside0.mk (And.intro hC (And.intro hc1 hfl))
          clear hs1 hC hc1 hfl
          go_upto_region 17 with (go_at_call 22; refine (HS1.out).mono ?_; rintro e w8 ⟨rfl, hr8, hg8⟩; have H8 := Aside0.mk (And.intro hr8 (And.intro (Kd.R_over' H7.out.2.1 (Kd.R_typed H7.out.1.ou) (by decide) hg8) (blk_grown H7.out.2.2 hg8 (fun e => by obtain ⟨cs, hcs⟩ := Kd.R_typed H7.out.1.ou gb e.symm; exact blk_ne H7.out.2.2 hcs (by decide) rfl)))); clear hr8 hg8)
          clear z0 HS1 H7
          have z1 : w8.cell? ⟨gb, 1, none⟩ = some (.int .i64 (y : Int)) := (blk_cell H8.out.2.2 1).trans rfl
          have hs2 := set_x H8.out.1 HF.out.1 HF.out.2.2.1 HF.out.2.2.2.2.2.2.2.2.1 HCC.out.1 HCC.out.2.1 (by rw [setF_len]; exact HCC.out.2.2) (by rw [setF_len]; exact HLN.out.2) y (by rw [setF_len]; have := HI.out; have := HLN.out; omega) bc
          have HS2 := Aside0.mk hs2
          clear hs2
          go_wp2_with (go_at_call 22; refine (HS2.out).mono ?_; rintro e w9 ⟨rfl, hr9, hg9⟩; have H9 := Aside0.mk (And.intro hr9 (Kd.R_over' H8.out.2.1 (Kd.R_typed H8.out.1.ou) (by decide) hg9)); clear hr9 hg9)
          go_roundw
          case measure => have := HI.out; (try simp [intOf]); (try omega)
          case rel =>
            refine ⟨i + 1, setF first (setF first out x bc) y bc, by have := HI.out; omega, (by first | rfl | go_num), ⟨H9.out.1, H9.out.2, by rw [setF_len, setF_len]; exact HLN.out.1, ?_⟩⟩
            have := HFD.out
            unfold stepF at this
            rw [HBC.out, if_pos HQ.out] at this
            exact this
      · have dl : decide ((i : Int) < (ps.length : Int)) = false := decide_eq_false (by omega)
        obtain rfl : i = ps.length := by omega
        have y12 : wr.cell? ⟨g12, 0, none⟩ = some (.slice Av now.length cv) := by
          have := (blk_cell HO.out.1.b12 0).trans rfl
          rw [HF.out.2.2.1, HF.out.2.2.2.2.2.2.2.2.2.2.2] at this
          exact this
        clear hlt hi
        go_wp2
        go_ret2
        have hd : (pairsF l now).drop ps.length = [] := by
          have h1 := congrArg List.length HP.out.1
          rw [List.length_map] at h1
          exact List.drop_eq_nil_of_le (by omega)
        have hq := HO.out.2.2.2
        rw [hd] at hq
        have hou := HO.out.1.ou
        rw [HF.out.2.2.2.2.2.2.2.2.2.2.2] at hou
        exact ⟨_, rfl, by rw [← hq]; exact Kd.R_mono hou (fun _ _ => trivial), HO.out.1.be⟩
def pairs_Resolve.f (l0 : List Int) (l1 : List Int) (l2 : List Int) (a3 : Int) (a4 : Int) : Option (List Int × Int) := if 0 ≤ a3 ∧ a3 ≤ 255 then some (resolveF l0 l1 l2 a3 a4) else none
theorem pairs_Resolve.calls (A0 : Option Addr) (c0 : Nat) (l0 : List Int) (A1 : Option Addr) (c1 : Nat) (l1 : List Int) (A2 : Option Addr) (c2 : Nat) (l2 : List Int) (a3 : Int) (a4 : Int) (r1 : List Int) (r2 : Int) (w : World) (hr0 : Kd.C (Kd.int .i32) w A0 l0.length l0) (hc0 : l0.length ≤ c0) (hr1 : Kd.C (Kd.int .u8) w A1 l1.length l1) (hc1 : l1.length ≤ c1) (hr2 : Kd.C (Kd.int .u8) w A2 l2.length l2) (hc2 : l2.length ≤ c2) (h : pairs_Resolve.f l0 l1 l2 a3 a4 = some (r1, r2)) (hT : Tabs w) :
  Calls Tryd.prog 11 #[.slice A0 l0.length c0, .slice A1 l1.length c1, .slice A2 l2.length c2, .int .u8 a3, .int .u8 a4] w fun e w' => ∃ v0_ : Value, e = .returned (.tuple #[v0_, .int .i64 r2]) ∧ Kd.R (Kd.int .u8) 33 w' w.heap.size (fun _ => True) v0_ r1 ∧ Below w.heap.size w w' := by
  unfold pairs_Resolve.f at h
  split at h
  · next hlv =>
    injection h with h
    unfold resolveF at h
    split at h
    · next q =>
      injection h with e1 e2
      subst e1; subst e2
      refine (res_limit A0 c0 l0 A1 c1 l1 A2 c2 l2 a3 a4 w q).mono ?_
      rintro e w' ⟨rfl, hB⟩
      exact ⟨_, rfl, Kd.R_nil _ _ _ _ _, hB⟩
    · next q =>
      split at h
      · next q2 =>
        injection h with e1 e2
        subst e1; subst e2
        refine (res_arg A0 c0 l0 A1 c1 l1 A2 c2 l2 a3 a4 w (by omega) q2).mono ?_
        rintro e w' ⟨rfl, hB⟩
        exact ⟨_, rfl, Kd.R_nil _ _ _ _ _, hB⟩
      · next q2 =>
        injection h with e1 e2
        subst e1; subst e2
        exact res_w A0 c0 l0 A1 c1 l1 A2 c2 l2 a3 a4 w hr0 hc0 hr1 hc1 hr2 hc2 hT (by omega) (by omega) (by omega) hlv
  · cases h
end Go.Proofs.YtiogpnefnapfeaaDoor.X
