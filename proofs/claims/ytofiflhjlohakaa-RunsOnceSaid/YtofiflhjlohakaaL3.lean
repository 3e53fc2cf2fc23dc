import Derived.Test.YtofiflhjlohakaaL2
/-! selvedgeref14.Levels: what holds in a round. -/
namespace Go.Proofs.Ytofiflhjlohakaa.X
open Go.RowKit Go.Proofs.YtofiflhjlohakaaW.PrintWords Go.Proofs.YtofiflhjlohakaaW.PrintLast Go.Proofs.YtofiflhjlohakaaW.PrintMore
attribute [local go_sem] max2_int min2_int max_two min_two max_three min_three max_four min_four
set_option linter.unusedVariables false
set_option linter.unusedSimpArgs false
structure LwK (w : World) (l : List Int) (gl gc g : Nat) (Am : Option Addr) (cm : Nat) (a : Sk) (xs1 xs2 : List Int) (wr : World) : Prop where
  r1 : RwB wr gl 5 xs1
  r2 : RwB wr gc 34 xs2
  st : HoldR w.heap.size wr g a
  mt : Kd.R (Kd.int .i64) 3 wr w.heap.size (fun _ => True) (.slice Am (mtOf l).length cm) (mtOf l)
  bl : Below w.heap.size w wr
theorem HoldR.far {B : Nat} {W : World} {g : Nat} {a : Sk} (h : HoldR B W g a) {p t : Nat} {C : Array Value} (hp : W.heap[p]? = some (.cells C t (0, 0))) (h1 : t ≠ 65) (h2 : t ≠ 68) (i : Nat) (v : Value) : HoldR B (W.setCell ⟨p, i, none⟩ v) g a := by
  obtain ⟨h0, gr, cap, cur, k1, k2, k3, k4⟩ := h
  exact ⟨h0, gr, cap, cur, blk_far k1 (blk_ne k1 hp (fun e => h2 e.symm)) _, k2, blk_far k3 (blk_ne k3 hp (fun e => h1 e.symm)) _, k4⟩
section
variable {w : World} {l : List Int} {gl gc g g' : Nat} {Am : Option Addr} {cm : Nat} {a a1 : Sk} {xs1 xs2 : List Int} {wr w1 : World}
theorem LwK.fr (h : LwK w l gl gc g Am cm a xs1 xs2 wr) (hF : Fr w.heap.size wr w1) (hs : HoldR w.heap.size w1 g' a1) : LwK w l gl gc g' Am cm a1 xs1 xs2 w1 := by
  refine ⟨(hF.kept _ (blk_lt h.r1) (.inr ⟨_, _, h.r1, by decide, by decide⟩)).trans h.r1, (hF.kept _ (blk_lt h.r2) (.inr ⟨_, _, h.r2, by decide, by decide⟩)).trans h.r2, hs, ?_, ?_⟩
  · refine Kd.R_mono (Kd.R_move (Kd.R_bound h.mt) (fun k hk => hF.kept k hk.2.2.1 (.inr ?_))) (fun _ _ => trivial)
    obtain ⟨_, _, _, q, hq, cells, hc⟩ := hk
    have : q = 3 := by simpa [Kd.int, Kd.scalar] using hq
    subst this
    exact ⟨cells, 3, hc, by decide, by decide⟩
  · exact ⟨hF.os.trans h.bl.os, hF.tape.trans h.bl.tape, hF.output.trans h.bl.output, Nat.le_trans h.bl.size hF.size, fun k hk => (hF.kept k (Nat.lt_of_lt_of_le hk h.bl.size) (.inl hk)).trans (h.bl.block k hk)⟩
theorem LwK.below (h : LwK w l gl gc g Am cm a xs1 xs2 wr) (hb : Below wr.heap.size wr w1) : LwK w l gl gc g Am cm a xs1 xs2 w1 := h.fr (Fr.below hb) (h.st.below hb)
theorem LwK.drawn (h : LwK w l gl gc g Am cm a xs1 xs2 wr) (n : Nat) : LwK w l gl gc g Am cm a xs1 xs2 (wr.drewN n) := h.below (pw_below_drewN (Below.refl _ _) n)
theorem LwK.set1 (h : LwK w l gl gc g Am cm a xs1 xs2 wr) (hG : w.heap.size ≤ gl) (i v : Int) : LwK w l gl gc g Am cm a (xs1.set i.toNat v) xs2 (wr.setCell ⟨gl, i.toNat, none⟩ (.int .u8 v)) := by
  have n2 := blk_ne h.r1 h.r2 (by decide)
  exact ⟨h.r1.set i v, h.r2.far (fun e => n2 e.symm) _, h.st.far h.r1 (by decide) (by decide) _ _, Kd.R_set h.mt h.r1 (by decide) _ _, below_set h.bl hG⟩
theorem LwK.set2 (h : LwK w l gl gc g Am cm a xs1 xs2 wr) (hG : w.heap.size ≤ gc) (i v : Int) : LwK w l gl gc g Am cm a xs1 (xs2.set i.toNat v) (wr.setCell ⟨gc, i.toNat, none⟩ (.int .u8 v)) := by
  have n2 := blk_ne h.r1 h.r2 (by decide)
  exact ⟨h.r1.far n2 _, h.r2.set i v, h.st.far h.r2 (by decide) (by decide) _ _, Kd.R_set h.mt h.r2 (by decide) _ _, below_set h.bl hG⟩
end
/-- A state that has just been made. -/
theorem HoldR.new (B : Nat) (w : World) (hB : B ≤ w.heap.size) (base : Int) : HoldR B ((w.alloc (.cells #[.int .u8 base, .int .u8 0, .bool false] 65)).alloc (.cells #[.slice (some ⟨w.heap.size, 0, none⟩) 1 1, .int .i64 0, .int .i64 0, .int .i64 0] 68)) (w.heap.size + 1) (newA base) :=
  ⟨by omega, w.heap.size, 1, _, heap_alloc2_new w _ _, hB, heap_alloc2_old w _ _, Nat.le_refl 1, by decide, rfl, rfl, rfl, rfl, trivial⟩
theorem st_ne (base : Int) (a : Sk) (c : Int) (h : c ≠ 11) : stA base a c = if c = 23 then pdiA a else a := by
  unfold stA
  by_cases q : c = 23
  · rw [if_pos q, if_pos q]
  · rw [if_neg q, if_neg q, if_neg h]
theorem take_new (base : Int) (a : Sk) (d : Int) : takeA (stA base a 11) 11 d = newA base := rfl
theorem ref_removed_f (c : Int) : selvedgeref14_Removed.f c = some (remC c) := by
  unfold selvedgeref14_Removed.f remC
  by_cases q1 : c = 15
  · rw [if_pos q1, decide_eq_true (by omega)]; rfl
  · rw [if_neg q1]
    by_cases q2 : c = 16
    · rw [if_pos q2, decide_eq_true (by omega)]; rfl
    · rw [if_neg q2]
      by_cases q3 : c = 17
      · rw [if_pos q3, decide_eq_true (by omega)]; rfl
      · rw [if_neg q3]
        by_cases q4 : c = 18
        · rw [if_pos q4, decide_eq_true (by omega)]; rfl
        · rw [if_neg q4]
          by_cases q5 : c = 19
          · rw [if_pos q5, decide_eq_true (by omega)]; rfl
          · rw [if_neg q5, decide_eq_false (by omega)]
            simp only [Bool.false_or]
            congr 1
set_option maxHeartbeats 4000000 in
set_option maxRecDepth 100000 in
theorem rlevels_ok (A0 : Option Addr) (c0 : Nat) (l : List Int) (base : Int) (w : World) (hr0 : Kd.C (Kd.int .u8) w A0 l.length l) (hc0 : l.length ≤ c0) (hn : l.length ≤ 65536) (hv : l.all okC = true) (hb0 : 0 ≤ base) (hb1 : base ≤ 1) (arg : Int) (kb : Nat) (harg : arg = base ∨ (arg = 2 ∧ selvedgeref14_Base.f kb l = some base)) :
    Calls Try.prog 12 #[.slice A0 l.length c0, .int .u8 arg] w (LvPost w ((runL base l (newA base) base).map (·.1), (runL base l (newA base) base).map (·.2), base, 0)) := by
  have HR0 := Aside0.mk (And.intro hr0 hc0)
  have HV := Aside0.mk hv
  have b1 : decide (65536 < (l.length : Int)) = false := decide_eq_false (by omega)
  have b2 : decide (2 < arg) = false := decide_eq_false (by omega)
  have HARG := Aside0.mk harg
  have hmax : (l.length : Int) ≤ 9223372036854775807 := by omega
  clear hr0 hc0 hv harg
  go_enter Try.func12, Try.ntmps12
  go_wp2
  go_loop [8] (fun v8 => ∃ i : Int, 0 ≤ i ∧ i ≤ (l.length : Int) ∧ v8 = .int .i64 i) (fun v8 => l.length - (intOf v8).toNat)
  case atStart => exact ⟨0, by omega, by omega, rfl⟩
  case round =>
    obtain ⟨i, hi0, hi1, rfl⟩ := hrel
    by_cases hlt : i < (l.length : Int)
    · have bl : decide (i < (l.length : Int)) = true := decide_eq_true hlt
      obtain ⟨ad, rfl, hx⟩ := Kd.at_int HR0.out.1 i hi0 hlt
      have hv := all_take hi0 hlt HV.out
      have q1 : decide (rd l i < 1) = false := decide_eq_false (by omega)
      have q2 : decide (23 < rd l i) = false := decide_eq_false (by omega)
      clear hv
      go_wp2
      go_round
      case rel => exact ⟨i + 1, by omega, by omega, by go_num⟩
      case measure => simp [intOf]; omega
    · have bl : decide (i < (l.length : Int)) = false := decide_eq_false hlt
      obtain rfl : i = (l.length : Int) := by omega
      have hm29 := fun W => run_make_row' (P := Try.prog) 23 5 (.int .u8 0) 1 Try.underlying23 info5' rfl .i64 .i64 l.length (by omega) (by omega) W
      have hm22 := fun W => run_make_row' (P := Try.prog) 22 34 (.int .u8 0) 1 Try.underlying22 info34 rfl .i64 .i64 l.length (by omega) (by omega) W
      go_upto_if 41 with (fail)
      go_cut [1] (fun v1 wx => v1 = .int .u8 base ∧ Aside0 (Below w.heap.size w wx))
      case first =>
        by_cases q1 : arg = 2
        · have b3 : (arg == 2) = true := beq_iff_eq.2 q1
          have HBs : Aside0 (selvedgeref14_Base.f kb l = some base) := ⟨HARG.out.elim (fun h => by omega) (fun h => h.2)⟩
          clear q1
          go_wp2_with (go_at_call 26; refine (selvedgeref14_Base.calls kb A0 c0 l base _ HR0.out.1 HR0.out.2 HBs.out).mono ?_; rintro e w0 ⟨rfl, hb⟩; have HB0 := Aside0.mk hb; clear hb)
          go_meet
          case rel => exact ⟨rfl, HB0⟩
        · have b3 : (arg == 2) = false := beq_eq_false_iff_ne.2 q1
          have HBs : Aside0 (arg = base) := ⟨HARG.out.elim id (fun h => absurd h.1 q1)⟩
          clear q1
          go_wp2
          go_meet
          case rel => exact ⟨by rw [HBs.out], ⟨Below.refl _ _⟩⟩
      obtain ⟨rfl, HBx⟩ := hcut
      obtain ⟨km, hkm⟩ : ∃ k, selvedgeref14_Match.f k l = some (mtOf l) := E.out (ref14_Match_ev l (by omega))
      have HK := Aside0.mk hkm
      clear hkm
      go_upto_region 13 with (go_at_call 13; refine (selvedgeref14_Match.calls km A0 c0 l (mtOf l) _ (Kd.C_below HR0.out.1 HBx.out) HR0.out.2 HK.out).mono ?_; rintro e wq ⟨v1, rfl, ho, hb⟩; obtain ⟨Am, cm, rfl⟩ := Kd.R_slice ho; have HW1 := Aside0.mk (And.intro (Kd.R_lower ho HBx.out.size) (below_step HBx.out hb)); clear ho hb)
      go_cut [10, 11] (fun v10 v11 wc => ∃ gl gc, v10 = .slice (some ⟨gl, 0, none⟩) l.length l.length ∧ v11 = .slice (some ⟨gc, 0, none⟩) l.length l.length ∧ Aside0 (RwB wc gl 5 (List.replicate l.length 0) ∧ RwB wc gc 34 (List.replicate l.length 0) ∧ w.heap.size ≤ gl ∧ w.heap.size ≤ gc ∧ Below wq.heap.size wq wc))
      case first =>
        go_region
        · go_wp2
          go_meet
          case rel => exact ⟨wq.heap.size, wq.heap.size + 1, rfl, rfl, ⟨(made_two wq _  5 34).1, (made_two wq _  5 34).2.1, HW1.out.2.size, by have := HW1.out.2.size; omega, (made_two wq _  5 34).2.2⟩⟩
        · go_wp2
          go_meet
          case rel => exact ⟨wq.heap.size + 1, wq.heap.size, rfl, rfl, ⟨(made_two wq _  34 5).2.1, (made_two wq _  34 5).1, by have := HW1.out.2.size; omega, HW1.out.2.size, (made_two wq _  34 5).2.2⟩⟩
      obtain ⟨gl, gc, rfl, rfl, HW⟩ := hcut
      clear hm29 hm22
      go_wp2
      have HL : Aside0 (LwK w l gl gc (wc.heap.size + 1) Am cm (newA base) (List.replicate l.length 0) (List.replicate l.length 0) ((wc.alloc (.cells #[.int .u8 base, .int .u8 0, .bool false] 65)).alloc (.cells #[.slice (some ⟨wc.heap.size, 0, none⟩) 1 1, .int .i64 0, .int .i64 0, .int .i64 0] 68))) := by
        have hbw : Below w.heap.size w wc := below_step HW1.out.2 HW.out.2.2.2.2
        have hB3 : Below wc.heap.size wc ((wc.alloc (.cells #[.int .u8 base, .int .u8 0, .bool false] 65)).alloc (.cells #[.slice (some ⟨wc.heap.size, 0, none⟩) 1 1, .int .i64 0, .int .i64 0, .int .i64 0] 68)) := below_alloc (below_alloc (Below.refl _ _) _) _
        exact ⟨HW.out.1.below hB3, HW.out.2.1.below hB3, HoldR.new _ wc hbw.size base, Kd.R_below (Kd.R_below HW1.out.1 HW.out.2.2.2.2) hB3, below_step hbw hB3⟩
      have HG := Aside0.mk (And.intro HW.out.2.2.1 HW.out.2.2.2.1)
      clear HW HW1 HK HBx
      generalize (wc.alloc (.cells #[.int .u8 base, .int .u8 0, .bool false] 65)).alloc (.cells #[.slice (some ⟨wc.heap.size, 0, none⟩) 1 1, .int .i64 0, .int .i64 0, .int .i64 0] 68) = W3 at HL ⊢
      generalize wc.heap.size + 1 = g0 at HL ⊢
      go_loopw [12, 13, 14] (fun v12 v13 v14 wr => ∃ (i : Int) (a : Sk) (bf : Int) (ys : List (Int × Int)) (g : Nat), 0 ≤ i ∧ i ≤ (l.length : Int) ∧ v14 = .int .i64 i ∧ v13 = .int .u8 bf ∧ v12 = .pointer (some ⟨g, 0, none⟩) ∧ Aside0 (LwK w l gl gc g Am cm a (ys.map (fun x : Int × Int => x.1) ++ List.replicate (l.length - i.toNat) 0) (ys.map (fun x : Int × Int => x.2) ++ List.replicate (l.length - i.toNat) 0) wr) ∧ Aside0 (Wf a i ∧ ys.length = i.toNat ∧ ys ++ runL base (l.drop i.toNat) a bf = runL base l (newA base) base)) (fun _ _ v14 _ => l.length - (intOf v14).toNat)
      case atStart => exact ⟨0, newA base, base, [], g0, by omega, by omega, rfl, rfl, rfl, ⟨by simpa using HL.out⟩, ⟨Wf.new hb0 hb1, rfl, rfl⟩⟩
      case round =>
        clear HL
        obtain ⟨i, a, bf, ys, g, hi0, hi1, rfl, rfl, rfl, HI, HA⟩ := hrel
        by_cases hlt : i < (l.length : Int)
        · have bl : decide (i < (l.length : Int)) = true := decide_eq_true hlt
          obtain ⟨ad, rfl, hx⟩ := Kd.at_int (Kd.C_below HR0.out.1 HI.out.bl) i hi0 hlt
          go_upto_if 69 with (fail)
          go_cut [] (fun wx => Aside0 (LwK w l gl gc g Am cm (if rd l i = 23 then pdiA a else a) (ys.map (fun x : Int × Int => x.1) ++ List.replicate (l.length - i.toNat) 0) (ys.map (fun x : Int × Int => x.2) ++ List.replicate (l.length - i.toNat) 0) wx))
          case first =>
            by_cases q1 : rd l i = 23
            · have d1 : (rd l i == 23) = true := beq_iff_eq.2 q1
              have HS : Aside0 ((if rd l i = 23 then pdiA a else a) = pdiA a) := ⟨if_pos q1⟩
              clear q1
              go_wp2_with (go_at_call 27; refine (rpdi_c w.heap.size g a i hi0 (by omega) HA.out.1 _ HI.out.st).mono ?_; rintro e w4 ⟨rfl, h4, g4⟩; have HN := Aside0.mk (HI.out.fr g4 h4); clear h4 g4)
              go_meet
              case rel => rw [HS.out]; exact HN
            · have d1 : (rd l i == 23) = false := beq_eq_false_iff_ne.2 q1
              have HS : Aside0 ((if rd l i = 23 then pdiA a else a) = a) := ⟨if_neg q1⟩
              clear q1
              go_wp2
              go_meet
              case rel => rw [HS.out]; exact HI
          clear HI
          have HI := hcut
          clear hcut hx
          have HA1 : Aside0 (Wf (if rd l i = 23 then pdiA a else a) i) := ⟨by split; exact HA.out.1.pdi; exact HA.out.1⟩
          have HD1 : Aside0 ((if rd l i = 23 then pdiA a else a) = if rd l i = 23 then pdiA a else a) := ⟨rfl⟩
          generalize hA1 : (if rd l i = 23 then pdiA a else a) = a1 at HI HA1
          have HE1 := Aside0.mk hA1
          clear hA1 HD1
          have HTop : Aside0 (∃ (lev ov : Int) (is : Bool), topA a1 = (lev, ov, is)) := ⟨_, _, _, rfl⟩
          obtain ⟨lev, ov, is, hT⟩ := HTop.out
          have HLs := Aside0.mk (last_c w.heap.size g a1 i HA1.out)
          rw [hT] at HLs
          unfold EntV at HLs
          simp only at HLs
          have HT := Aside0.mk hT
          clear hT HTop
          go_upto_region 23 with (go_at_call 28; refine (HLs.out _ HI.out.st).mono ?_; rintro e w4 ⟨rfl, hb⟩; have HN := Aside0.mk (HI.out.below hb); clear hb)
          have hy := HA.out.2.1
          have HRR : Aside0 (∃ R1 R2 : Int → List Int, (R1 = fun v => ys.map (fun x : Int × Int => x.1) ++ v :: List.replicate (l.length - (i + 1).toNat) 0) ∧ (R2 = fun v => ys.map (fun x : Int × Int => x.2) ++ v :: List.replicate (l.length - (i + 1).toNat) 0)) := ⟨_, _, rfl, rfl⟩
          obtain ⟨R1, R2, hR1, hR2⟩ := HRR.out
          clear HRR
          have HX : Aside0 ((∀ v, (ys.map (fun x : Int × Int => x.1) ++ List.replicate (l.length - i.toNat) 0).set i.toNat v = R1 v) ∧ (∀ v, (ys.map (fun x : Int × Int => x.2) ++ List.replicate (l.length - i.toNat) 0).set i.toNat v = R2 v) ∧ (∀ u v, (R1 u).set i.toNat v = R1 v) ∧ (∀ u v, (R2 u).set i.toNat v = R2 v) ∧ (∀ v, (i : Int) < (R1 v).length) ∧ (∀ v, (i : Int) < (R2 v).length) ∧ (∀ v, rd (R1 v) i = v)) := by
            refine ⟨fun v => ?_, fun v => ?_, fun u v => ?_, fun u v => ?_, fun v => ?_, fun v => ?_, fun v => ?_⟩ <;> subst hR1 hR2
            · exact lv_row (ys := ys) hi0 hlt hy
            · exact lv_row (ys := ys) hi0 hlt hy
            · show (_ : List Int) = ys.map (fun x : Int × Int => x.1) ++ v :: _; rw [List.set_append_right _ _ (by simp; omega)]; simp [hy]
            · show (_ : List Int) = ys.map (fun x : Int × Int => x.2) ++ v :: _; rw [List.set_append_right _ _ (by simp; omega)]; simp [hy]
            · simp; omega
            · simp; omega
            · exact E.rd_mid' (by simp; omega)
          have hXl1 : (i : Int) < (ys.map (fun x : Int × Int => x.1) ++ List.replicate (l.length - i.toNat) 0).length := by simp; omega
          have hXl2 : (i : Int) < (ys.map (fun x : Int × Int => x.2) ++ List.replicate (l.length - i.toNat) 0).length := by simp; omega
          have HRE := Aside0.mk (And.intro hR1 hR2)
          clear hR1 hR2 hy
          generalize (ys.map (fun x : Int × Int => x.1) ++ List.replicate (l.length - i.toNat) 0) = X1 at HI HN HX hXl1
          generalize (ys.map (fun x : Int × Int => x.2) ++ List.replicate (l.length - i.toNat) 0) = X2 at HI HN HX hXl2
          have HL1 := Aside0.mk (And.intro hXl1 hXl2)
          clear hXl1 hXl2 HI HLs
          generalize hW2 : w4.alloc (.cells #[.int .u8 lev, .int .u8 ov, .bool is] 65) = W2
          have HE : Aside0 (W2.heap[w4.heap.size]? = some (.cells #[.int .u8 lev, .int .u8 ov, .bool is] 65 (0, 0))) := ⟨by rw [← hW2]; exact heap_alloc_new w4 _⟩
          have HI : Aside0 (LwK w l gl gc g Am cm a1 X1 X2 W2) := ⟨by rw [← hW2]; exact HN.out.below (below_alloc (Below.refl _ _) _)⟩
          clear hW2 HN
          generalize w4.heap.size = gx at HE ⊢
          have e0 := (blk_cell HE.out 0).trans rfl
          have c1 := HI.out.r1.cell i hi0 HL1.out.1
          have f1 := blk_frozen HI.out.r1 i.toNat
          have c3 := (HI.out.set1 HG.out.1 i lev).r2.cell i hi0 HL1.out.2
          have f3 := blk_frozen (HI.out.set1 HG.out.1 i lev).r2 i.toNat
          have di0 : decide (0 ≤ i) = true := decide_eq_true hi0
          have nx1 := blk_ne HE.out HI.out.r1 (by decide)
          have nx2 := blk_ne HE.out HI.out.r2 (by decide)
          have e1 : (W2.setCell ⟨gl, i.toNat, none⟩ (.int .u8 lev)).cell? ⟨gx, 0, none⟩ = some (.int .u8 lev) := (blk_cell (blk_far HE.out nx1 _) 0).trans rfl
          have HE2 : Aside0 (((W2.setCell ⟨gl, i.toNat, none⟩ (.int .u8 lev)).setCell ⟨gc, i.toNat, none⟩ (.int .u8 (rd l i))).heap[gx]? = some (.cells #[.int .u8 lev, .int .u8 ov, .bool is] 65 (0, 0))) := ⟨blk_far (blk_far HE.out nx1 _) nx2 _⟩
          have e2 := (blk_cell HE2.out 1).trans rfl
          clear nx1 nx2
          go_upto_if 85 with (fail)
          generalize hW3 : (W2.setCell ⟨gl, i.toNat, none⟩ (.int .u8 lev)).setCell ⟨gc, i.toNat, none⟩ (.int .u8 (rd l i)) = W3 at *
          replace HI : Aside0 (LwK w l gl gc g Am cm a1 (R1 lev) (R2 (rd l i)) W3) := ⟨by
            rw [← hW3, ← HX.out.1 lev, ← HX.out.2.1 (rd l i)]
            exact (HI.out.set1 HG.out.1 i lev).set2 HG.out.2 i (rd l i)⟩
          clear hW3 e0 e1 c1 c3 f1 f3 HE
          have c2 := HI.out.r2.cell i hi0 (HX.out.2.2.2.2.2.1 _)
          have f2 := blk_frozen HI.out.r2 i.toNat
          go_cut [] (fun wx => Aside0 (LwK w l gl gc g Am cm a1 (R1 lev) (R2 (if ov ≠ 0 then ov else rd l i)) wx))
          case first =>
            by_cases q1 : ov = 0
            · have d1 : (ov != 0) = false := by rw [q1]; rfl
              have HO : Aside0 ((if ov ≠ 0 then ov else rd l i) = rd l i) := ⟨if_neg (fun q => q q1)⟩
              clear q1
              go_wp2
              go_meet
              case rel => rw [HO.out]; exact HI
            · have d1 : (ov != 0) = true := by simpa using q1
              have HO : Aside0 ((if ov ≠ 0 then ov else rd l i) = ov) := ⟨if_pos q1⟩
              clear q1
              go_wp2
              go_meet
              case rel => rw [HO.out, ← HX.out.2.2.2.1 (rd l i) ov]; exact ⟨HI.out.set2 HG.out.2 i ov⟩
          clear HI c2 f2 e2 HE2
          have HI := hcut
          clear hcut HL1
          have HS1 : Aside0 (rd l i ≠ 11 → stA base a (rd l i) = a1) := ⟨fun h => (st_ne base a _ h).trans HE1.out⟩
          generalize hov : (if ov ≠ 0 then ov else rd l i) = ov2 at HI
          have HOV := Aside0.mk hov
          clear hov
          go_upto_block 4 with (fail)
          go_cut [12] (fun v12 wx => ∃ g2 : Nat, v12 = .pointer (some ⟨g2, 0, none⟩) ∧ Aside0 (LwK w l gl gc g2 Am cm (takeA (stA base a (rd l i)) (rd l i) (dirI (dirS true (l.drop (i + 1).toNat) 0))) (R1 (if rd l i = 11 then base else lev)) (R2 (if rd l i = 11 then 11 else ov2)) wx))
          case first =>
            by_cases q15 : rd l i = 15
            · have d15 : (rd l i == 15) = true := beq_iff_eq.2 q15
              have HS : Aside0 (takeA (stA base a (rd l i)) (rd l i) (dirI (dirS true (l.drop (i + 1).toNat) 0)) = embA a1 1 0 ∧ (if rd l i = 11 then base else lev) = lev ∧ (if rd l i = 11 then 11 else ov2) = ov2) := ⟨by rw [HS1.out (by omega)]; unfold takeA; simp only [q15]; rfl, if_neg (by omega), if_neg (by omega)⟩
              clear q15
              go_wp2_with (go_at_call 29; refine (rembed_c w.heap.size g a1 i (by omega) HA1.out 1 0 (.inl rfl) _ HI.out.st).mono ?_; rintro e w5 ⟨rfl, h5, f5⟩; have HN := Aside0.mk (HI.out.fr f5 h5); clear h5 f5)
              go_meet
              case rel => exact ⟨g, rfl, by rw [HS.out.1, HS.out.2.1, HS.out.2.2]; exact HN⟩
            have d15 : (rd l i == 15) = false := beq_eq_false_iff_ne.2 q15
            by_cases q16 : rd l i = 16
            · have d16 : (rd l i == 16) = true := beq_iff_eq.2 q16
              have HS : Aside0 (takeA (stA base a (rd l i)) (rd l i) (dirI (dirS true (l.drop (i + 1).toNat) 0)) = embA a1 2 0 ∧ (if rd l i = 11 then base else lev) = lev ∧ (if rd l i = 11 then 11 else ov2) = ov2) := ⟨by rw [HS1.out (by omega)]; unfold takeA; simp only [q16]; rfl, if_neg (by omega), if_neg (by omega)⟩
              clear q16 q15
              go_wp2_with (go_at_call 29; refine (rembed_c w.heap.size g a1 i (by omega) HA1.out 2 0 (.inr rfl) _ HI.out.st).mono ?_; rintro e w5 ⟨rfl, h5, f5⟩; have HN := Aside0.mk (HI.out.fr f5 h5); clear h5 f5)
              go_meet
              case rel => exact ⟨g, rfl, by rw [HS.out.1, HS.out.2.1, HS.out.2.2]; exact HN⟩
            have d16 : (rd l i == 16) = false := beq_eq_false_iff_ne.2 q16
            by_cases q17 : rd l i = 17
            · have d17 : (rd l i == 17) = true := beq_iff_eq.2 q17
              have HS : Aside0 (takeA (stA base a (rd l i)) (rd l i) (dirI (dirS true (l.drop (i + 1).toNat) 0)) = embA a1 1 1 ∧ (if rd l i = 11 then base else lev) = lev ∧ (if rd l i = 11 then 11 else ov2) = ov2) := ⟨by rw [HS1.out (by omega)]; unfold takeA; simp only [q17]; rfl, if_neg (by omega), if_neg (by omega)⟩
              clear q17 q15 q16
              go_wp2_with (go_at_call 29; refine (rembed_c w.heap.size g a1 i (by omega) HA1.out 1 1 (.inl rfl) _ HI.out.st).mono ?_; rintro e w5 ⟨rfl, h5, f5⟩; have HN := Aside0.mk (HI.out.fr f5 h5); clear h5 f5)
              go_meet
              case rel => exact ⟨g, rfl, by rw [HS.out.1, HS.out.2.1, HS.out.2.2]; exact HN⟩
            have d17 : (rd l i == 17) = false := beq_eq_false_iff_ne.2 q17
            by_cases q18 : rd l i = 18
            · have d18 : (rd l i == 18) = true := beq_iff_eq.2 q18
              have HS : Aside0 (takeA (stA base a (rd l i)) (rd l i) (dirI (dirS true (l.drop (i + 1).toNat) 0)) = embA a1 2 2 ∧ (if rd l i = 11 then base else lev) = lev ∧ (if rd l i = 11 then 11 else ov2) = ov2) := ⟨by rw [HS1.out (by omega)]; unfold takeA; simp only [q18]; rfl, if_neg (by omega), if_neg (by omega)⟩
              clear q18 q15 q16 q17
              go_wp2_with (go_at_call 29; refine (rembed_c w.heap.size g a1 i (by omega) HA1.out 2 2 (.inr rfl) _ HI.out.st).mono ?_; rintro e w5 ⟨rfl, h5, f5⟩; have HN := Aside0.mk (HI.out.fr f5 h5); clear h5 f5)
              go_meet
              case rel => exact ⟨g, rfl, by rw [HS.out.1, HS.out.2.1, HS.out.2.2]; exact HN⟩
            have d18 : (rd l i == 18) = false := beq_eq_false_iff_ne.2 q18
            by_cases q19 : rd l i = 19
            · have d19 : (rd l i == 19) = true := beq_iff_eq.2 q19
              have HS : Aside0 (takeA (stA base a (rd l i)) (rd l i) (dirI (dirS true (l.drop (i + 1).toNat) 0)) = pdfA a1 ∧ (if rd l i = 11 then base else lev) = lev ∧ (if rd l i = 11 then 11 else ov2) = ov2) := ⟨by rw [HS1.out (by omega)]; unfold takeA; simp only [q19]; rfl, if_neg (by omega), if_neg (by omega)⟩
              clear q19 q15 q16 q17 q18
              go_wp2_with (go_at_call 30; refine (rpdf_c w.heap.size g a1 i (by omega) HA1.out _ HI.out.st).mono ?_; rintro e w5 ⟨rfl, h5, f5⟩; have HN := Aside0.mk (HI.out.fr f5 h5); clear h5 f5)
              go_meet
              case rel => exact ⟨g, rfl, by rw [HS.out.1, HS.out.2.1, HS.out.2.2]; exact HN⟩
            have d19 : (rd l i == 19) = false := beq_eq_false_iff_ne.2 q19
            by_cases q20 : rd l i = 20
            · have d20 : (rd l i == 20) = true := beq_iff_eq.2 q20
              have HS : Aside0 (takeA (stA base a (rd l i)) (rd l i) (dirI (dirS true (l.drop (i + 1).toNat) 0)) = isoA a1 1 ∧ (if rd l i = 11 then base else lev) = lev ∧ (if rd l i = 11 then 11 else ov2) = ov2) := ⟨by rw [HS1.out (by omega)]; unfold takeA; simp only [q20]; rfl, if_neg (by omega), if_neg (by omega)⟩
              clear q20 q15 q16 q17 q18 q19
              go_wp2_with (go_at_call 31; refine (risolate_c w.heap.size g a1 i (by omega) HA1.out 1 (.inl rfl) _ HI.out.st).mono ?_; rintro e w5 ⟨rfl, h5, f5⟩; have HN := Aside0.mk (HI.out.fr f5 h5); clear h5 f5)
              go_meet
              case rel => exact ⟨g, rfl, by rw [HS.out.1, HS.out.2.1, HS.out.2.2]; exact HN⟩
            have d20 : (rd l i == 20) = false := beq_eq_false_iff_ne.2 q20
            by_cases q21 : rd l i = 21
            · have d21 : (rd l i == 21) = true := beq_iff_eq.2 q21
              have HS : Aside0 (takeA (stA base a (rd l i)) (rd l i) (dirI (dirS true (l.drop (i + 1).toNat) 0)) = isoA a1 2 ∧ (if rd l i = 11 then base else lev) = lev ∧ (if rd l i = 11 then 11 else ov2) = ov2) := ⟨by rw [HS1.out (by omega)]; unfold takeA; simp only [q21]; rfl, if_neg (by omega), if_neg (by omega)⟩
              clear q21 q15 q16 q17 q18 q19 q20
              go_wp2_with (go_at_call 31; refine (risolate_c w.heap.size g a1 i (by omega) HA1.out 2 (.inr rfl) _ HI.out.st).mono ?_; rintro e w5 ⟨rfl, h5, f5⟩; have HN := Aside0.mk (HI.out.fr f5 h5); clear h5 f5)
              go_meet
              case rel => exact ⟨g, rfl, by rw [HS.out.1, HS.out.2.1, HS.out.2.2]; exact HN⟩
            have d21 : (rd l i == 21) = false := beq_eq_false_iff_ne.2 q21
            by_cases q22 : rd l i = 22
            · have d22 : (rd l i == 22) = true := beq_iff_eq.2 q22
              obtain ⟨kk, hkk⟩ := behind_f l (by omega) i hi0 hlt (by omega)
              have HKK : Aside0 (selvedgeref14_behind.f kk l (mtOf l) i = some (dirI (dirS true (l.drop (i + 1).toNat) 0))) := ⟨hkk⟩
              have HS : Aside0 (takeA (stA base a (rd l i)) (rd l i) (dirI (dirS true (l.drop (i + 1).toNat) 0)) = isoA a1 (dirI (dirS true (l.drop (i + 1).toNat) 0)) ∧ (if rd l i = 11 then base else lev) = lev ∧ (if rd l i = 11 then 11 else ov2) = ov2) := ⟨by rw [HS1.out (by omega)]; unfold takeA; simp only [q22]; rfl, if_neg (by omega), if_neg (by omega)⟩
              have hdd := dirI_or (dirS true (l.drop (i + 1).toNat) 0)
              generalize hdq : (dirI (dirS true (l.drop (i + 1).toNat) 0)) = dd at HS HKK hdd
              have HDQ := Aside0.mk hdq
              clear hdq
              obtain ⟨_, hcm, hCm⟩ := Kd.R_reads' HI.out.mt
              have HCm := Aside0.mk (And.intro hcm hCm)
              have HDD := Aside0.mk hdd
              clear q22 q15 q16 q17 q18 q19 q20 q21 hkk hcm hCm hdd
              go_wp2_with (first | (go_at_call 32; refine (selvedgeref14_behind.calls kk (some ad) c0 l Am cm (mtOf l) i dd _ (Kd.C_below HR0.out.1 HI.out.bl) HR0.out.2 HCm.out.2 HCm.out.1 HKK.out).mono ?_; rintro e w5 ⟨rfl, hd⟩; obtain ⟨n5, rfl⟩ := hd.out; clear hd) | (go_at_call 31; refine (risolate_c w.heap.size g a1 i (by omega) HA1.out dd HDD.out _ (HI.out.drawn _).st).mono ?_; rintro e w6 ⟨rfl, h6, f6⟩; have HN := Aside0.mk ((HI.out.drawn _).fr f6 h6); clear h6 f6))
              go_meet
              case rel => exact ⟨g, rfl, by rw [HDQ.out, HS.out.1, HS.out.2.1, HS.out.2.2]; exact HN⟩
            have d22 : (rd l i == 22) = false := beq_eq_false_iff_ne.2 q22
            by_cases q11 : rd l i = 11
            · have d11 : (rd l i == 11) = true := beq_iff_eq.2 q11
              have HS : Aside0 (takeA (stA base a (rd l i)) (rd l i) (dirI (dirS true (l.drop (i + 1).toNat) 0)) = newA base ∧ (if rd l i = 11 then base else lev) = base ∧ (if rd l i = 11 then 11 else ov2) = 11) := ⟨by rw [q11]; exact take_new _ _ _, if_pos q11, if_pos q11⟩
              have c1 := HI.out.r1.cell i hi0 (HX.out.2.2.2.2.1 _)
              have f1 := blk_frozen HI.out.r1 i.toNat
              have c3 := (HI.out.set1 HG.out.1 i base).r2.cell i hi0 (HX.out.2.2.2.2.2.1 _)
              have f3 := blk_frozen (HI.out.set1 HG.out.1 i base).r2 i.toNat
              clear q11 q22 q15 q16 q17 q18 q19 q20 q21
              go_wp2
              go_meet
              case rel =>
                have HN := (HI.out.set1 HG.out.1 i base).set2 HG.out.2 i 11
                rw [HX.out.2.2.1, HX.out.2.2.2.1] at HN
                refine ⟨_, rfl, ?_⟩
                rw [HS.out.1, HS.out.2.1, HS.out.2.2]
                have HW := HoldR.new w.heap.size _ HN.bl.size base
                have hz : ((wc.setCell ⟨gl, i.toNat, none⟩ (.int .u8 base)).setCell ⟨gc, i.toNat, none⟩ (.int .u8 11)).heap.size = wc.heap.size := by simp [World.setCell]
                rw [hz] at HW
                exact ⟨HN.fr (Fr.below (below_alloc (below_alloc (Below.refl _ _) _) _)) HW⟩
            have d11 : (rd l i == 11) = false := beq_eq_false_iff_ne.2 q11
            have HS : Aside0 (takeA (stA base a (rd l i)) (rd l i) (dirI (dirS true (l.drop (i + 1).toNat) 0)) = a1 ∧ (if rd l i = 11 then base else lev) = lev ∧ (if rd l i = 11 then 11 else ov2) = ov2) := ⟨by rw [HS1.out q11]; unfold takeA; rw [if_neg q18, if_neg q16, if_neg q15, if_neg q17, if_neg q20, if_neg q21, if_neg q22, if_neg q19], if_neg q11, if_neg q11⟩
            clear q11 q22 q15 q16 q17 q18 q19 q20 q21
            go_wp2
            go_meet
            case rel => exact ⟨g, rfl, by rw [HS.out.1, HS.out.2.1, HS.out.2.2]; exact HI⟩
          clear HI
          obtain ⟨g2, rfl, HI⟩ := hcut
          have HOL : Aside0 (outL bf (topA (stA base a (rd l i))) (rd l i) = if remC (rd l i) = true then (bf, 10) else ((if rd l i = 11 then base else lev), (if rd l i = 11 then 11 else ov2))) := ⟨by
            by_cases q : rd l i = 11
            · have e1 : stA base a (rd l i) = newA base := by unfold stA; rw [if_neg (by omega), if_pos q]
              rw [e1, if_pos q, if_pos q, q]; rfl
            · rw [HS1.out q, HT.out, if_neg q, if_neg q, ← HOV.out]; rfl⟩
          generalize (if rd l i = 11 then base else lev) = p1 at HI HOL
          generalize (if rd l i = 11 then 11 else ov2) = p2 at HI HOL
          have c1 := HI.out.r1.cell i hi0 (HX.out.2.2.2.2.1 _)
          have f1 := blk_frozen HI.out.r1 i.toNat
          have c2 := HI.out.r2.cell i hi0 (HX.out.2.2.2.2.2.1 _)
          have f2 := blk_frozen HI.out.r2 i.toNat
          have c3 := (HI.out.set1 HG.out.1 i bf).r2.cell i hi0 (HX.out.2.2.2.2.2.1 _)
          have f3 := blk_frozen (HI.out.set1 HG.out.1 i bf).r2 i.toNat
          have HRM := Aside0.mk (ref_removed_f (rd l i))
          go_upto_if 143 with (go_at_call 14; refine (selvedgeref14_Removed.calls (rd l i) (remC (rd l i)) _ HRM.out).mono ?_; rintro e w7 ⟨rfl, hd⟩; obtain ⟨nd, rfl⟩ := hd.out; clear hd)
          go_cut [] (fun wx => Aside0 (LwK w l gl gc g2 Am cm (takeA (stA base a (rd l i)) (rd l i) (dirI (dirS true (l.drop (i + 1).toNat) 0))) (R1 (outL bf (topA (stA base a (rd l i))) (rd l i)).1) (R2 (outL bf (topA (stA base a (rd l i))) (rd l i)).2) wx))
          case first =>
            have c3b : ((wc.drewN nd).setCell ⟨gl, i.toNat, none⟩ (.int .u8 bf)).cell? ⟨gc, i.toNat, none⟩ = _ := c3
            have f3b : ((wc.drewN nd).setCell ⟨gl, i.toNat, none⟩ (.int .u8 bf)).frozen? ⟨gc, i.toNat, none⟩ = false := f3
            cases hrm : remC (rd l i) with
            | true =>
              rw [hrm] at HOL
              have HO2 : Aside0 (outL bf (topA (stA base a (rd l i))) (rd l i) = (bf, 10)) := ⟨HOL.out.trans (if_pos rfl)⟩
              clear hrm
              go_wp2
              go_meet
              case rel =>
                rw [HO2.out, ← HX.out.2.2.1 p1 bf, ← HX.out.2.2.2.1 p2 10]
                exact ⟨((HI.out.drawn nd).set1 HG.out.1 i bf).set2 HG.out.2 i 10⟩
            | false =>
              rw [hrm] at HOL
              have HO2 : Aside0 (outL bf (topA (stA base a (rd l i))) (rd l i) = (p1, p2)) := ⟨HOL.out.trans (if_neg (by decide))⟩
              clear hrm
              go_wp2
              go_meet
              case rel =>
                rw [HO2.out]
                exact ⟨HI.out.drawn nd⟩
          clear HI c1 c2 c3 f1 f2 f3 HRM
          have HI := hcut
          clear hcut HOL
          have c1 := HI.out.r1.cell i hi0 (HX.out.2.2.2.2.1 _)
          rw [HX.out.2.2.2.2.2.2] at c1
          generalize hbf2 : (outL bf (topA (stA base a (rd l i))) (rd l i)).1 = bf2 at c1
          have HBF := Aside0.mk hbf2
          clear hbf2
          go_wp2
          go_roundw
          case rel =>
            have hwf := (HA.out.1.st hi0 hb0 hb1 (rd l i)).take (rd l i) (dirI (dirS true (l.drop (i + 1).toNat) 0))
            refine ⟨i + 1, takeA (stA base a (rd l i)) (rd l i) (dirI (dirS true (l.drop (i + 1).toNat) 0)), bf2, ys ++ [outL bf (topA (stA base a (rd l i))) (rd l i)], g2, by omega, by omega, by go_num, rfl, rfl, ⟨?_⟩, ⟨hwf, by simp; have := HA.out.2.1; omega, ?_⟩⟩
            · rw [lv_row3, lv_row3]
              have := HI.out
              rw [HRE.out.1, HRE.out.2] at this
              exact this
            · rw [← HBF.out]
              exact lv_next hi0 hlt HA.out.2.2
          case measure => simp [intOf]; omega
        · obtain rfl : i = (l.length : Int) := by omega
          go_wp2
          have h0 : l.length - (l.length : Int).toNat = 0 := by simp
          have hys : ys = runL base l (newA base) base := by
            have := HA.out.2.2
            rw [List.drop_of_length_le (by simp)] at this
            simpa [runL] using this
          have h1 := HI.out.r1
          have h2 := HI.out.r2
          rw [h0] at h1 h2
          simp only [List.replicate_zero, List.append_nil] at h1 h2
          have n12 := blk_ne h1 h2 (by decide)
          have e1 : (ys.map (fun x : Int × Int => x.1)).length = l.length := by rw [hys, List.length_map, runL_len]
          have e2 : (ys.map (fun x : Int × Int => x.2)).length = l.length := by rw [hys, List.length_map, runL_len]
          have k1 := h1.toR (base := w.heap.size) (ok := fun k_ => some k_ ≠ (Value.slice (some ⟨gc, 0, none⟩) l.length l.length).ownBlock) HG.out.1 (by rw [e1]; omega) (fun e => n12 (by simpa [Value.ownBlock] using e))
          have k2 := h2.toR (base := w.heap.size) (ok := fun k_ => some k_ ≠ (Value.slice (some ⟨gl, 0, none⟩) l.length l.length).ownBlock) HG.out.2 (by rw [e2]; omega) (fun e => n12 (by simpa [Value.ownBlock] using e.symm))
          rw [e1] at k1
          rw [e2] at k2
          rw [hys] at k1 k2
          refine bodyPost_ret (results_tmp4_ rfl _ _ _) rfl ?_
          exact ⟨_, _, rfl, k1, k2, HI.out.bl⟩
end Go.Proofs.Ytofiflhjlohakaa.X
