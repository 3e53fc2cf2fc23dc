import Derived.Test.YtdkbkecnhebanaaT12
import Derived.RegionTactic
import Derived.ChangeAlike
import Derived.Deep.OwnRows
/-! explicit.Levels. -/
namespace Go.Proofs.Ytdkbkecnhebanaa.X
open Go.RowKit Go.Proofs.YtdkbkecnhebanaaW.PrintWords Go.Proofs.YtdkbkecnhebanaaW.PrintLast Go.Proofs.YtdkbkecnhebanaaW.PrintMore
attribute [local go_sem] max2_int min2_int max_two min_two max_three min_three max_four min_four
set_option linter.unusedVariables false
set_option linter.unusedSimpArgs false
def LvPost (w : World) (r : List Int × List Int × Int × Int) (e : Ending) (w' : World) : Prop :=
  ∃ v0_ v1_ : Value, e = .returned (.tuple #[v0_, v1_, .int .u8 r.2.2.1, .int .i64 r.2.2.2]) ∧ Kd.R (Kd.int .u8) 5 w' w.heap.size (fun k_ => some k_ ≠ (v1_ : Value).ownBlock) v0_ r.1 ∧ Kd.R (Kd.int .u8) 26 w' w.heap.size (fun k_ => some k_ ≠ (v0_ : Value).ownBlock) v1_ r.2.1 ∧ Below w.heap.size w w'
theorem all_take {l : List Int} {i : Int} (h0 : 0 ≤ i) (hi : i < l.length) (h : l.all okC = true) : 1 ≤ rd l i ∧ rd l i ≤ 23 := by
  have := List.all_eq_true.1 h (rd l i) (E.rd_mem h0 hi)
  unfold okC at this
  exact of_decide_eq_true this
theorem holds_top {w : World} {g : Nat} {a : Sk} {m : Int} (h : Holds w g a) (ha : Wf a m) : ∃ (n : Nat) (lev ov : Int) (is : Bool), topA a = (lev, ov, is) ∧ n < 127 ∧ 0 ≤ lev ∧ lev ≤ 125 ∧ (ov = 0 ∨ ov = 1 ∨ ov = 2) ∧ w.cell? ⟨g, 381, none⟩ = some (.int .i64 (n : Int)) ∧ w.cell? ⟨g, n * 3, none⟩ = some (.int .u8 lev) ∧ w.cell? ⟨g, n * 3 + 1, none⟩ = some (.int .u8 ov) ∧ w.cell? ⟨g, n * 3 + 2, none⟩ = some (.bool is) := by
  obtain ⟨C, hb, c0, c1, c2, c3, c4, c5, c6⟩ := h
  obtain ⟨e, t, he, h1, h2, h3, h4⟩ := ha.ch.top
  rw [he] at c1 c2 c6
  simp only [List.length_cons] at c1 c2
  refine ⟨t.length, e.1, e.2.1, e.2.2, by unfold topA; rw [he]; rfl, by omega, h3, h2, h4, (blk_cell hb _).trans ?_, (blk_cell hb _).trans c6.1, (blk_cell hb _).trans c6.2.1, (blk_cell hb _).trans c6.2.2.1⟩
  rw [c2]
  congr 2
  omega
theorem results_tmp4_ {fn : Func} {t u v x : Tmp} (h : fn.results = #[.tmp t, .tmp u, .tmp v, .tmp x]) (tmps : Array Value) (P : Program) (w : World) :
    (results fn tmps).run P w = .ok (.tuple #[tmps.getD t undef, tmps.getD u undef, tmps.getD v undef, tmps.getD x undef]) w := by simp [results, h]
theorem grown_setRow (w : World) (g : Nat) (C : Array Value) : w.grownBy (w.setRow g C) (some g) :=
  ⟨rfl, rfl, rfl, by simp, fun k _ hne => setRow_other w g k C (fun e => hne (by rw [e]))⟩
set_option maxHeartbeats 4000000 in
set_option maxRecDepth 100000 in
theorem levels_ok (A0 : Option Addr) (c0 : Nat) (l : List Int) (base : Int) (w : World) (hr0 : Kd.C (Kd.int .u8) w A0 l.length l) (hc0 : l.length ≤ c0) (hn : l.length ≤ 65536) (hv : l.all okC = true) (hb0 : 0 ≤ base) (hb1 : base ≤ 1) (arg : Int) (kb : Nat) (harg : arg = base ∨ (arg = 2 ∧ explicit_Base.f kb l = some base)) :
    Calls Try.prog 15 #[.slice A0 l.length c0, .int .u8 arg] w (LvPost w ((runL base l (newA base) base).map (·.1), (runL base l (newA base) base).map (·.2), base, 0)) := by
  have HR0 := Aside0.mk (And.intro hr0 hc0)
  have HV := Aside0.mk hv
  have b1 : decide (65536 < (l.length : Int)) = false := decide_eq_false (by omega)
  have b2 : decide (2 < arg) = false := decide_eq_false (by omega)
  have HARG := Aside0.mk harg
  have hmax : (l.length : Int) ≤ 9223372036854775807 := by omega
  clear hr0 hc0 hv harg
  go_enter Try.func15, Try.ntmps15
  go_wp2
  go_loop [23] (fun v23 => ∃ i : Int, 0 ≤ i ∧ i ≤ (l.length : Int) ∧ v23 = .int .i64 i) (fun v23 => l.length - (intOf v23).toNat)
  case atStart => exact ⟨0, by omega, by omega, rfl⟩
  case round =>
    obtain ⟨i, hi0, hi1, rfl⟩ := hrel
    by_cases hlt : i < (l.length : Int)
    · have bl : decide (i < (l.length : Int)) = true := decide_eq_true hlt
      obtain ⟨ad, rfl, hx⟩ := Kd.at_int HR0.out.1 i hi0 hlt
      have hv := all_take hi0 hlt HV.out
      have q1 : decide (rd l i < 1) = false := decide_eq_false (by omega)
      have q2 : decide (23 < rd l i) = false := decide_eq_false (by omega)
      clear hv
      go_wp2
      go_round
      case rel => exact ⟨i + 1, by omega, by omega, by go_num⟩
      case measure => simp [intOf]; omega
    · have bl : decide (i < (l.length : Int)) = false := decide_eq_false hlt
      obtain rfl : i = (l.length : Int) := by omega
      have hm29 := fun W => run_make_row' (P := Try.prog) 29 5 (.int .u8 0) 1 Try.underlying29 info5' rfl .i64 .i64 l.length (by omega) (by omega) W
      have hm22 := fun W => run_make_row' (P := Try.prog) 22 26 (.int .u8 0) 1 Try.underlying22 info26 rfl .i64 .i64 l.length (by omega) (by omega) W
      go_upto_block 2 with (fail)
      go_cut [1] (fun v1 wx => v1 = .int .u8 base ∧ Aside0 (Below w.heap.size w wx))
      case first =>
        by_cases q1 : arg = 2
        · have b3 : (arg == 2) = true := beq_iff_eq.2 q1
          have HBs : Aside0 (explicit_Base.f kb l = some base) := ⟨HARG.out.elim (fun h => by omega) (fun h => h.2)⟩
          clear q1
          go_wp2_with (go_at_call 13; refine (explicit_Base.calls kb A0 c0 l base _ HR0.out.1 HR0.out.2 HBs.out).mono ?_; rintro e w0 ⟨rfl, hb⟩; have HB0 := Aside0.mk hb; clear hb)
          go_meet
          case rel => exact ⟨rfl, HB0⟩
        · have b3 : (arg == 2) = false := beq_eq_false_iff_ne.2 q1
          have HBs : Aside0 (arg = base) := ⟨HARG.out.elim id (fun h => absurd h.1 q1)⟩
          clear q1
          go_wp2
          go_meet
          case rel => exact ⟨by rw [HBs.out], ⟨Below.refl _ _⟩⟩
      obtain ⟨rfl, HBx⟩ := hcut
      obtain ⟨wq, rfl⟩ : ∃ wq, wq = wc := ⟨_, rfl⟩
      go_upto_region 13 with (fail)
      go_cut [10, 11] (fun v10 v11 wc => ∃ gl gc, v10 = .slice (some ⟨gl, 0, none⟩) l.length l.length ∧ v11 = .slice (some ⟨gc, 0, none⟩) l.length l.length ∧ Aside0 (RwB wc gl 5 (List.replicate l.length 0) ∧ RwB wc gc 26 (List.replicate l.length 0) ∧ w.heap.size ≤ gl ∧ w.heap.size ≤ gc ∧ Below w.heap.size w wc))
      case first =>
        go_region
        · go_wp2
          go_meet
          case rel => exact ⟨wq.heap.size, wq.heap.size + 1, rfl, rfl, ⟨(made_two wq _ 5 26).1, (made_two wq _ 5 26).2.1, HBx.out.size, by have := HBx.out.size; omega, below_step HBx.out (made_two wq _ 5 26).2.2⟩⟩
        · go_wp2
          go_meet
          case rel => exact ⟨wq.heap.size + 1, wq.heap.size, rfl, rfl, ⟨(made_two wq _ 26 5).2.1, (made_two wq _ 26 5).1, by have := HBx.out.size; omega, HBx.out.size, below_step HBx.out (made_two wq _ 26 5).2.2⟩⟩
      obtain ⟨gl, gc, rfl, rfl, HW⟩ := hcut
      clear hm29 hm22
      obtain ⟨km, hkm⟩ := mt_out l (by omega)
      have HK := Aside0.mk hkm
      clear hkm
      have hz := zv47
      have HZ := Aside0.mk (And.intro st0_size (And.intro (c0_one base) (c0_size base)))
      generalize st0.cells = Z at hz HZ
      go_wp2_with (first
        | (go_at_call 12; refine (explicit_Match.calls km A0 c0 l (mtOf l) _ (Kd.C_below HR0.out.1 HW.out.2.2.2.2) HR0.out.2 HK.out).mono ?_; rintro e w1 ⟨v1, rfl, ho, hb⟩; obtain ⟨Am, cm, rfl⟩ := Kd.R_slice ho; have HW1 := Aside0.mk (And.intro ho hb); clear ho hb)
        | (go_at_call 26; refine (begun_c base _).mono ?_; rintro e w2 ⟨rfl, hb2⟩; have HW2 := Aside0.mk hb2; clear hb2)
        | (refine wpList_store_row rfl 47 (.tmp 13) (.tmp 53) rfl w2.heap.size (C0 base) rfl rfl 47 Z (heap_alloc_new w2 _) (by rw [HZ.out.2.2]; exact size47) (by rw [HZ.out.1, HZ.out.2.2]) HZ.out.2.1 ?_))
      clear hz
      obtain ⟨W3, hW3⟩ : ∃ W3, W3 = (w2.alloc (.cells Z 47)).setRow w2.heap.size (C0 base) := ⟨_, rfl⟩
      rw [← hW3]
      have HL : Aside0 (LvK w A0 c0 l gl gc w1.heap.size w2.heap.size Am cm (newA base) (List.replicate l.length 0) (List.replicate l.length 0) W3 ∧ LvG w gl gc w1.heap.size w2.heap.size) := by
        have hB3 : Below w2.heap.size w2 W3 := by rw [hW3]; exact below_setRow Z (C0 base)
        have hBa : Below w1.heap.size w1 w2 := below_step (below_alloc (Below.refl _ _) _) HW2.out
        have h1 := HW1.out.2
        have hw := HW.out.2.2.2.2
        have hs3 : W3.heap[w2.heap.size]? = some (.cells (C0 base) 47 (0, 0)) := by rw [hW3]; exact setRow_heap _ _ Z _ 47 _ (heap_alloc_new w2 _)
        refine ⟨⟨((HW.out.1.below h1).below hBa).below hB3, ((HW.out.2.1.below h1).below hBa).below hB3, ?_, c0_holds hs3, ?_, below_step (below_step (below_step hw h1) hBa) hB3⟩, HW.out.2.2.1, HW.out.2.2.2.1, ?_, ?_⟩
        · have ha : (w1.alloc (.cells #[.slice A0 l.length c0, .slice Am (mtOf l).length cm] 40)).heap[w1.heap.size]? = some (.cells #[.slice A0 l.length c0, .slice Am (mtOf l).length cm] 40 (0, 0)) := heap_alloc_new w1 _
          exact (hB3.block _ (blk_lt ((HW2.out.block _ (blk_lt ha)).trans ha))).trans ((HW2.out.block _ (blk_lt ha)).trans ha)
        · exact Kd.R_below (Kd.R_below (Kd.R_lower HW1.out.1 hw.size) hBa) hB3
        · exact Nat.le_trans hw.size h1.size
        · exact Nat.le_trans hw.size (Nat.le_trans h1.size hBa.size)
      clear hW3 HZ HW HW1 HW2 HK
      generalize w1.heap.size = ga at *
      generalize w2.heap.size = g at *
      go_loopw [57, 14] (fun v57 v14 wr => ∃ (i : Int) (a : Sk) (bf : Int) (ys : List (Int × Int)), 0 ≤ i ∧ i ≤ (l.length : Int) ∧ v57 = .int .i64 i ∧ v14 = .int .u8 bf ∧ Aside0 (LvK w A0 c0 l gl gc ga g Am cm a (ys.map (fun x : Int × Int => x.1) ++ List.replicate (l.length - i.toNat) 0) (ys.map (fun x : Int × Int => x.2) ++ List.replicate (l.length - i.toNat) 0) wr) ∧ Aside0 (Wf a i ∧ ys.length = i.toNat ∧ ys ++ runL base (l.drop i.toNat) a bf = runL base l (newA base) base)) (fun v57 _ _ => l.length - (intOf v57).toNat)
      case atStart => exact ⟨0, newA base, base, [], by omega, by omega, rfl, rfl, ⟨by simpa using HL.out.1⟩, ⟨Wf.new hb0 hb1, rfl, rfl⟩⟩
      case round =>
        obtain ⟨i, a, bf, ys, hi0, hi1, rfl, rfl, HI, HA⟩ := hrel
        have HG := Aside0.mk HL.out.2
        by_cases hlt : i < (l.length : Int)
        · have bl : decide (i < (l.length : Int)) = true := decide_eq_true hlt
          obtain ⟨ad, rfl, hx⟩ := Kd.at_int (Kd.C_below HR0.out.1 HI.out.bl) i hi0 hlt
          go_upto_block 5 with (fail)
          go_cut [] (fun wx => Aside0 (LvK w (some ad) c0 l gl gc ga g Am cm (stA base a (rd l i)) (ys.map (fun x : Int × Int => x.1) ++ List.replicate (l.length - i.toNat) 0) (ys.map (fun x : Int × Int => x.2) ++ List.replicate (l.length - i.toNat) 0) wx))
          case first =>
            by_cases q1 : rd l i = 23
            · have d1 : (rd l i == 23) = true := beq_iff_eq.2 q1
              have HS : Aside0 (stA base a (rd l i) = pdiA a) := ⟨if_pos q1⟩
              clear q1
              go_wp2_with (go_at_call 27; refine (pdi_c g a i (by omega) HA.out.1 _ HI.out.st).mono ?_; rintro e w4 ⟨rfl, h4, g4⟩; have HN := Aside0.mk (HI.out.grown HG.out g4 h4); clear h4 g4)
              go_meet
              case rel => rw [HS.out]; exact HN
            · have d1 : (rd l i == 23) = false := beq_eq_false_iff_ne.2 q1
              by_cases q2 : rd l i = 11
              · have d2 : (rd l i == 11) = true := beq_iff_eq.2 q2
                have HS : Aside0 (stA base a (rd l i) = newA base) := ⟨(if_neg q1).trans (if_pos q2)⟩
                clear q1 q2
                obtain ⟨Cg, hCg, hCr⟩ := HI.out.st
                have HCg := Aside0.mk (And.intro hCg hCr)
                clear hCg hCr
                go_wp2_with (first
                  | (go_at_call 26; refine (begun_c base _).mono ?_; rintro e w4 ⟨rfl, hb4⟩; have HB4 := Aside0.mk hb4; clear hb4)
                  | (refine wpList_store_row rfl 47 (.tmp 13) (.tmp 69) rfl g (C0 base) rfl rfl 47 Cg ((HB4.out.block _ (blk_lt HCg.out.1)).trans HCg.out.1) (by rw [c0_size]; exact size47) (by rw [HCg.out.2.1, c0_size]) (c0_one base) ?_))
                go_meet
                case rel =>
                  rw [HS.out]
                  exact ⟨(HI.out.below HB4.out).grown HG.out (grown_setRow _ g (C0 base)) (c0_holds (setRow_heap _ g Cg _ 47 _ ((HB4.out.block _ (blk_lt HCg.out.1)).trans HCg.out.1)))⟩
              · have d2 : (rd l i == 11) = false := beq_eq_false_iff_ne.2 q2
                have HS : Aside0 (stA base a (rd l i) = a) := ⟨(if_neg q1).trans (if_neg q2)⟩
                clear q1 q2
                go_wp2
                go_meet
                case rel => rw [HS.out]; exact HI
          clear HI
          have HI := hcut
          clear hcut
          have HWf := Aside0.mk (HA.out.1.st hi0 hb0 hb1 (rd l i))
          have HTop : Aside0 (∃ (n : Nat) (lev ov : Int) (is : Bool), topA (stA base a (rd l i)) = (lev, ov, is) ∧ n < 127 ∧ 0 ≤ lev ∧ lev ≤ 125 ∧ (ov = 0 ∨ ov = 1 ∨ ov = 2) ∧ wc.cell? ⟨g, 381, none⟩ = some (.int .i64 (n : Int)) ∧ wc.cell? ⟨g, n * 3, none⟩ = some (.int .u8 lev) ∧ wc.cell? ⟨g, n * 3 + 1, none⟩ = some (.int .u8 ov) ∧ wc.cell? ⟨g, n * 3 + 2, none⟩ = some (.bool is)) := ⟨holds_top HI.out.st HWf.out⟩
          obtain ⟨n, lev, ov, is, HT, hn1, hl0, hl1, hov, x1, x2, x3, x4⟩ := HTop.out
          have HTT := Aside0.mk HT
          clear HT HTop hx
          have d5c : (n : Int) < 127 := by omega
          have d5 : decide ((n : Int) < 127) = true := decide_eq_true (by omega)
          go_upto_region 25 with (fail)
          have hy := HA.out.2.1
          have HX1 : Aside0 (∀ v u : Int, ((ys.map (fun x : Int × Int => x.1) ++ List.replicate (l.length - i.toNat) 0).set i.toNat v) = ys.map (fun x : Int × Int => x.1) ++ v :: List.replicate (l.length - (i + 1).toNat) 0 ∧ (((ys.map (fun x : Int × Int => x.1) ++ List.replicate (l.length - i.toNat) 0).set i.toNat u).set i.toNat v) = ys.map (fun x : Int × Int => x.1) ++ v :: List.replicate (l.length - (i + 1).toNat) 0) := ⟨fun v u => ⟨lv_row (ys := ys) hi0 hlt hy, lv_row2 (ys := ys) hi0 hlt hy⟩⟩
          have HX2 : Aside0 (∀ v u : Int, ((ys.map (fun x : Int × Int => x.2) ++ List.replicate (l.length - i.toNat) 0).set i.toNat v) = ys.map (fun x : Int × Int => x.2) ++ v :: List.replicate (l.length - (i + 1).toNat) 0 ∧ (((ys.map (fun x : Int × Int => x.2) ++ List.replicate (l.length - i.toNat) 0).set i.toNat u).set i.toNat v) = ys.map (fun x : Int × Int => x.2) ++ v :: List.replicate (l.length - (i + 1).toNat) 0) := ⟨fun v u => ⟨lv_row (ys := ys) hi0 hlt hy, lv_row2 (ys := ys) hi0 hlt hy⟩⟩
          have hXl1 : (i : Int) < (ys.map (fun x : Int × Int => x.1) ++ List.replicate (l.length - i.toNat) 0).length := by simp; omega
          have hXl2 : (i : Int) < (ys.map (fun x : Int × Int => x.2) ++ List.replicate (l.length - i.toNat) 0).length := by simp; omega
          generalize (ys.map (fun x : Int × Int => x.1) ++ List.replicate (l.length - i.toNat) 0) = X1 at HI HX1 hXl1
          generalize (ys.map (fun x : Int × Int => x.2) ++ List.replicate (l.length - i.toNat) 0) = X2 at HI HX2 hXl2
          clear hy x1 x2 x3 x4 d5c d5 hn1
          have HL1 := Aside0.mk (And.intro hXl1 hXl2)
          clear hXl1 hXl2
          generalize hW2 : wc.alloc (.cells #[.int .u8 lev, .int .u8 ov, .bool is] 44) = W2
          have HE : Aside0 (W2.heap[wc.heap.size]? = some (.cells #[.int .u8 lev, .int .u8 ov, .bool is] 44 (0, 0))) := ⟨by rw [← hW2]; exact heap_alloc_new wc _⟩
          replace HI : Aside0 (LvK w (some ad) c0 l gl gc ga g Am cm (stA base a (rd l i)) X1 X2 W2) := ⟨by rw [← hW2]; exact HI.out.alloc _⟩
          clear hW2
          generalize wc.heap.size = gx at HE ⊢
          have e0 := (blk_cell HE.out 0).trans rfl
          have c1 := HI.out.r1.cell i hi0 HL1.out.1
          have c2 := HI.out.r2.cell i hi0 HL1.out.2
          have f1 := blk_frozen HI.out.r1 i.toNat
          have f2 := blk_frozen (HI.out.set1 HG.out i lev).r2 i.toNat
          have c3 := (HI.out.set1 HG.out i lev).r2.cell i hi0 HL1.out.2
          have di0 : decide (0 ≤ i) = true := decide_eq_true hi0
          go_upto_block 6 with (fail)
          generalize hW3 : (W2.setCell ⟨gl, i.toNat, none⟩ (.int .u8 lev)).setCell ⟨gc, i.toNat, none⟩ (.int .u8 (rd l i)) = W3
          have nx1 := blk_ne HE.out HI.out.r1 (by decide)
          have nx2 := blk_ne HE.out HI.out.r2 (by decide)
          replace HI : Aside0 (LvK w (some ad) c0 l gl gc ga g Am cm (stA base a (rd l i)) (X1.set i.toNat lev) (X2.set i.toNat (rd l i)) W3) := ⟨by rw [← hW3]; exact (HI.out.set1 HG.out i lev).set2 HG.out i (rd l i)⟩
          replace HE : Aside0 (W3.heap[gx]? = some (.cells #[.int .u8 lev, .int .u8 ov, .bool is] 44 (0, 0))) := ⟨by
            rw [← hW3]
            exact blk_far (blk_far HE.out nx1 _) nx2 _⟩
          clear hW3 nx1 nx2 e0 c1 c2 f1 f2 c3
          have HLb : Aside0 ((i : Int) < (X1.set i.toNat lev).length ∧ (i : Int) < (X2.set i.toNat (rd l i)).length) := ⟨by rw [List.length_set, List.length_set]; exact HL1.out⟩
          have e1 := (blk_cell HE.out 1).trans rfl
          have c1 := HI.out.r1.cell i hi0 HLb.out.1
          have c2 := HI.out.r2.cell i hi0 HLb.out.2
          have f1 := blk_frozen HI.out.r1 i.toNat
          have f2 := blk_frozen HI.out.r2 i.toNat
          have c3 := (HI.out.set1 HG.out i bf).r2.cell i hi0 HLb.out.2
          have f3 := blk_frozen (HI.out.set1 HG.out i bf).r2 i.toNat
          go_cut [] (fun wx => Aside0 (LvK w (some ad) c0 l gl gc ga g Am cm (stA base a (rd l i)) (ys.map (fun x : Int × Int => x.1) ++ (outL bf (lev, ov, is) (rd l i)).1 :: List.replicate (l.length - (i + 1).toNat) 0) (ys.map (fun x : Int × Int => x.2) ++ (outL bf (lev, ov, is) (rd l i)).2 :: List.replicate (l.length - (i + 1).toNat) 0) wx))
          case first =>
            by_cases q1 : remC (rd l i) = true
            · have HO : Aside0 (outL bf (lev, ov, is) (rd l i) = (bf, 10)) := ⟨if_pos q1⟩
              have HR := Aside0.mk ((removed_f (rd l i)).trans (congrArg some q1))
              clear q1
              go_wp2_with (go_at_call 28; refine (explicit_removed.calls (rd l i) true _ HR.out).mono ?_; rintro e w4 ⟨rfl, hd⟩; obtain ⟨nd, rfl⟩ := hd.out; clear hd; have c3b : ((W3.drewN nd).setCell ⟨gl, i.toNat, none⟩ (.int .u8 bf)).cell? ⟨gc, i.toNat, none⟩ = _ := c3; have f3b : ((W3.drewN nd).setCell ⟨gl, i.toNat, none⟩ (.int .u8 bf)).frozen? ⟨gc, i.toNat, none⟩ = false := f3)
              go_meet
              case rel =>
                rw [HO.out]
                have := ((HI.out.drawn nd).set1 HG.out i bf).set2 HG.out i 10
                rw [(HX1.out bf lev).2, (HX2.out 10 (rd l i)).2] at this
                exact ⟨this⟩
            · have HR := Aside0.mk ((removed_f (rd l i)).trans (congrArg some (Bool.eq_false_iff.2 q1)))
              by_cases q2 : ov = 0
              · have d1 : (ov != 0) = false := by rw [q2]; rfl
                have HO : Aside0 (outL bf (lev, ov, is) (rd l i) = (lev, rd l i)) := ⟨(if_neg q1).trans (by rw [if_neg (fun q => q q2)])⟩
                clear q1 q2
                go_wp2_with (go_at_call 28; refine (explicit_removed.calls (rd l i) false _ HR.out).mono ?_; rintro e w4 ⟨rfl, hd⟩; obtain ⟨nd, rfl⟩ := hd.out; clear hd)
                go_meet
                case rel =>
                  rw [HO.out]
                  have := HI.out.drawn nd
                  rw [(HX1.out lev 0).1, (HX2.out (rd l i) 0).1] at this
                  exact ⟨this⟩
              · have d1 : (ov != 0) = true := by simpa using q2
                have HO : Aside0 (outL bf (lev, ov, is) (rd l i) = (lev, ov)) := ⟨(if_neg q1).trans (by rw [if_pos q2])⟩
                clear q1 q2
                go_wp2_with (go_at_call 28; refine (explicit_removed.calls (rd l i) false _ HR.out).mono ?_; rintro e w4 ⟨rfl, hd⟩; obtain ⟨nd, rfl⟩ := hd.out; clear hd)
                go_meet
                case rel =>
                  rw [HO.out]
                  have := (HI.out.drawn nd).set2 HG.out i ov
                  rw [(HX1.out lev 0).1, (HX2.out ov (rd l i)).2] at this
                  exact ⟨this⟩
          clear HI HE e1 c1 c2 f1 f2 c3 f3 HLb HL1
          have HI := hcut
          clear hcut
          have HO := Aside0.mk (And.intro (rfl : outL bf (lev, ov, is) (rd l i) = outL bf (lev, ov, is) (rd l i)) HTT.out)
          have hyl := HA.out.2.1
          have hlen5 : (i : Int) < (ys.map (fun x : Int × Int => x.1) ++ (outL bf (lev, ov, is) (rd l i)).1 :: List.replicate (l.length - (i + 1).toNat) 0).length := by simp; omega
          have hrd5 : rd (ys.map (fun x : Int × Int => x.1) ++ (outL bf (lev, ov, is) (rd l i)).1 :: List.replicate (l.length - (i + 1).toNat) 0) i = (outL bf (lev, ov, is) (rd l i)).1 := E.rd_mid' (by simp; omega)
          have c1 := HI.out.r1.cell i hi0 hlen5
          rw [hrd5] at c1
          have a0 := (blk_cell HI.out.al 0).trans rfl
          have a1 := (blk_cell HI.out.al 1).trans rfl
          clear hyl hlen5 hrd5
          obtain ⟨_, hcm, hCm⟩ := Kd.R_reads' HI.out.mt
          have HCm := Aside0.mk (And.intro hcm hCm)
          clear hcm hCm
          generalize hbf2 : (outL bf (lev, ov, is) (rd l i)).1 = bf2 at c1
          have HBF := Aside0.mk hbf2
          clear hbf2
          have hu40 := Try.underlying40
          go_wp2_with (go_at_call 29; refine (take_c g (stA base a (rd l i)) i (by omega) HWf.out _ HI.out.st (some ad) Am c0 cm l (by omega) (Kd.C_below HR0.out.1 HI.out.bl) HR0.out.2 HCm.out.2 HCm.out.1 i hi0 hlt).mono ?_; rintro e w6 ⟨rfl, h6, g6⟩; have HN := Aside0.mk (HI.out.grown HG.out g6 h6); clear h6 g6)
          go_roundw
          case rel =>
            refine ⟨i + 1, takeA (stA base a (rd l i)) (rd l i) (dirI (dirS true (l.drop (i + 1).toNat) 0)), bf2, ys ++ [outL bf (lev, ov, is) (rd l i)], by omega, by omega, by go_num, rfl, ⟨?_⟩, ⟨HWf.out.take _ _, by simp; have := HA.out.2.1; omega, ?_⟩⟩
            · rw [lv_row3, lv_row3]
              exact HN.out
            · rw [← HBF.out, ← HTT.out]
              exact lv_next hi0 hlt HA.out.2.2
          case measure => simp [intOf]; omega
        · obtain rfl : i = (l.length : Int) := by omega
          go_wp2
          have h0 : l.length - (l.length : Int).toNat = 0 := by simp
          have hys : ys = runL base l (newA base) base := by
            have := HA.out.2.2
            rw [List.drop_of_length_le (by simp)] at this
            simpa [runL] using this
          have h1 := HI.out.r1
          have h2 := HI.out.r2
          rw [h0] at h1 h2
          simp only [List.replicate_zero, List.append_nil] at h1 h2
          have n12 := blk_ne h1 h2 (by decide)
          have e1 : (ys.map (fun x : Int × Int => x.1)).length = l.length := by rw [hys, List.length_map, runL_len]
          have e2 : (ys.map (fun x : Int × Int => x.2)).length = l.length := by rw [hys, List.length_map, runL_len]
          have k1 := h1.toR (base := w.heap.size) (ok := fun k_ => some k_ ≠ (Value.slice (some ⟨gc, 0, none⟩) l.length l.length).ownBlock) HG.out.1 (by rw [e1]; omega) (fun e => n12 (by simpa [Value.ownBlock] using e))
          have k2 := h2.toR (base := w.heap.size) (ok := fun k_ => some k_ ≠ (Value.slice (some ⟨gl, 0, none⟩) l.length l.length).ownBlock) HG.out.2.1 (by rw [e2]; omega) (fun e => n12 (by simpa [Value.ownBlock] using e.symm))
          rw [e1] at k1
          rw [e2] at k2
          rw [hys] at k1 k2
          refine bodyPost_ret (results_tmp4_ rfl _ _ _) rfl ?_
          exact ⟨_, _, rfl, k1, k2, HI.out.bl⟩
end Go.Proofs.Ytdkbkecnhebanaa.X
