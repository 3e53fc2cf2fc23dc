import Derived.Test.YtofiflhjlohakaaT4
import Derived.Test.YtofiflhjlohakaaT5
import Derived.Test.YtofiflhjlohakaaT1
import Derived.Test.YtofiflhjlohakaaT10
import Derived.Deep.RegionHeld3
import Derived.Carry
import Derived.Deep.Cut
import Derived.Deep.CutBlock
/-! runs.Sequences: its walk. -/
namespace Go.Proofs.Ytofiflhjlohakaa.X
open Go.RowKit Go.Proofs.YtofiflhjlohakaaW.PrintWords Go.Proofs.YtofiflhjlohakaaW.PrintLast Go.Proofs.YtofiflhjlohakaaW.PrintMore
attribute [local go_sem] max2_int min2_int max_two min_two max_three min_three max_four min_four
set_option linter.unusedVariables false
set_option linter.unusedSimpArgs false
theorem info60 : (Try.prog.info? 60).map (fun i => (i.zero, i.size, i.bytes)) = some (some (.pointer none), 1, 8) := by kernel_rfl
set_option maxHeartbeats 8000000 in
set_option maxRecDepth 100000 in
theorem seq_ok (A0 : Option Addr) (c0 : Nat) (l : List Int) (A1 : Option Addr) (c1 : Nat) (lev : List Int) (base : Int) (w : World) (hr0 : Kd.C (Kd.int .u8) w A0 l.length l) (hc0 : l.length ≤ c0) (hr1 : Kd.C (Kd.int .u8) w A1 lev.length lev) (hc1 : lev.length ≤ c1)
    (h0 : l.length ≤ 65536) (h1 : lev.length = l.length) (hlv : ∀ x ∈ lev, 0 ≤ x ∧ x ≤ 255) (hb : 0 ≤ base ∧ base ≤ 255) (m ah be : List Int) (hml : m.length = l.length) (hmv : ∀ x ∈ m, -1 ≤ x ∧ x ≤ 1000000) (hah : ah.length = l.length ∧ ∀ x ∈ ah, 0 ≤ x ∧ x ≤ 255) (hbe : be.length = l.length ∧ ∀ x ∈ be, 0 ≤ x ∧ x ≤ 255) (k1 k2 : Nat) (hm : explicit_Match.f k1 l = some m) (hn : runs_neighbours.f k2 l lev base = some (ah, be)) :
    Calls Try.prog 10 #[.slice A0 l.length c0, .slice A1 lev.length c1, .int .u8 base] w fun e w' => ∃ v0_ : Value, e = .returned (.tuple #[v0_, .int .i64 0]) ∧ Kd.S k36 36 w' w.heap.size (fun _ => True) v0_ ((sqF l lev m ah l 0 sq0).all.map (sqEos l lev m be base)) ∧ Below w.heap.size w w' := by
  rw [sqF_all]
  have d0 : decide (65536 < (l.length : Int)) = false := decide_eq_false (by omega)
  have d1 : ((l.length : Int) != (lev.length : Int)) = false := by rw [h1]; simp
  have d1' : ((l.length : Int) == (lev.length : Int)) = true := by rw [h1]; simp
  have hmm := @run_makeMap Try.prog
  have HA := Aside0.mk (And.intro hr0 (And.intro hc0 (And.intro hr1 (And.intro hc1 (And.intro h0 h1)))))
  have HN := Aside0.mk (And.intro hm hn)
  have HM := Aside0.mk (And.intro hlv (And.intro hml (And.intro hmv (And.intro hah hbe))))
  have HBA := Aside0.mk hb
  clear hb
  clear hr0 hc0 hr1 hc1 h0 h1 hm hn hlv hml hmv hah hbe
  go_enter Try.func10, Try.ntmps10
  go_wp2_with (go_at_call 20; fail)
  obtain ⟨w1, hw1⟩ : ∃ w1, w.alloc (.cells #[.slice A0 l.length c0] 22) = w1 := ⟨_, rfl⟩
  have x3 : w1.heap[w.heap.size]? = some (.cells #[.slice A0 l.length c0] 22) := by rw [← hw1]; exact heap_alloc_new w _
  have B1 : Below w.heap.size w w1 := by rw [← hw1]; exact below_alloc (Below.refl _ _) _
  rw [hw1]
  refine (explicit_Match.calls k1 A0 c0 l m w1 (Kd.C_below HA.out.1 B1) HA.out.2.1 HN.out.1).mono ?_
  rintro e w2 ⟨vm, rfl, hR, hB⟩
  obtain ⟨Am, cm, em⟩ := Kd.R_slice hR
  subst em
  have B2 := below_step B1 hB
  have x3' := blk_below x3 hB
  have X2 := Aside0.mk (And.intro B2 (And.intro x3' (And.intro hR B1)))
  have y3 := (blk_cell x3' 0).trans rfl
  clear x3 x3' B1 B2 hB hR hw1
  obtain ⟨g3, hg3⟩ : ∃ g3, w.heap.size = g3 := ⟨_, rfl⟩
  have HG := Aside0.mk hg3
  rw [hg3] at y3 ⊢
  clear hg3
  obtain ⟨w3, hw3⟩ : ∃ w3, w2.alloc (.cells #[.slice Am m.length cm] 33) = w3 := ⟨_, rfl⟩
  have HW3 := Aside0.mk hw3
  clear hw3
  go_upto_region 6 with (fail)
  have hw3 := HW3.out
  clear HW3
  have B3 : Below w.heap.size w w3 := by rw [← hw3]; exact below_alloc X2.out.1 _
  have x3 : w3.heap[g3]? = some (.cells #[.slice A0 l.length c0] 22) := by rw [← hw3]; exact blk_alloc (HG.out ▸ X2.out.2.1) _
  have x8 : w3.heap[w2.heap.size]? = some (.cells #[.slice Am m.length cm] 33) := by rw [← hw3]; exact heap_alloc_new _ _
  have r8 : Kd.R (Kd.int .i64) 3 w3 w.heap.size (fun _ => True) (.slice Am m.length cm) m := by
    rw [← hw3]
    exact Kd.R_lower (Kd.R_alloc X2.out.2.2.1 _) X2.out.2.2.2.size
  clear y3
  rw [hw3]
  have y3 := (blk_cell x3 0).trans rfl
  have X3 := Aside0.mk (And.intro B3 (And.intro x3 (And.intro x8 r8)))
  clear B3 x3 x8 r8 hw3
  go_wp2_with (go_at_call 21; fail)
  refine (runs_neighbours.calls k2 A0 c0 l A1 c1 lev base ah be w3 (Kd.C_below HA.out.1 X3.out.1) HA.out.2.1 (Kd.C_below HA.out.2.2.1 X3.out.1) HA.out.2.2.2.1 HN.out.2).mono ?_
  rintro e w4 ⟨va, vb, rfl, hRa, hRb, hB⟩
  obtain ⟨Aa, ca, ea⟩ := Kd.R_slice hRa
  subst ea
  obtain ⟨Ab, cb, eb⟩ := Kd.R_slice hRb
  subst eb
  have B4 := below_step X3.out.1 hB
  have X4 := Aside0.mk (And.intro B4 (And.intro (blk_below X3.out.2.1 hB) (And.intro (blk_below X3.out.2.2.1 hB) (And.intro (Kd.R_below X3.out.2.2.2 hB) (And.intro hRa hRb)))))
  clear y3 hB hRa hRb B4
  obtain ⟨g8, hg8⟩ : ∃ g8, w2.heap.size = g8 := ⟨_, rfl⟩
  rw [hg8]
  have HG8 := Aside0.mk hg8
  clear hg8
  go_upto_region 12 with (fail)
  obtain ⟨g11, h11⟩ : ∃ g, w4.heap.size + 1 = g := ⟨_, rfl⟩
  rw [h11]
  obtain ⟨g13, h13⟩ : ∃ g, g11 + 1 = g := ⟨_, rfl⟩
  rw [h13]
  obtain ⟨g14, h14⟩ : ∃ g, g13 + 1 = g := ⟨_, rfl⟩
  rw [h14]
  obtain ⟨bm, hbm⟩ : ∃ g, w4.heap.size = g := ⟨_, rfl⟩
  obtain ⟨w5, hw5⟩ : ∃ w5, ((((w4.alloc (.map #[] 0)).alloc (.cells #[.map (some w4.heap.size)] 58)).alloc (.cells #[.pointer none] 60)).alloc (.cells #[.int .i64 (-1)] 3)) = w5 := ⟨_, rfl⟩
  have HS := Aside0.mk (SqRel.start w4 w5 hw5)
  rw [hw5, hbm]
  have HQ := Aside0.mk (And.intro hbm (And.intro (show w4.heap.size + 1 = g11 from h11) (And.intro (show w4.heap.size + 2 = g13 by omega) (show w4.heap.size + 3 = g14 by omega))))
  clear hbm h11 h13 h14 hw5
  have y3 := (blk_cell (blk_below X4.out.2.1 HS.out.be) 0).trans rfl
  go_wp2
  clear y3
  go_loopw [12, 46] (fun v12 v46 wr => ∃ (i : Nat) (G : Nat → Nat) (PV : Nat → Value) (n : Nat), i ≤ l.length ∧ v46 = .int .i64 (i : Int) ∧ Aside0 (SqRel w4 G PV n (if (sqAt l lev m ah i).last < 0 then none else some (G (sqAt l lev m ah i).now)) (sqAt l lev m ah i) v12 wr ∧ n ≤ i)) (fun _ v46 _ => l.length - (intOf v46).toNat)
  case atStart => exact ⟨0, _, _, 0, Nat.zero_le _, rfl, ⟨HS.out, Nat.le_refl _⟩⟩
  case round =>
    clear HS
    obtain ⟨i, G, PV, n, hi, rfl, HR⟩ := hrel
    by_cases hlt : (i : Int) < (l.length : Int)
    · have dl : decide ((i : Int) < (l.length : Int)) = true := decide_eq_true hlt
      have d0 : decide (0 ≤ (i : Int)) = true := decide_eq_true (by omega)
      have hl5 := Kd.C_below HA.out.1 (below_step X4.out.1 HR.out.1.be)
      obtain ⟨al, el, hxl, pl, ql⟩ := atI hl5 (i : Int)
      cases el
      have hb : i ≤ 65535 := by have := HA.out; omega
      have HI := Aside0.mk (And.intro hi hlt)
      clear hi hlt hl5
      obtain ⟨c, hc⟩ : ∃ c, rd l (i : Int) = c := ⟨_, rfl⟩
      rw [hc, Int.toNat_natCast] at hxl
      have HC := Aside0.mk hc
      clear hc
      cases hrem : remC c with
      | true =>
        have hst : sqAt l lev m ah (i + 1) = sqAt l lev m ah i := by
          show sqStep l lev m ah i (sqAt l lev m ah i) = _
          unfold sqStep
          rw [HC.out, if_pos hrem]
        have HST := Aside0.mk hst
        clear hst
        go_wp2_with (go_at_call 24; refine (removed_c c _).mono ?_; rintro e w1 ⟨rfl, hw⟩; obtain rfl := hw.symm; rw [hrem])
        go_roundw
        case measure => have := HI.out; simp [intOf]; omega
        case rel => exact ⟨i + 1, G, PV, n, by have := HI.out; omega, (by first | rfl | go_num), ⟨by rw [HST.out]; exact HR.out.1, by have := HR.out.2; omega⟩⟩
      | false =>
        have hok := sqAt_ok l lev m ah i
        have hst : sqAt l lev m ah (i + 1) = if (sqAt l lev m ah i).last < 0 ∨ rd lev (sqAt l lev m ah i).last ≠ rd lev i then sqPut i (sqTurn l lev m ah i (sqAt l lev m ah i)) else sqPut i (sqAt l lev m ah i) := by
          show sqStep l lev m ah i (sqAt l lev m ah i) = _
          unfold sqStep
          rw [HC.out, if_neg (by rw [hrem]; decide)]
        obtain ⟨st, est⟩ : ∃ st, sqAt l lev m ah i = st := ⟨_, rfl⟩
        rw [est] at hok hst HR
        have HST := Aside0.mk hst
        have HOK := Aside0.mk hok
        clear hst hok est
        go_upto_region 16 with (go_at_call 24; refine (removed_c c _).mono ?_; rintro e w1 ⟨rfl, hw⟩; obtain rfl := hw.symm; rw [hrem])
        have x14 := (blk_cell HR.out.1.h14 0).trans rfl
        rw [HQ.out.2.2.2] at x14
        have hlv := Kd.C_below HA.out.2.2.1 (below_step X4.out.1 HR.out.1.be)
        have el := HA.out.2.2.2.2.2
        have di : decide ((i : Int) < (lev.length : Int)) = true := decide_eq_true (by have := HI.out; omega)
        clear el
        obtain ⟨av, ev, hxv, pv, qv⟩ := atI hlv (i : Int)
        cases ev
        rw [Int.toNat_natCast] at hxv
        clear hlv
        by_cases ql : st.last < 0
        · have bl : decide (st.last < 0) = true := decide_eq_true ql
          clear ql
          go_quiet (fail)
          go_wp2_with (go_at_call 22; fail)
          have HRq := Aside0.mk (And.intro (HR.out.1.below (pw_below_drewN (Below.refl _ _) nq)) HR.out.2)
          clear x14 HR hxl hxv
          generalize wr.drewN nq = wq at HRq ⊢
          have E := ends_any w4 wq G PV n g8 g3 c0 cm (some al) Am l m st _ HRq.out.1 HOK.out.l0 (by have := HOK.out.l1; have := HI.out; omega) HM.out.2.1 HM.out.2.2.1 (by have := HRq.out.2; omega) (HG8.out ▸ blk_below X4.out.2.2.1 HRq.out.1.be) (blk_below X4.out.2.1 HRq.out.1.be) (Kd.C_below HA.out.1 (below_step X4.out.1 HRq.out.1.be)) (Kd.C_below (Kd.R_reads' X4.out.2.2.2.1).2.2 HRq.out.1.be)
          rw [HQ.out.2.1, HQ.out.2.2.1, HQ.out.2.2.2] at E
          refine E.mono ?_
          rintro e w6 ⟨rfl, HE⟩
          clear E
          have y11 := (blk_cell HE.h11 0).trans rfl
          rw [HQ.out.2.1, HQ.out.1] at y11
          have y13 := (blk_cell HE.h13 0).trans rfl
          have f13 := blk_frozen HE.h13 0
          rw [HQ.out.2.2.1] at y13 f13
          have HE1 := Aside0.mk (And.intro HE HRq.out.2)
          clear HE HRq
          have hwf : (Lit.int .i64 (i : Int)).wf = true := by simp [Lit.wf, IntKind.min, IntKind.max, IntKind.signed, IntKind.bits]; omega
          have HWF := Aside0.mk hwf
          clear hwf
          cases hlk : sqWait l m st i with
          | some s =>
            have HLK := Aside0.mk hlk
            clear hlk
            have HK := Aside0.mk (HE1.out.1.setNow (some (G s)) s)
            rw [HQ.out.2.2.1] at HK
            have z11 : (w6.setCell ⟨g13, 0, none⟩ (.pointer (some ⟨G s, 0, none⟩))).cell? ⟨g11, 0, none⟩ = some (.map (some bm)) := by
              have := (blk_cell HK.out.h11 0).trans rfl
              rw [HQ.out.2.1, HQ.out.1] at this
              exact this
            have HM6 : Aside0 (mapIs w6 bm (n + 1) (fun k => (sqWait l m st k).map G) ∧ mapIs (w6.setCell ⟨g13, 0, none⟩ (ptrV (some (G s)))) bm (n + 1) (fun k => (sqWait l m st k).map G)) := ⟨by have := HE1.out.1.mp; rw [HQ.out.1] at this; exact this, by have := HK.out.mp; rw [HQ.out.1] at this; exact this⟩
            go_upto_region 23 with (first | (at_lookup; refine wp_look rfl _ _ rfl bm (n + 1) _ rfl HM6.out.1 (i : Int) rfl HWF.out (.pointer (some ⟨G s, 0, none⟩)) (by rw [HLK.out]; rfl) ?_) | (at_delete; refine wp_del rfl _ _ rfl bm (n + 1) _ rfl HM6.out.2 (i : Int) rfl HWF.out ?_; intro w7 hM7 hT7; have H7 := Aside0.mk (And.intro hM7 hT7); clear hM7 hT7))
            have hup : (fun k => ((upW (sqWait l m st) (i : Int) none) k).map G) = upW (fun k => (sqWait l m st k).map G) (i : Int) none := by
              funext k
              unfold upW
              split <;> rfl
            have HP : Aside0 (SqRel w4 G PV (n + 1) (some (G s)) ⟨st.all, s, st.last, upW (sqWait l m st) (i : Int) none⟩ u12 w7 ∧ n + 1 ≤ i + 1) := ⟨HK.out.ends _ (n + 1) (by rw [hup, HQ.out.1]; exact H7.out.1) (by rw [HQ.out.1]; exact H7.out.2), by have := HE1.out.2; omega⟩
            have hturn : sqTurn l lev m ah i st = ⟨st.all, s, st.last, upW (sqWait l m st) (i : Int) none⟩ := by
              unfold sqTurn
              rw [HLK.out]
            have HMID := Aside0.mk (HOK.out.turn l lev m ah)
            rw [hturn] at HMID
            have HNX : Aside0 (sqAt l lev m ah (i + 1) = sqPut i ⟨st.all, s, st.last, upW (sqWait l m st) (i : Int) none⟩) := ⟨by rw [HST.out, if_pos (.inl (of_decide_eq_true bl)), hturn]⟩
            clear z11 y11 y13 f13 HK HE1 HM6 HLK H7 hup hturn HOK HST
            generalize hst1 : (⟨st.all, s, st.last, upW (sqWait l m st) (i : Int) none⟩ : SqSt) = st1 at HP HMID HNX
            have hnow : G s = G st1.now := by rw [← hst1]
            clear hst1
            rw [hnow] at HP
            generalize n + 1 = n1 at HP
            obtain ⟨x, hx⟩ : ∃ x, st1.all[st1.now]? = some x := ⟨_, List.getElem?_eq_getElem HMID.out.nw⟩
            have hat := HP.out.1.sq.at' _ x hx
            obtain ⟨Ap, cp, ep⟩ := Kd.R_slice hat.2.2
            have hpl := HMID.out.pl _ x hx
            obtain ⟨gn, hgn⟩ : ∃ gn, G st1.now = gn := ⟨_, rfl⟩
            rw [hgn, ep] at hat
            have HAT := Aside0.mk (And.intro hat (And.intro hx (And.intro ep (And.intro hgn hpl.1))))
            have y13 : w7.cell? ⟨g13, 0, none⟩ = some (.pointer (some ⟨gn, 0, none⟩)) := by
              have := (blk_cell HP.out.1.h13 0).trans rfl
              rw [HQ.out.2.2.1, hgn] at this
              exact this
            have y0 : w7.cell? ⟨gn, 0, none⟩ = some (.slice Ap x.f0.length cp) := (blk_cell hat.2.1 0).trans rfl
            have hk1 : ∀ o : Obj, (w7.drew.alloc o).cell? ⟨g13, 0, none⟩ = some (.pointer (some ⟨gn, 0, none⟩)) ∧ (w7.drew.alloc o).cell? ⟨gn, 0, none⟩ = some (.slice Ap x.f0.length cp) := fun o => by
              constructor
              · have := (blk_cell (blk_alloc (blk_drew HP.out.1.h13) o) 0).trans rfl
                rw [HQ.out.2.2.1, hgn] at this
                exact this
              · exact (blk_cell (blk_alloc (blk_drew hat.2.1) o) 0).trans rfl
            have hk2 : ∀ w8, w7.drew.grownBy w8 (Value.slice Ap x.f0.length cp).ownBlock → w8.cell? ⟨g13, 0, none⟩ = some (.pointer (some ⟨gn, 0, none⟩)) ∧ w8.cell? ⟨gn, 0, none⟩ = some (.slice Ap x.f0.length cp) ∧ w8.frozen? ⟨gn, 0, none⟩ = false := fun w8 hg => by
              have hb := Kd.R_base hat.2.2
              have hty := Kd.R_typed hat.2.2
              constructor
              · have := (blk_cell (blk_grown (blk_drew HP.out.1.h13) hg (fun e => by have := hb _ e.symm; omega)) 0).trans rfl
                rw [HQ.out.2.2.1, hgn] at this
                exact this
              · have hq := blk_grown (blk_drew hat.2.1) hg (fun e => by
                  obtain ⟨D, hD⟩ := hty _ e.symm
                  rw [hat.2.1] at hD
                  injection hD with hD
                  injection hD with _ hD
                  cases hD)
                exact ⟨(blk_cell hq 0).trans rfl, blk_frozen hq 0⟩
            have HS1 := Aside0.mk hk1
            have HS2 := Aside0.mk hk2
            clear hk2
            have HS0 := Aside0.mk (And.intro y13 y0)
            have HRP := Aside0.mk (Kd.R_drew hat.2.2)
            have HLn : Aside0 ((x.f0.length + 1) * 8 ≤ 140737488355328) := ⟨by have := hpl.1; omega⟩
            have HBS : Aside0 (w4.heap.size + 4 ≤ w7.drew.heap.size) := ⟨by have := blk_lt HP.out.1.h14; show _ ≤ w7.heap.size; omega⟩
            clear y13 y0 hk1 hat hx ep hgn hpl
            try simp only [Act.put]
            refine start_ (n := 11) (S := fun w' => w'.cell? ⟨g13, 0, none⟩ = some (.pointer (some ⟨gn, 0, none⟩)) ∧ w'.cell? ⟨gn, 0, none⟩ = some (.slice Ap x.f0.length cp)) (ds := [10]) #[false, false, false, false, false, false, false, false, false, false, false] (by kernel_rfl) rfl rfl HS0.out (fun hHeld => ?_)
            generalize hwd : w7.drew = wd at HS1 HS2 HRP HBS hHeld ⊢
            refine pure_ (i := 5) (N := some 100) (v := ?_) (a' := ?_) #[false, false, false, false, false, true, false, false, false, false, false] rfl rfl (by kernel_rfl) (fun _ _ _ h => h) (Or.inl ⟨by rfl, ?_⟩) ?_ ?_
            rotate_left
            · intro w'
              go_simp
              with_reducible rfl
            rotate_left
            · simp only [Act.put, List.setIfInBounds_toArray, List.set_cons_zero, List.set_cons_succ, i64_w, i32_w]
              rfl
            refine take_ (i := 0) (N := some 95) (v := ?_) (a' := ?_) #[true, false, false, false, false, true, false, false, false, false, false] rfl rfl (by kernel_rfl) (fun _ _ _ h => h) (Or.inl ⟨by rfl, ?_⟩) hHeld ?_ ?_
            rotate_left
            · rintro w' ⟨s0, s1⟩
              go_simp
              with_reducible rfl
            rotate_left
            · simp only [Act.put, List.setIfInBounds_toArray, List.set_cons_zero, List.set_cons_succ, i64_w, i32_w]
              rfl
            refine take_ (i := 1) (N := some 96) (v := ?_) (a' := ?_) #[true, true, false, false, false, true, false, false, false, false, false] rfl rfl (by kernel_rfl) (fun _ _ _ h => h) (Or.inl ⟨by rfl, ?_⟩) hHeld ?_ ?_
            rotate_left
            · rintro w' ⟨s0, s1⟩
              go_simp
              with_reducible rfl
            rotate_left
            · simp only [Act.put, List.setIfInBounds_toArray, List.set_cons_zero, List.set_cons_succ, i64_w, i32_w]
              rfl
            refine pure_ (i := 2) (N := some 97) (v := ?_) (a' := ?_) #[true, true, true, false, false, true, false, false, false, false, false] rfl rfl (by kernel_rfl) (fun _ _ _ h => h) (Or.inl ⟨by rfl, ?_⟩) ?_ ?_
            rotate_left
            · intro w'
              go_simp
              with_reducible rfl
            rotate_left
            · simp only [Act.put, List.setIfInBounds_toArray, List.set_cons_zero, List.set_cons_succ, i64_w, i32_w]
              rfl
            refine pure_ (i := 3) (N := some 98) (v := ?_) (a' := ?_) #[true, true, true, true, false, true, false, false, false, false, false] rfl rfl (by kernel_rfl) (fun _ _ _ h => h) (Or.inl ⟨by rfl, ?_⟩) ?_ ?_
            rotate_left
            · intro w'
              go_simp
              with_reducible rfl
            rotate_left
            · simp only [Act.put, List.setIfInBounds_toArray, List.set_cons_zero, List.set_cons_succ, i64_w, i32_w]
              rfl
            refine take_ (i := 4) (N := some 99) (v := ?_) (a' := ?_) #[true, true, true, true, true, true, false, false, false, false, false] rfl rfl (by kernel_rfl) (fun _ _ _ h => h) (Or.inl ⟨by rfl, ?_⟩) hHeld ?_ ?_
            rotate_left
            · rintro w' ⟨s0, s1⟩
              go_simp
              with_reducible rfl
            rotate_left
            · simp only [Act.put, List.setIfInBounds_toArray, List.set_cons_zero, List.set_cons_succ, i64_w, i32_w]
              rfl
            refine one_ (i := 6) (N := some 101) #[true, true, true, true, true, true, true, false, false, false, false] rfl rfl (by kernel_rfl) (by decide) (fun K hK => ?_)
            refine value_ (v := .slice (some ⟨wd.heap.size, 0, none⟩) 1 1) (w1 := wd.alloc (.cells #[.int .i64 (i : Int)] 3)) (by rfl) rfl ?_ ?_
            · go_simp
            refine hK.out _ _ (HS1.out _) (fun hHeld => ?_)
            clear hK K
            refine norm_ (a' := ?_) ?_ ?_
            rotate_left
            · show Act.put _ (some 101) _ = _
              simp only [Act.put, List.setIfInBounds_toArray, List.set_cons_zero, List.set_cons_succ, i64_w, i32_w]
              rfl
            refine one_ (i := 7) (N := some 102) #[true, true, true, true, true, true, true, true, false, false, false] rfl rfl (by kernel_rfl) (by decide) (fun K hK => ?_)
            refine Kd.R_append_step (Kd.int .i64) (w0 := wd) (W := wd) (w4.heap.size + 4) (by rfl) (.tmp 99) (.tmp 101) 33 3 (.int .i64 0) 8 rfl Try.underlying33 info3 rfl (by decide) (by decide) (.slice Ap x.f0.length cp) x.f0 (i : Int) [.int .i64 (i : Int)] (fun _ => True) (fun _ => False) rfl rfl rfl (fun _ h => h.elim) (fun _ _ => trivial) HRP.out (Below.refl _ _) HBS.out HLn.out ?_
            intro v1 w8 hR8 hB8 hg8 hat8
            obtain ⟨A8, c8, e8⟩ := Kd.R_slice hR8
            subst e8
            have s7 := (HS2.out _ hg8).1
            have s8 := (HS2.out _ hg8).2.1
            have s9 := (HS2.out _ hg8).2.2
            have H8 := Aside0.mk (And.intro hR8 (And.intro hB8 (And.intro hg8 hat8)))
            clear hR8 hB8 hg8 hat8
            refine hK.out _ _ ⟨s7, s8⟩ (fun hHeld => ?_)
            clear hK K
            refine norm_ (a' := ?_) ?_ ?_
            rotate_left
            · show Act.put _ (some 102) _ = _
              simp only [Act.put, List.setIfInBounds_toArray, List.set_cons_zero, List.set_cons_succ, i64_w, i32_w]
              rfl
            refine pure_ (i := 8) (N := some 103) (v := ?_) (a' := ?_) #[true, true, true, true, true, true, true, true, true, false, false] rfl rfl (by kernel_rfl) (fun _ _ _ h => h) (Or.inl ⟨by rfl, ?_⟩) ?_ ?_
            rotate_left
            · intro w'
              go_simp
              with_reducible rfl
            rotate_left
            · simp only [Act.put, List.setIfInBounds_toArray, List.set_cons_zero, List.set_cons_succ, i64_w, i32_w]
              rfl
            refine pure_ (i := 9) (N := some 104) (v := ?_) (a' := ?_) #[true, true, true, true, true, true, true, true, true, true, false] rfl rfl (by kernel_rfl) (fun _ _ _ h => h) (Or.inl ⟨by rfl, ?_⟩) ?_ ?_
            rotate_left
            · intro w'
              go_simp
              with_reducible rfl
            rotate_left
            · simp only [Act.put, List.setIfInBounds_toArray, List.set_cons_zero, List.set_cons_succ, i64_w, i32_w]
              rfl
            refine last_ (i := 10) (N := none) #[true, true, true, true, true, true, true, true, true, true, true] rfl rfl (by kernel_rfl) (by decide) (fun K hK => ?_)
            refine skip_ (w1 := ?_) (by rfl) rfl ?_ ?_
            rotate_left
            · go_simp
              rfl
            refine hK.out _ _ ?_
            clear hK K
            refine done_ (by kernel_rfl) ?_
            have HPd := HP.out.1.below (w' := wd) (by rw [← hwd]; exact below_drew (Below.refl _ _))
            have HP9 := HPd.put x HAT.out.2.1 (i : Int) H8.out.1 (by rw [HAT.out.2.2.1]; exact H8.out.2.2.1) (by rw [HAT.out.2.2.1]; exact H8.out.2.2.2)
            rw [HAT.out.2.2.2.1, show (x.f0 ++ [(i : Int)]).length = x.f0.length + 1 from by simp] at HP9
            have HN1 := HP.out.2
            clear HPd s7 s8 s9 HP HS0 HS1 HS2 HRP HBS HLn hHeld hwd H8
            generalize w8.setCell ⟨gn, 0, none⟩ (.slice A8 (x.f0.length + 1) c8) = w9 at HP9 ⊢
            have y14 : w9.cell? ⟨g14, 0, none⟩ = some (.int .i64 st1.last) := by
              have := (blk_cell HP9.h14 0).trans rfl
              rw [HQ.out.2.2.2] at this
              exact this
            have f14 : w9.frozen? ⟨g14, 0, none⟩ = false := by
              have := blk_frozen HP9.h14 0
              rw [HQ.out.2.2.2] at this
              exact this
            have HP := Aside0.mk (And.intro HP9 HN1)
            clear HP9 HN1
            go_wp2
            go_roundw
            case measure => have := HI.out; simp [intOf]; omega
            case rel =>
              refine ⟨i + 1, G, upF PV st1.now (.slice A8 (x.f0.length + 1) c8), n1, by have := HI.out; omega, (by first | rfl | go_num), ⟨?_, HP.out.2⟩⟩
              rw [HNX.out]
              show SqRel w4 G _ n1 (if (sqPut (i : Int) st1).last < 0 then none else some (G st1.now)) _ u12 _
              have h9 := HP.out.1.setLast (i : Int)
              rw [HQ.out.2.2.2] at h9
              rw [if_neg (show ¬ (sqPut (i : Int) st1).last < 0 by show ¬ (i : Int) < 0; omega)]
              rw [← HAT.out.2.2.2.1] at h9
              exact h9
          | none =>
            have HLK := Aside0.mk hlk
            clear hlk
            have HK := Aside0.mk (HE1.out.1.setNow none st.now)
            rw [HQ.out.2.2.1] at HK
            have HM6 : Aside0 (mapIs w6 bm (n + 1) (fun k => (sqWait l m st k).map G)) := ⟨by have := HE1.out.1.mp; rw [HQ.out.1] at this; exact this⟩
            go_upto_region 20 with (at_lookup; refine wp_look rfl _ _ rfl bm (n + 1) _ rfl HM6.out (i : Int) rfl HWF.out (.pointer none) (by rw [HLK.out]; rfl) ?_)
            clear y11 y13 f13
            have HKA := Aside0.mk (And.intro HK.out HE1.out.2)
            clear HK HE1 HM6
            rw [show ptrV none = Value.pointer none from rfl] at HKA
            generalize w6.setCell ⟨g13, 0, none⟩ (.pointer none) = wA at HKA ⊢
            have HLev := Aside0.mk (Kd.C_below HA.out.2.2.1 (below_step X4.out.1 HKA.out.1.be))
            have HAh := Aside0.mk (Kd.C_below (Kd.R_reads' X4.out.2.2.2.2.1).2.2 HKA.out.1.be)
            have da : decide ((i : Int) < (ah.length : Int)) = true := decide_eq_true (by have := HI.out; have := HM.out.2.2.2.1.1; omega)
            obtain ⟨av3, ev3, hxv3, pv3, qv3⟩ := atI HLev.out (i : Int)
            cases ev3
            obtain ⟨aa, ea, hxa, pa, qa⟩ := atI HAh.out (i : Int)
            cases ea
            rw [Int.toNat_natCast] at hxv3 hxa
            have HS0 := Aside0.mk (And.intro hxv3 hxa)
            have HS1 : Aside0 (∀ w', Below wA.drew.heap.size wA.drew w' → w'.cell? (av.add i) = some (.int .u8 (rd lev (i : Int))) ∧ w'.cell? (aa.add i) = some (.int .u8 (rd ah (i : Int)))) := ⟨fun w' hb => ⟨(hb.cell (World.block_lt_of_cell? _ _ hxv3)).trans hxv3, (hb.cell (World.block_lt_of_cell? _ _ hxa)).trans hxa⟩⟩
            have hr1 := HM.out.1 (rd lev (i : Int)) (E.rd_mem (by omega) (by have := HI.out; have := HA.out.2.2.2.2.2; omega))
            have hr2 := HM.out.2.2.2.1.2 (rd ah (i : Int)) (E.rd_mem (by omega) (by have := HI.out; have := HM.out.2.2.2.1.1; omega))
            have HR12 := Aside0.mk (And.intro hr1 hr2)
            clear hr1 hr2 hxv3 hxa HLev HAh
            obtain ⟨vl, hvl⟩ : ∃ vl, rd lev (i : Int) = vl := ⟨_, rfl⟩
            obtain ⟨va, hva⟩ : ∃ va, rd ah (i : Int) = va := ⟨_, rfl⟩
            rw [hvl, hva] at HS0 HS1 HR12
            have HVL := Aside0.mk (And.intro hvl hva)
            clear hvl hva
            refine start_ (n := 17) (S := fun w' => w'.cell? (av.add i) = some (.int .u8 vl) ∧ w'.cell? (aa.add i) = some (.int .u8 va)) (ds := [16]) #[false, false, false, false, false, false, false, false, false, false, false, false, false, false, false, false, false] (by kernel_rfl) rfl rfl HS0.out (fun hHeld => ?_)
            generalize hwd : wA.drew = wd at HS1 hHeld ⊢
            refine pure_ (i := 0) (N := some 73) (v := ?_) (a' := ?_) #[true, false, false, false, false, false, false, false, false, false, false, false, false, false, false, false, false] rfl rfl (by kernel_rfl) (fun _ _ _ h => h) (Or.inl ⟨by rfl, ?_⟩) ?_ ?_
            rotate_left
            · intro w'
              go_simp
              with_reducible rfl
            rotate_left
            · simp only [Act.put, List.setIfInBounds_toArray, List.set_cons_zero, List.set_cons_succ, i64_w, i32_w]
              rfl
            refine pure_ (i := 1) (N := some 74) (v := ?_) (a' := ?_) #[true, true, false, false, false, false, false, false, false, false, false, false, false, false, false, false, false] rfl rfl (by kernel_rfl) (fun _ _ _ h => h) (Or.inl ⟨by rfl, ?_⟩) ?_ ?_
            rotate_left
            · intro w'
              go_simp
              with_reducible rfl
            rotate_left
            · simp only [Act.put, List.setIfInBounds_toArray, List.set_cons_zero, List.set_cons_succ, i64_w, i32_w]
              rfl
            refine pure_ (i := 2) (N := some 75) (v := ?_) (a' := ?_) #[true, true, true, false, false, false, false, false, false, false, false, false, false, false, false, false, false] rfl rfl (by kernel_rfl) (fun _ _ _ h => h) (Or.inl ⟨by rfl, ?_⟩) ?_ ?_
            rotate_left
            · intro w'
              go_simp
              with_reducible rfl
            rotate_left
            · simp only [Act.put, List.setIfInBounds_toArray, List.set_cons_zero, List.set_cons_succ, i64_w, i32_w]
              rfl
            refine take_ (i := 3) (N := some 76) (v := ?_) (a' := ?_) #[true, true, true, true, false, false, false, false, false, false, false, false, false, false, false, false, false] rfl rfl (by kernel_rfl) (fun _ _ _ h => h) (Or.inl ⟨by rfl, ?_⟩) hHeld ?_ ?_
            rotate_left
            · rintro w' ⟨s0, s1⟩
              go_simp
              with_reducible rfl
            rotate_left
            · simp only [Act.put, List.setIfInBounds_toArray, List.set_cons_zero, List.set_cons_succ, i64_w, i32_w]
              rfl
            refine pure_ (i := 4) (N := some 77) (v := ?_) (a' := ?_) #[true, true, true, true, true, false, false, false, false, false, false, false, false, false, false, false, false] rfl rfl (by kernel_rfl) (fun _ _ _ h => h) (Or.inl ⟨by rfl, ?_⟩) ?_ ?_
            rotate_left
            · intro w'
              go_simp
              with_reducible rfl
            rotate_left
            · simp only [Act.put, List.setIfInBounds_toArray, List.set_cons_zero, List.set_cons_succ, i64_w, i32_w]
              rfl
            refine pure_ (i := 5) (N := some 78) (v := ?_) (a' := ?_) #[true, true, true, true, true, true, false, false, false, false, false, false, false, false, false, false, false] rfl rfl (by kernel_rfl) (fun _ _ _ h => h) (Or.inl ⟨by rfl, ?_⟩) ?_ ?_
            rotate_left
            · intro w'
              go_simp
              with_reducible rfl
            rotate_left
            · simp only [Act.put, List.setIfInBounds_toArray, List.set_cons_zero, List.set_cons_succ, i64_w, i32_w]
              rfl
            refine pure_ (i := 6) (N := some 79) (v := ?_) (a' := ?_) #[true, true, true, true, true, true, true, false, false, false, false, false, false, false, false, false, false] rfl rfl (by kernel_rfl) (fun _ _ _ h => h) (Or.inl ⟨by rfl, ?_⟩) ?_ ?_
            rotate_left
            · intro w'
              go_simp
              with_reducible rfl
            rotate_left
            · simp only [Act.put, List.setIfInBounds_toArray, List.set_cons_zero, List.set_cons_succ, i64_w, i32_w]
              rfl
            refine take_ (i := 7) (N := some 80) (v := ?_) (a' := ?_) #[true, true, true, true, true, true, true, true, false, false, false, false, false, false, false, false, false] rfl rfl (by kernel_rfl) (fun _ _ _ h => h) (Or.inl ⟨by rfl, ?_⟩) hHeld ?_ ?_
            rotate_left
            · rintro w' ⟨s0, s1⟩
              go_simp
              with_reducible rfl
            rotate_left
            · simp only [Act.put, List.setIfInBounds_toArray, List.set_cons_zero, List.set_cons_succ, i64_w, i32_w]
              rfl
            refine pure_ (i := 8) (N := some 81) (v := ?_) (a' := ?_) #[true, true, true, true, true, true, true, true, true, false, false, false, false, false, false, false, false] rfl rfl (by kernel_rfl) (fun _ _ _ h => h) (Or.inl ⟨by rfl, ?_⟩) ?_ ?_
            rotate_left
            · intro w'
              go_simp
              with_reducible rfl
            rotate_left
            · simp only [Act.put, List.setIfInBounds_toArray, List.set_cons_zero, List.set_cons_succ, i64_w, i32_w]
              rfl
            refine pure_ (i := 9) (N := some 82) (v := ?_) (a' := ?_) #[true, true, true, true, true, true, true, true, true, true, false, false, false, false, false, false, false] rfl rfl (by kernel_rfl) (fun _ _ _ h => h) (Or.inl ⟨by rfl, ?_⟩) ?_ ?_
            rotate_left
            · intro w'
              go_simp
              with_reducible rfl
            rotate_left
            · simp only [Act.put, List.setIfInBounds_toArray, List.set_cons_zero, List.set_cons_succ, i64_w, i32_w]
              rfl
            refine pure_ (i := 10) (N := some 83) (v := ?_) (a' := ?_) #[true, true, true, true, true, true, true, true, true, true, true, false, false, false, false, false, false] rfl rfl (by kernel_rfl) (fun _ _ _ h => h) (Or.inl ⟨by rfl, ?_⟩) ?_ ?_
            rotate_left
            · intro w'
              go_simp
              with_reducible rfl
            rotate_left
            · simp only [Act.put, List.setIfInBounds_toArray, List.set_cons_zero, List.set_cons_succ, i64_w, i32_w]
              rfl
            refine take_ (i := 11) (N := some 84) (v := ?_) (a' := ?_) #[true, true, true, true, true, true, true, true, true, true, true, true, false, false, false, false, false] rfl rfl (by kernel_rfl) (fun _ _ _ h => h) (Or.inl ⟨by rfl, ?_⟩) hHeld ?_ ?_
            rotate_left
            · rintro w' ⟨s0, s1⟩
              go_simp
              with_reducible rfl
            rotate_left
            · simp only [Act.put, List.setIfInBounds_toArray, List.set_cons_zero, List.set_cons_succ, i64_w, i32_w]
              rfl
            refine one_ (i := 12) (N := some 85) #[true, true, true, true, true, true, true, true, true, true, true, true, true, false, false, false, false] rfl rfl (by kernel_rfl) (by decide) (fun K hK => ?_)
            refine value_ (v := .slice (some ⟨wd.heap.size, 0, none⟩) 2 2) (w1 := wd.alloc (.cells #[.int .u8 vl, .int .u8 va] 5)) (by rfl) rfl ?_ ?_
            · go_simp
            refine hK.out _ _ (HS1.out _ (below_alloc (Below.refl _ _) _)) (fun hHeld => ?_)
            clear hK K
            refine norm_ (a' := ?_) ?_ ?_
            rotate_left
            · show Act.put _ (some 85) _ = _
              simp only [Act.put, List.setIfInBounds_toArray, List.set_cons_zero, List.set_cons_succ, i64_w, i32_w]
              rfl
            refine one_ (i := 13) (N := some 86) #[true, true, true, true, true, true, true, true, true, true, true, true, true, true, false, false, false] rfl rfl (by kernel_rfl) (by decide) (fun K hK => ?_)
            have hl0 := heap_alloc_new wd (.cells #[.int .u8 vl, .int .u8 va] 5)
            refine goes_ Try.func25 (by kernel_rfl) rfl #[.slice (some ⟨wd.heap.size, 0, none⟩) 2 2] (by rfl) rfl rfl (by (try simp only [List.map_toArray, List.map_cons, List.map_nil]); first | done | rfl) ?_
            refine (side_c wd.heap.size vl va HR12.out.1.1 HR12.out.1.2 HR12.out.2.1 HR12.out.2.2 _ ((blk_cell hl0 0).trans rfl) ((blk_cell hl0 1).trans rfl)).mono ?_
            rintro e w' ⟨rfl, hw'⟩
            obtain rfl := hw'.symm
            refine ⟨_, rfl, ?_⟩
            refine hK.out _ _ (HS1.out _ (below_alloc (Below.refl _ _) _)) (fun hHeld => ?_)
            clear hK K
            refine norm_ (a' := ?_) ?_ ?_
            rotate_left
            · show Act.put _ (some 86) _ = _
              simp only [Act.put, List.setIfInBounds_toArray, List.set_cons_zero, List.set_cons_succ, i64_w, i32_w]
              rfl
            refine pure_ (i := 14) (N := some 87) (v := ?_) (a' := ?_) #[true, true, true, true, true, true, true, true, true, true, true, true, true, true, true, false, false] rfl rfl (by kernel_rfl) (fun _ _ _ h => h) (Or.inl ⟨by rfl, ?_⟩) ?_ ?_
            rotate_left
            · intro w'
              go_simp
              with_reducible rfl
            rotate_left
            · simp only [Act.put, List.setIfInBounds_toArray, List.set_cons_zero, List.set_cons_succ, i64_w, i32_w]
              rfl
            refine one_ (i := 15) (N := some 88) #[true, true, true, true, true, true, true, true, true, true, true, true, true, true, true, true, false] rfl rfl (by kernel_rfl) (by decide) (fun K hK => ?_)
            refine value_ (v := .pointer (some ⟨wd.heap.size + 1, 0, none⟩)) (w1 := (wd.alloc (.cells #[.int .u8 vl, .int .u8 va] 5)).alloc (.cells #[.slice none 0 0, .int .u8 vl, .int .u8 (sideV (mx vl va)), .int .u8 0] 36)) (by rfl) rfl ?_ ?_
            · go_simp
            refine hK.out _ _ (HS1.out _ (below_alloc (below_alloc (Below.refl _ _) _) _)) (fun hHeld => ?_)
            clear hK K
            refine norm_ (a' := ?_) ?_ ?_
            rotate_left
            · show Act.put _ (some 88) _ = _
              simp only [Act.put, List.setIfInBounds_toArray, List.set_cons_zero, List.set_cons_succ, i64_w, i32_w]
              rfl
            obtain ⟨wE, hwE⟩ : ∃ wE, (wd.alloc (.cells #[.int .u8 vl, .int .u8 va] 5)).alloc (.cells #[.slice none 0 0, .int .u8 vl, .int .u8 (sideV (mx vl va)), .int .u8 0] 36) = wE := ⟨_, rfl⟩
            rw [hwE]
            have HE5 : Aside0 (SqRel w4 G PV (n + 1) none ⟨st.all, st.now, st.last, sqWait l m st⟩ u12 wE ∧ n ≤ i) := ⟨HKA.out.1.below (by rw [← hwE, ← hwd]; exact below_alloc (below_alloc (below_drew (Below.refl _ _)) _) _), HKA.out.2⟩
            have hgE : wE.heap[wd.heap.size + 1]? = some (.cells #[.slice none 0 0, .int .u8 vl, .int .u8 (sideV (mx vl va)), .int .u8 0] 36) := by
              have := heap_alloc_new (wd.alloc (.cells #[.int .u8 vl, .int .u8 va] 5)) (.cells #[.slice none 0 0, .int .u8 vl, .int .u8 (sideV (mx vl va)), .int .u8 0] 36)
              rw [hwE] at this
              simpa using this
            have hfr : ∀ s, s < st.all.length → G s ≠ wd.heap.size + 1 := fun s hs e => by
              have := blk_lt (HKA.out.1.sq.at' s _ (List.getElem?_eq_getElem hs)).2.1
              rw [← hwd] at e
              have e2 : G s = wA.heap.size + 1 := e
              omega
            have hb4 : w4.heap.size + 4 ≤ wd.heap.size + 1 := by
              have := blk_lt HKA.out.1.h14
              rw [← hwd]
              show _ ≤ wA.heap.size + 1
              omega
            obtain ⟨g, hg⟩ : ∃ g, wd.heap.size + 1 = g := ⟨_, rfl⟩
            rw [hg] at hgE hfr hb4 ⊢
            have HGE := Aside0.mk (And.intro hgE (And.intro hfr hb4))
            have y13 : wE.cell? ⟨g13, 0, none⟩ = some (.pointer none) := by
              have := (blk_cell HE5.out.1.h13 0).trans rfl
              rw [HQ.out.2.2.1] at this
              exact this
            have f13 : wE.frozen? ⟨g13, 0, none⟩ = false := by
              have := blk_frozen HE5.out.1.h13 0
              rw [HQ.out.2.2.1] at this
              exact this
            clear hgE hfr hb4 hg hwE HS0 HS1 hHeld HKA hwd
            refine last_ (i := 16) (N := none) #[true, true, true, true, true, true, true, true, true, true, true, true, true, true, true, true, true] rfl rfl (by kernel_rfl) (by decide) (fun K hK => ?_)
            refine skip_ (w1 := ?_) (by rfl) rfl ?_ ?_
            rotate_left
            · go_simp
              rfl
            refine hK.out _ _ ?_
            clear hK K
            refine done_ (by kernel_rfl) ?_
            have HN := Aside0.mk HE5.out.2
            have HF := Aside0.mk (HE5.out.1.setNow (some g) st.now)
            rw [HQ.out.2.2.1, show ptrV (some g) = Value.pointer (some ⟨g, 0, none⟩) from rfl] at HF
            have hgF : (wE.setCell ⟨g13, 0, none⟩ (.pointer (some ⟨g, 0, none⟩))).heap[g]? = some (.cells #[.slice none 0 0, .int .u8 vl, .int .u8 (sideV (mx vl va)), .int .u8 0] 36) := (Below.heap_setCell _ _ _ _ (by show g ≠ g13; have := HGE.out.2.2; have := HQ.out.2.2.1; omega)).trans HGE.out.1
            generalize wE.setCell ⟨g13, 0, none⟩ (.pointer (some ⟨g, 0, none⟩)) = wF at HF hgF ⊢
            have HGF := Aside0.mk hgF
            clear y13 f13 hgF
            have y13 : wF.cell? ⟨g13, 0, none⟩ = some (.pointer (some ⟨g, 0, none⟩)) := by
              have := (blk_cell HF.out.h13 0).trans rfl
              rw [HQ.out.2.2.1] at this
              exact this
            have HLF : Aside0 ((((List.range st.all.length).map G).length + 1) * 8 ≤ 140737488355328 ∧ w4.heap.size + 4 ≤ wF.heap.size) := ⟨by have := HOK.out.al; simp; omega, by have := blk_lt HF.out.h14; omega⟩
            have HBG : Aside0 (∀ (v' : Value) (w5 : World), Kd.R ptrK 60 w5 (w4.heap.size + 4) (fun _ => True) v' ((List.range st.all.length).map G ++ [g]) → wF.grownBy w5 u12.ownBlock → SqRel w4 (upF G st.all.length g) (upF PV st.all.length (.slice none 0 0)) (n + 1) (some g) ⟨st.all ++ [⟨[], vl, sideV (mx vl va), 0⟩], st.all.length, st.last, sqWait l m st⟩ v' w5 ∧ w5.cell? ⟨g11, 0, none⟩ = some (.map (some bm))) := ⟨fun v' w5 h1 h2 => by
              have hq := HF.out.begun g ⟨[], vl, sideV (mx vl va), 0⟩ rfl HGE.out.2.2 HGE.out.2.1 HGF.out (wait_lt HOK.out l m) h1 h2
              refine ⟨hq, ?_⟩
              have := (blk_cell hq.h11 0).trans rfl
              rw [HQ.out.2.1, HQ.out.1] at this
              exact this⟩
            go_upto_region 22 with (at_builtin; refine Kd.R_append ptrK (w0 := wF) (W := wF) (w4.heap.size + 4) rfl (.tmp 89) (.tmp 91) 59 60 (.pointer none) 8 rfl Try.underlying59 info60 rfl (by decide) (by decide) u12 ((List.range st.all.length).map G) g [.pointer (some ⟨g, 0, none⟩)] (fun _ => True) (fun _ => False) rfl rfl rfl (fun _ h => h.elim) (fun _ _ => trivial) HF.out.al (Below.refl _ _) HLF.out.2 HLF.out.1 ?_; intro vn wG hRn hBn hgn hatn; have HGG := Aside0.mk (HBG.out vn wG hRn hgn); clear hRn hBn hgn hatn)
            obtain ⟨G2, hG2⟩ : ∃ G2, upF G st.all.length g = G2 := ⟨_, rfl⟩
            obtain ⟨PV2, hPV2⟩ : ∃ PV2, upF PV st.all.length (.slice none 0 0) = PV2 := ⟨_, rfl⟩
            have hgl : g = G2 st.all.length := by rw [← hG2, upF_eq]
            rw [hG2, hPV2] at HGG
            have z11 := HGG.out.2
            have HM7 : Aside0 (mapIs wG bm (n + 1) (fun k => (sqWait l m st k).map G2)) := ⟨by have := HGG.out.1.mp; rw [HQ.out.1] at this; exact this⟩
            clear y13 HBG HLF HF HGF HGE HE5 hG2 hPV2
            go_upto_region 23 with (at_delete; refine wp_del rfl _ _ rfl bm (n + 1) _ rfl HM7.out (i : Int) rfl HWF.out ?_; intro w7 hM7 hT7; have H7 := Aside0.mk (And.intro hM7 hT7); clear hM7 hT7)
            have hup : (fun k => ((upW (sqWait l m st) (i : Int) none) k).map G2) = upW (fun k => (sqWait l m st k).map G2) (i : Int) none := by
              funext k
              unfold upW
              split <;> rfl
            have HP : Aside0 (SqRel w4 G2 PV2 (n + 1) (some (G2 st.all.length)) ⟨st.all ++ [⟨[], vl, sideV (mx vl va), 0⟩], st.all.length, st.last, upW (sqWait l m st) (i : Int) none⟩ vn w7 ∧ n + 1 ≤ i + 1) := ⟨by rw [← hgl]; exact HGG.out.1.ends _ (n + 1) (by rw [hup, HQ.out.1]; exact H7.out.1) (by rw [HQ.out.1]; exact H7.out.2), by have := HN.out; omega⟩
            have hturn : sqTurn l lev m ah i st = ⟨st.all ++ [⟨[], vl, sideV (mx vl va), 0⟩], st.all.length, st.last, upW (sqWait l m st) (i : Int) none⟩ := by
              unfold sqTurn
              rw [HLK.out, HVL.out.1, HVL.out.2]
            have HMID := Aside0.mk (HOK.out.turn l lev m ah)
            rw [hturn] at HMID
            have HNX : Aside0 (sqAt l lev m ah (i + 1) = sqPut i ⟨st.all ++ [⟨[], vl, sideV (mx vl va), 0⟩], st.all.length, st.last, upW (sqWait l m st) (i : Int) none⟩) := ⟨by rw [HST.out, if_pos (.inl (of_decide_eq_true bl)), hturn]⟩
            clear z11 HM7 HLK H7 hup hturn HOK HST HGG hgl HVL HR12
            generalize hst1 : (⟨st.all ++ [⟨[], vl, sideV (mx vl va), 0⟩], st.all.length, st.last, upW (sqWait l m st) (i : Int) none⟩ : SqSt) = st1 at HP HMID HNX
            have hnow : G2 st.all.length = G2 st1.now := by rw [← hst1]
            clear hst1
            rw [hnow] at HP
            generalize n + 1 = n1 at HP
            obtain ⟨x, hx⟩ : ∃ x, st1.all[st1.now]? = some x := ⟨_, List.getElem?_eq_getElem HMID.out.nw⟩
            have hat := HP.out.1.sq.at' _ x hx
            obtain ⟨Ap, cp, ep⟩ := Kd.R_slice hat.2.2
            have hpl := HMID.out.pl _ x hx
            obtain ⟨gn, hgn⟩ : ∃ gn, G2 st1.now = gn := ⟨_, rfl⟩
            rw [hgn, ep] at hat
            have HAT := Aside0.mk (And.intro hat (And.intro hx (And.intro ep (And.intro hgn hpl.1))))
            have y13 : w7.cell? ⟨g13, 0, none⟩ = some (.pointer (some ⟨gn, 0, none⟩)) := by
              have := (blk_cell HP.out.1.h13 0).trans rfl
              rw [HQ.out.2.2.1, hgn] at this
              exact this
            have y0 : w7.cell? ⟨gn, 0, none⟩ = some (.slice Ap x.f0.length cp) := (blk_cell hat.2.1 0).trans rfl
            have hk1 : ∀ o : Obj, (w7.drew.alloc o).cell? ⟨g13, 0, none⟩ = some (.pointer (some ⟨gn, 0, none⟩)) ∧ (w7.drew.alloc o).cell? ⟨gn, 0, none⟩ = some (.slice Ap x.f0.length cp) := fun o => by
              constructor
              · have := (blk_cell (blk_alloc (blk_drew HP.out.1.h13) o) 0).trans rfl
                rw [HQ.out.2.2.1, hgn] at this
                exact this
              · exact (blk_cell (blk_alloc (blk_drew hat.2.1) o) 0).trans rfl
            have hk2 : ∀ w8, w7.drew.grownBy w8 (Value.slice Ap x.f0.length cp).ownBlock → w8.cell? ⟨g13, 0, none⟩ = some (.pointer (some ⟨gn, 0, none⟩)) ∧ w8.cell? ⟨gn, 0, none⟩ = some (.slice Ap x.f0.length cp) ∧ w8.frozen? ⟨gn, 0, none⟩ = false := fun w8 hg => by
              have hb := Kd.R_base hat.2.2
              have hty := Kd.R_typed hat.2.2
              constructor
              · have := (blk_cell (blk_grown (blk_drew HP.out.1.h13) hg (fun e => by have := hb _ e.symm; omega)) 0).trans rfl
                rw [HQ.out.2.2.1, hgn] at this
                exact this
              · have hq := blk_grown (blk_drew hat.2.1) hg (fun e => by
                  obtain ⟨D, hD⟩ := hty _ e.symm
                  rw [hat.2.1] at hD
                  injection hD with hD
                  injection hD with _ hD
                  cases hD)
                exact ⟨(blk_cell hq 0).trans rfl, blk_frozen hq 0⟩
            have HS1 := Aside0.mk hk1
            have HS2 := Aside0.mk hk2
            clear hk2
            have HS0 := Aside0.mk (And.intro y13 y0)
            have HRP := Aside0.mk (Kd.R_drew hat.2.2)
            have HLn : Aside0 ((x.f0.length + 1) * 8 ≤ 140737488355328) := ⟨by have := hpl.1; omega⟩
            have HBS : Aside0 (w4.heap.size + 4 ≤ w7.drew.heap.size) := ⟨by have := blk_lt HP.out.1.h14; show _ ≤ w7.heap.size; omega⟩
            clear y13 y0 hk1 hat hx ep hgn hpl
            try simp only [Act.put]
            refine start_ (n := 11) (S := fun w' => w'.cell? ⟨g13, 0, none⟩ = some (.pointer (some ⟨gn, 0, none⟩)) ∧ w'.cell? ⟨gn, 0, none⟩ = some (.slice Ap x.f0.length cp)) (ds := [10]) #[false, false, false, false, false, false, false, false, false, false, false] (by kernel_rfl) rfl rfl HS0.out (fun hHeld => ?_)
            generalize hwd : w7.drew = wd at HS1 HS2 HRP HBS hHeld ⊢
            refine pure_ (i := 5) (N := some 100) (v := ?_) (a' := ?_) #[false, false, false, false, false, true, false, false, false, false, false] rfl rfl (by kernel_rfl) (fun _ _ _ h => h) (Or.inl ⟨by rfl, ?_⟩) ?_ ?_
            rotate_left
            · intro w'
              go_simp
              with_reducible rfl
            rotate_left
            · simp only [Act.put, List.setIfInBounds_toArray, List.set_cons_zero, List.set_cons_succ, i64_w, i32_w]
              rfl
            refine take_ (i := 0) (N := some 95) (v := ?_) (a' := ?_) #[true, false, false, false, false, true, false, false, false, false, false] rfl rfl (by kernel_rfl) (fun _ _ _ h => h) (Or.inl ⟨by rfl, ?_⟩) hHeld ?_ ?_
            rotate_left
            · rintro w' ⟨s0, s1⟩
              go_simp
              with_reducible rfl
            rotate_left
            · simp only [Act.put, List.setIfInBounds_toArray, List.set_cons_zero, List.set_cons_succ, i64_w, i32_w]
              rfl
            refine take_ (i := 1) (N := some 96) (v := ?_) (a' := ?_) #[true, true, false, false, false, true, false, false, false, false, false] rfl rfl (by kernel_rfl) (fun _ _ _ h => h) (Or.inl ⟨by rfl, ?_⟩) hHeld ?_ ?_
            rotate_left
            · rintro w' ⟨s0, s1⟩
              go_simp
              with_reducible rfl
            rotate_left
            · simp only [Act.put, List.setIfInBounds_toArray, List.set_cons_zero, List.set_cons_succ, i64_w, i32_w]
              rfl
            refine pure_ (i := 2) (N := some 97) (v := ?_) (a' := ?_) #[true, true, true, false, false, true, false, false, false, false, false] rfl rfl (by kernel_rfl) (fun _ _ _ h => h) (Or.inl ⟨by rfl, ?_⟩) ?_ ?_
            rotate_left
            · intro w'
              go_simp
              with_reducible rfl
            rotate_left
            · simp only [Act.put, List.setIfInBounds_toArray, List.set_cons_zero, List.set_cons_succ, i64_w, i32_w]
              rfl
            refine pure_ (i := 3) (N := some 98) (v := ?_) (a' := ?_) #[true, true, true, true, false, true, false, false, false, false, false] rfl rfl (by kernel_rfl) (fun _ _ _ h => h) (Or.inl ⟨by rfl, ?_⟩) ?_ ?_
            rotate_left
            · intro w'
              go_simp
              with_reducible rfl
            rotate_left
            · simp only [Act.put, List.setIfInBounds_toArray, List.set_cons_zero, List.set_cons_succ, i64_w, i32_w]
              rfl
            refine take_ (i := 4) (N := some 99) (v := ?_) (a' := ?_) #[true, true, true, true, true, true, false, false, false, false, false] rfl rfl (by kernel_rfl) (fun _ _ _ h => h) (Or.inl ⟨by rfl, ?_⟩) hHeld ?_ ?_
            rotate_left
            · rintro w' ⟨s0, s1⟩
              go_simp
              with_reducible rfl
            rotate_left
            · simp only [Act.put, List.setIfInBounds_toArray, List.set_cons_zero, List.set_cons_succ, i64_w, i32_w]
              rfl
            refine one_ (i := 6) (N := some 101) #[true, true, true, true, true, true, true, false, false, false, false] rfl rfl (by kernel_rfl) (by decide) (fun K hK => ?_)
            refine value_ (v := .slice (some ⟨wd.heap.size, 0, none⟩) 1 1) (w1 := wd.alloc (.cells #[.int .i64 (i : Int)] 3)) (by rfl) rfl ?_ ?_
            · go_simp
            refine hK.out _ _ (HS1.out _) (fun hHeld => ?_)
            clear hK K
            refine norm_ (a' := ?_) ?_ ?_
            rotate_left
            · show Act.put _ (some 101) _ = _
              simp only [Act.put, List.setIfInBounds_toArray, List.set_cons_zero, List.set_cons_succ, i64_w, i32_w]
              rfl
            refine one_ (i := 7) (N := some 102) #[true, true, true, true, true, true, true, true, false, false, false] rfl rfl (by kernel_rfl) (by decide) (fun K hK => ?_)
            refine Kd.R_append_step (Kd.int .i64) (w0 := wd) (W := wd) (w4.heap.size + 4) (by rfl) (.tmp 99) (.tmp 101) 33 3 (.int .i64 0) 8 rfl Try.underlying33 info3 rfl (by decide) (by decide) (.slice Ap x.f0.length cp) x.f0 (i : Int) [.int .i64 (i : Int)] (fun _ => True) (fun _ => False) rfl rfl rfl (fun _ h => h.elim) (fun _ _ => trivial) HRP.out (Below.refl _ _) HBS.out HLn.out ?_
            intro v1 w8 hR8 hB8 hg8 hat8
            obtain ⟨A8, c8, e8⟩ := Kd.R_slice hR8
            subst e8
            have s7 := (HS2.out _ hg8).1
            have s8 := (HS2.out _ hg8).2.1
            have s9 := (HS2.out _ hg8).2.2
            have H8 := Aside0.mk (And.intro hR8 (And.intro hB8 (And.intro hg8 hat8)))
            clear hR8 hB8 hg8 hat8
            refine hK.out _ _ ⟨s7, s8⟩ (fun hHeld => ?_)
            clear hK K
            refine norm_ (a' := ?_) ?_ ?_
            rotate_left
            · show Act.put _ (some 102) _ = _
              simp only [Act.put, List.setIfInBounds_toArray, List.set_cons_zero, List.set_cons_succ, i64_w, i32_w]
              rfl
            refine pure_ (i := 8) (N := some 103) (v := ?_) (a' := ?_) #[true, true, true, true, true, true, true, true, true, false, false] rfl rfl (by kernel_rfl) (fun _ _ _ h => h) (Or.inl ⟨by rfl, ?_⟩) ?_ ?_
            rotate_left
            · intro w'
              go_simp
              with_reducible rfl
            rotate_left
            · simp only [Act.put, List.setIfInBounds_toArray, List.set_cons_zero, List.set_cons_succ, i64_w, i32_w]
              rfl
            refine pure_ (i := 9) (N := some 104) (v := ?_) (a' := ?_) #[true, true, true, true, true, true, true, true, true, true, false] rfl rfl (by kernel_rfl) (fun _ _ _ h => h) (Or.inl ⟨by rfl, ?_⟩) ?_ ?_
            rotate_left
            · intro w'
              go_simp
              with_reducible rfl
            rotate_left
            · simp only [Act.put, List.setIfInBounds_toArray, List.set_cons_zero, List.set_cons_succ, i64_w, i32_w]
              rfl
            refine last_ (i := 10) (N := none) #[true, true, true, true, true, true, true, true, true, true, true] rfl rfl (by kernel_rfl) (by decide) (fun K hK => ?_)
            refine skip_ (w1 := ?_) (by rfl) rfl ?_ ?_
            rotate_left
            · go_simp
              rfl
            refine hK.out _ _ ?_
            clear hK K
            refine done_ (by kernel_rfl) ?_
            have HPd := HP.out.1.below (w' := wd) (by rw [← hwd]; exact below_drew (Below.refl _ _))
            have HP9 := HPd.put x HAT.out.2.1 (i : Int) H8.out.1 (by rw [HAT.out.2.2.1]; exact H8.out.2.2.1) (by rw [HAT.out.2.2.1]; exact H8.out.2.2.2)
            rw [HAT.out.2.2.2.1, show (x.f0 ++ [(i : Int)]).length = x.f0.length + 1 from by simp] at HP9
            have HN1 := HP.out.2
            clear HPd s7 s8 s9 HP HS0 HS1 HS2 HRP HBS HLn hHeld hwd H8
            generalize w8.setCell ⟨gn, 0, none⟩ (.slice A8 (x.f0.length + 1) c8) = w9 at HP9 ⊢
            have y14 : w9.cell? ⟨g14, 0, none⟩ = some (.int .i64 st1.last) := by
              have := (blk_cell HP9.h14 0).trans rfl
              rw [HQ.out.2.2.2] at this
              exact this
            have f14 : w9.frozen? ⟨g14, 0, none⟩ = false := by
              have := blk_frozen HP9.h14 0
              rw [HQ.out.2.2.2] at this
              exact this
            have HP := Aside0.mk (And.intro HP9 HN1)
            clear HP9 HN1
            go_wp2
            go_roundw
            case measure => have := HI.out; simp [intOf]; omega
            case rel =>
              refine ⟨i + 1, G2, upF PV2 st1.now (.slice A8 (x.f0.length + 1) c8), n1, by have := HI.out; omega, (by first | rfl | go_num), ⟨?_, HP.out.2⟩⟩
              rw [HNX.out]
              show SqRel w4 G2 _ n1 (if (sqPut (i : Int) st1).last < 0 then none else some (G2 st1.now)) _ vn _
              have h9 := HP.out.1.setLast (i : Int)
              rw [HQ.out.2.2.2] at h9
              rw [if_neg (show ¬ (sqPut (i : Int) st1).last < 0 by show ¬ (i : Int) < 0; omega)]
              rw [← HAT.out.2.2.2.1] at h9
              exact h9
        · have bl : decide (st.last < 0) = false := decide_eq_false ql
          have dl0 : decide (0 ≤ st.last) = true := decide_eq_true (by omega)
          have dl1 : decide (st.last < (lev.length : Int)) = true := decide_eq_true (by have := HOK.out.l1; have := HI.out; have := HA.out.2.2.2.2.2; omega)
          have hlv2 := Kd.C_below HA.out.2.2.1 (below_step X4.out.1 HR.out.1.be)
          obtain ⟨av2, ev2, hxv2, pv2, qv2⟩ := atI hlv2 st.last
          cases ev2
          clear hlv2
          by_cases qe : rd lev st.last = rd lev (i : Int)
          · have be2 : (rd lev st.last != rd lev (i : Int)) = false := by rw [qe]; simp
            have HNX : Aside0 (sqAt l lev m ah (i + 1) = sqPut i st) := ⟨by rw [HST.out, if_neg (fun h => h.elim (fun h => by have := of_decide_eq_false bl; omega) (fun h => h qe))]⟩
            have HMID := Aside0.mk (HOK.out.mid (by omega))
            have HQL := Aside0.mk ql
            clear qe ql
            go_quiet (fail)
            go_upto_region 23 with (fail)
            have HPq : Aside0 (SqRel w4 G PV n (some (G st.now)) st u12 (wr.drewN nq) ∧ n ≤ i + 1) := ⟨by
              have := HR.out.1.below (pw_below_drewN (Below.refl _ _) nq)
              rw [if_neg HQL.out] at this
              exact this, by have := HR.out.2; omega⟩
            clear x14 HR hxl hxv hxv2
            generalize wr.drewN nq = w7 at HPq ⊢
            have HP := HPq
            clear HPq HOK HST HQL
            obtain ⟨st1, hst1⟩ : ∃ st1, st = st1 := ⟨_, rfl⟩
            rw [hst1] at HP HMID HNX
            obtain ⟨n1, hn1⟩ : ∃ n1, n = n1 := ⟨_, rfl⟩
            rw [hn1] at HP
            clear hst1 hn1
            obtain ⟨x, hx⟩ : ∃ x, st1.all[st1.now]? = some x := ⟨_, List.getElem?_eq_getElem HMID.out.nw⟩
            have hat := HP.out.1.sq.at' _ x hx
            obtain ⟨Ap, cp, ep⟩ := Kd.R_slice hat.2.2
            have hpl := HMID.out.pl _ x hx
            obtain ⟨gn, hgn⟩ : ∃ gn, G st1.now = gn := ⟨_, rfl⟩
            rw [hgn, ep] at hat
            have HAT := Aside0.mk (And.intro hat (And.intro hx (And.intro ep (And.intro hgn hpl.1))))
            have y13 : w7.cell? ⟨g13, 0, none⟩ = some (.pointer (some ⟨gn, 0, none⟩)) := by
              have := (blk_cell HP.out.1.h13 0).trans rfl
              rw [HQ.out.2.2.1, hgn] at this
              exact this
            have y0 : w7.cell? ⟨gn, 0, none⟩ = some (.slice Ap x.f0.length cp) := (blk_cell hat.2.1 0).trans rfl
            have hk1 : ∀ o : Obj, (w7.drew.alloc o).cell? ⟨g13, 0, none⟩ = some (.pointer (some ⟨gn, 0, none⟩)) ∧ (w7.drew.alloc o).cell? ⟨gn, 0, none⟩ = some (.slice Ap x.f0.length cp) := fun o => by
              constructor
              · have := (blk_cell (blk_alloc (blk_drew HP.out.1.h13) o) 0).trans rfl
                rw [HQ.out.2.2.1, hgn] at this
                exact this
              · exact (blk_cell (blk_alloc (blk_drew hat.2.1) o) 0).trans rfl
            have hk2 : ∀ w8, w7.drew.grownBy w8 (Value.slice Ap x.f0.length cp).ownBlock → w8.cell? ⟨g13, 0, none⟩ = some (.pointer (some ⟨gn, 0, none⟩)) ∧ w8.cell? ⟨gn, 0, none⟩ = some (.slice Ap x.f0.length cp) ∧ w8.frozen? ⟨gn, 0, none⟩ = false := fun w8 hg => by
              have hb := Kd.R_base hat.2.2
              have hty := Kd.R_typed hat.2.2
              constructor
              · have := (blk_cell (blk_grown (blk_drew HP.out.1.h13) hg (fun e => by have := hb _ e.symm; omega)) 0).trans rfl
                rw [HQ.out.2.2.1, hgn] at this
                exact this
              · have hq := blk_grown (blk_drew hat.2.1) hg (fun e => by
                  obtain ⟨D, hD⟩ := hty _ e.symm
                  rw [hat.2.1] at hD
                  injection hD with hD
                  injection hD with _ hD
                  cases hD)
                exact ⟨(blk_cell hq 0).trans rfl, blk_frozen hq 0⟩
            have HS1 := Aside0.mk hk1
            have HS2 := Aside0.mk hk2
            clear hk2
            have HS0 := Aside0.mk (And.intro y13 y0)
            have HRP := Aside0.mk (Kd.R_drew hat.2.2)
            have HLn : Aside0 ((x.f0.length + 1) * 8 ≤ 140737488355328) := ⟨by have := hpl.1; omega⟩
            have HBS : Aside0 (w4.heap.size + 4 ≤ w7.drew.heap.size) := ⟨by have := blk_lt HP.out.1.h14; show _ ≤ w7.heap.size; omega⟩
            clear y13 y0 hk1 hat hx ep hgn hpl
            try simp only [Act.put]
            refine start_ (n := 11) (S := fun w' => w'.cell? ⟨g13, 0, none⟩ = some (.pointer (some ⟨gn, 0, none⟩)) ∧ w'.cell? ⟨gn, 0, none⟩ = some (.slice Ap x.f0.length cp)) (ds := [10]) #[false, false, false, false, false, false, false, false, false, false, false] (by kernel_rfl) rfl rfl HS0.out (fun hHeld => ?_)
            generalize hwd : w7.drew = wd at HS1 HS2 HRP HBS hHeld ⊢
            refine pure_ (i := 5) (N := some 100) (v := ?_) (a' := ?_) #[false, false, false, false, false, true, false, false, false, false, false] rfl rfl (by kernel_rfl) (fun _ _ _ h => h) (Or.inl ⟨by rfl, ?_⟩) ?_ ?_
            rotate_left
            · intro w'
              go_simp
              with_reducible rfl
            rotate_left
            · simp only [Act.put, List.setIfInBounds_toArray, List.set_cons_zero, List.set_cons_succ, i64_w, i32_w]
              rfl
            refine take_ (i := 0) (N := some 95) (v := ?_) (a' := ?_) #[true, false, false, false, false, true, false, false, false, false, false] rfl rfl (by kernel_rfl) (fun _ _ _ h => h) (Or.inl ⟨by rfl, ?_⟩) hHeld ?_ ?_
            rotate_left
            · rintro w' ⟨s0, s1⟩
              go_simp
              with_reducible rfl
            rotate_left
            · simp only [Act.put, List.setIfInBounds_toArray, List.set_cons_zero, List.set_cons_succ, i64_w, i32_w]
              rfl
            refine take_ (i := 1) (N := some 96) (v := ?_) (a' := ?_) #[true, true, false, false, false, true, false, false, false, false, false] rfl rfl (by kernel_rfl) (fun _ _ _ h => h) (Or.inl ⟨by rfl, ?_⟩) hHeld ?_ ?_
            rotate_left
            · rintro w' ⟨s0, s1⟩
              go_simp
              with_reducible rfl
            rotate_left
            · simp only [Act.put, List.setIfInBounds_toArray, List.set_cons_zero, List.set_cons_succ, i64_w, i32_w]
              rfl
            refine pure_ (i := 2) (N := some 97) (v := ?_) (a' := ?_) #[true, true, true, false, false, true, false, false, false, false, false] rfl rfl (by kernel_rfl) (fun _ _ _ h => h) (Or.inl ⟨by rfl, ?_⟩) ?_ ?_
            rotate_left
            · intro w'
              go_simp
              with_reducible rfl
            rotate_left
            · simp only [Act.put, List.setIfInBounds_toArray, List.set_cons_zero, List.set_cons_succ, i64_w, i32_w]
              rfl
            refine pure_ (i := 3) (N := some 98) (v := ?_) (a' := ?_) #[true, true, true, true, false, true, false, false, false, false, false] rfl rfl (by kernel_rfl) (fun _ _ _ h => h) (Or.inl ⟨by rfl, ?_⟩) ?_ ?_
            rotate_left
            · intro w'
              go_simp
              with_reducible rfl
            rotate_left
            · simp only [Act.put, List.setIfInBounds_toArray, List.set_cons_zero, List.set_cons_succ, i64_w, i32_w]
              rfl
            refine take_ (i := 4) (N := some 99) (v := ?_) (a' := ?_) #[true, true, true, true, true, true, false, false, false, false, false] rfl rfl (by kernel_rfl) (fun _ _ _ h => h) (Or.inl ⟨by rfl, ?_⟩) hHeld ?_ ?_
            rotate_left
            · rintro w' ⟨s0, s1⟩
              go_simp
              with_reducible rfl
            rotate_left
            · simp only [Act.put, List.setIfInBounds_toArray, List.set_cons_zero, List.set_cons_succ, i64_w, i32_w]
              rfl
            refine one_ (i := 6) (N := some 101) #[true, true, true, true, true, true, true, false, false, false, false] rfl rfl (by kernel_rfl) (by decide) (fun K hK => ?_)
            refine value_ (v := .slice (some ⟨wd.heap.size, 0, none⟩) 1 1) (w1 := wd.alloc (.cells #[.int .i64 (i : Int)] 3)) (by rfl) rfl ?_ ?_
            · go_simp
            refine hK.out _ _ (HS1.out _) (fun hHeld => ?_)
            clear hK K
            refine norm_ (a' := ?_) ?_ ?_
            rotate_left
            · show Act.put _ (some 101) _ = _
              simp only [Act.put, List.setIfInBounds_toArray, List.set_cons_zero, List.set_cons_succ, i64_w, i32_w]
              rfl
            refine one_ (i := 7) (N := some 102) #[true, true, true, true, true, true, true, true, false, false, false] rfl rfl (by kernel_rfl) (by decide) (fun K hK => ?_)
            refine Kd.R_append_step (Kd.int .i64) (w0 := wd) (W := wd) (w4.heap.size + 4) (by rfl) (.tmp 99) (.tmp 101) 33 3 (.int .i64 0) 8 rfl Try.underlying33 info3 rfl (by decide) (by decide) (.slice Ap x.f0.length cp) x.f0 (i : Int) [.int .i64 (i : Int)] (fun _ => True) (fun _ => False) rfl rfl rfl (fun _ h => h.elim) (fun _ _ => trivial) HRP.out (Below.refl _ _) HBS.out HLn.out ?_
            intro v1 w8 hR8 hB8 hg8 hat8
            obtain ⟨A8, c8, e8⟩ := Kd.R_slice hR8
            subst e8
            have s7 := (HS2.out _ hg8).1
            have s8 := (HS2.out _ hg8).2.1
            have s9 := (HS2.out _ hg8).2.2
            have H8 := Aside0.mk (And.intro hR8 (And.intro hB8 (And.intro hg8 hat8)))
            clear hR8 hB8 hg8 hat8
            refine hK.out _ _ ⟨s7, s8⟩ (fun hHeld => ?_)
            clear hK K
            refine norm_ (a' := ?_) ?_ ?_
            rotate_left
            · show Act.put _ (some 102) _ = _
              simp only [Act.put, List.setIfInBounds_toArray, List.set_cons_zero, List.set_cons_succ, i64_w, i32_w]
              rfl
            refine pure_ (i := 8) (N := some 103) (v := ?_) (a' := ?_) #[true, true, true, true, true, true, true, true, true, false, false] rfl rfl (by kernel_rfl) (fun _ _ _ h => h) (Or.inl ⟨by rfl, ?_⟩) ?_ ?_
            rotate_left
            · intro w'
              go_simp
              with_reducible rfl
            rotate_left
            · simp only [Act.put, List.setIfInBounds_toArray, List.set_cons_zero, List.set_cons_succ, i64_w, i32_w]
              rfl
            refine pure_ (i := 9) (N := some 104) (v := ?_) (a' := ?_) #[true, true, true, true, true, true, true, true, true, true, false] rfl rfl (by kernel_rfl) (fun _ _ _ h => h) (Or.inl ⟨by rfl, ?_⟩) ?_ ?_
            rotate_left
            · intro w'
              go_simp
              with_reducible rfl
            rotate_left
            · simp only [Act.put, List.setIfInBounds_toArray, List.set_cons_zero, List.set_cons_succ, i64_w, i32_w]
              rfl
            refine last_ (i := 10) (N := none) #[true, true, true, true, true, true, true, true, true, true, true] rfl rfl (by kernel_rfl) (by decide) (fun K hK => ?_)
            refine skip_ (w1 := ?_) (by rfl) rfl ?_ ?_
            rotate_left
            · go_simp
              rfl
            refine hK.out _ _ ?_
            clear hK K
            refine done_ (by kernel_rfl) ?_
            have HPd := HP.out.1.below (w' := wd) (by rw [← hwd]; exact below_drew (Below.refl _ _))
            have HP9 := HPd.put x HAT.out.2.1 (i : Int) H8.out.1 (by rw [HAT.out.2.2.1]; exact H8.out.2.2.1) (by rw [HAT.out.2.2.1]; exact H8.out.2.2.2)
            rw [HAT.out.2.2.2.1, show (x.f0 ++ [(i : Int)]).length = x.f0.length + 1 from by simp] at HP9
            have HN1 := HP.out.2
            clear HPd s7 s8 s9 HP HS0 HS1 HS2 HRP HBS HLn hHeld hwd H8
            generalize w8.setCell ⟨gn, 0, none⟩ (.slice A8 (x.f0.length + 1) c8) = w9 at HP9 ⊢
            have y14 : w9.cell? ⟨g14, 0, none⟩ = some (.int .i64 st1.last) := by
              have := (blk_cell HP9.h14 0).trans rfl
              rw [HQ.out.2.2.2] at this
              exact this
            have f14 : w9.frozen? ⟨g14, 0, none⟩ = false := by
              have := blk_frozen HP9.h14 0
              rw [HQ.out.2.2.2] at this
              exact this
            have HP := Aside0.mk (And.intro HP9 HN1)
            clear HP9 HN1
            go_wp2
            go_roundw
            case measure => have := HI.out; simp [intOf]; omega
            case rel =>
              refine ⟨i + 1, G, upF PV st1.now (.slice A8 (x.f0.length + 1) c8), n1, by have := HI.out; omega, (by first | rfl | go_num), ⟨?_, HP.out.2⟩⟩
              rw [HNX.out]
              show SqRel w4 G _ n1 (if (sqPut (i : Int) st1).last < 0 then none else some (G st1.now)) _ u12 _
              have h9 := HP.out.1.setLast (i : Int)
              rw [HQ.out.2.2.2] at h9
              rw [if_neg (show ¬ (sqPut (i : Int) st1).last < 0 by show ¬ (i : Int) < 0; omega)]
              rw [← HAT.out.2.2.2.1] at h9
              exact h9
          · have be2 : (rd lev st.last != rd lev (i : Int)) = true := bne_iff_ne.mpr qe
            clear qe ql
            go_quiet (fail)
            go_wp2_with (go_at_call 22; fail)
            have HRq := Aside0.mk (And.intro (HR.out.1.below (pw_below_drewN (Below.refl _ _) nq)) HR.out.2)
            clear x14 HR hxl hxv hxv2
            generalize wr.drewN nq = wq at HRq ⊢
            have E := ends_any w4 wq G PV n g8 g3 c0 cm (some al) Am l m st _ HRq.out.1 HOK.out.l0 (by have := HOK.out.l1; have := HI.out; omega) HM.out.2.1 HM.out.2.2.1 (by have := HRq.out.2; omega) (HG8.out ▸ blk_below X4.out.2.2.1 HRq.out.1.be) (blk_below X4.out.2.1 HRq.out.1.be) (Kd.C_below HA.out.1 (below_step X4.out.1 HRq.out.1.be)) (Kd.C_below (Kd.R_reads' X4.out.2.2.2.1).2.2 HRq.out.1.be)
            rw [HQ.out.2.1, HQ.out.2.2.1, HQ.out.2.2.2] at E
            refine E.mono ?_
            rintro e w6 ⟨rfl, HE⟩
            clear E
            have y11 := (blk_cell HE.h11 0).trans rfl
            rw [HQ.out.2.1, HQ.out.1] at y11
            have y13 := (blk_cell HE.h13 0).trans rfl
            have f13 := blk_frozen HE.h13 0
            rw [HQ.out.2.2.1] at y13 f13
            have HE1 := Aside0.mk (And.intro HE HRq.out.2)
            clear HE HRq
            have hwf : (Lit.int .i64 (i : Int)).wf = true := by simp [Lit.wf, IntKind.min, IntKind.max, IntKind.signed, IntKind.bits]; omega
            have HWF := Aside0.mk hwf
            clear hwf
            cases hlk : sqWait l m st i with
            | some s =>
              have HLK := Aside0.mk hlk
              clear hlk
              have HK := Aside0.mk (HE1.out.1.setNow (some (G s)) s)
              rw [HQ.out.2.2.1] at HK
              have z11 : (w6.setCell ⟨g13, 0, none⟩ (.pointer (some ⟨G s, 0, none⟩))).cell? ⟨g11, 0, none⟩ = some (.map (some bm)) := by
                have := (blk_cell HK.out.h11 0).trans rfl
                rw [HQ.out.2.1, HQ.out.1] at this
                exact this
              have HM6 : Aside0 (mapIs w6 bm (n + 1) (fun k => (sqWait l m st k).map G) ∧ mapIs (w6.setCell ⟨g13, 0, none⟩ (ptrV (some (G s)))) bm (n + 1) (fun k => (sqWait l m st k).map G)) := ⟨by have := HE1.out.1.mp; rw [HQ.out.1] at this; exact this, by have := HK.out.mp; rw [HQ.out.1] at this; exact this⟩
              go_upto_region 23 with (first | (at_lookup; refine wp_look rfl _ _ rfl bm (n + 1) _ rfl HM6.out.1 (i : Int) rfl HWF.out (.pointer (some ⟨G s, 0, none⟩)) (by rw [HLK.out]; rfl) ?_) | (at_delete; refine wp_del rfl _ _ rfl bm (n + 1) _ rfl HM6.out.2 (i : Int) rfl HWF.out ?_; intro w7 hM7 hT7; have H7 := Aside0.mk (And.intro hM7 hT7); clear hM7 hT7))
              have hup : (fun k => ((upW (sqWait l m st) (i : Int) none) k).map G) = upW (fun k => (sqWait l m st k).map G) (i : Int) none := by
                funext k
                unfold upW
                split <;> rfl
              have HP : Aside0 (SqRel w4 G PV (n + 1) (some (G s)) ⟨st.all, s, st.last, upW (sqWait l m st) (i : Int) none⟩ u12 w7 ∧ n + 1 ≤ i + 1) := ⟨HK.out.ends _ (n + 1) (by rw [hup, HQ.out.1]; exact H7.out.1) (by rw [HQ.out.1]; exact H7.out.2), by have := HE1.out.2; omega⟩
              have hturn : sqTurn l lev m ah i st = ⟨st.all, s, st.last, upW (sqWait l m st) (i : Int) none⟩ := by
                unfold sqTurn
                rw [HLK.out]
              have HMID := Aside0.mk (HOK.out.turn l lev m ah)
              rw [hturn] at HMID
              have HNX : Aside0 (sqAt l lev m ah (i + 1) = sqPut i ⟨st.all, s, st.last, upW (sqWait l m st) (i : Int) none⟩) := ⟨by rw [HST.out, if_pos (.inr (bne_iff_ne.mp be2)), hturn]⟩
              clear z11 y11 y13 f13 HK HE1 HM6 HLK H7 hup hturn HOK HST
              generalize hst1 : (⟨st.all, s, st.last, upW (sqWait l m st) (i : Int) none⟩ : SqSt) = st1 at HP HMID HNX
              have hnow : G s = G st1.now := by rw [← hst1]
              clear hst1
              rw [hnow] at HP
              generalize n + 1 = n1 at HP
              obtain ⟨x, hx⟩ : ∃ x, st1.all[st1.now]? = some x := ⟨_, List.getElem?_eq_getElem HMID.out.nw⟩
              have hat := HP.out.1.sq.at' _ x hx
              obtain ⟨Ap, cp, ep⟩ := Kd.R_slice hat.2.2
              have hpl := HMID.out.pl _ x hx
              obtain ⟨gn, hgn⟩ : ∃ gn, G st1.now = gn := ⟨_, rfl⟩
              rw [hgn, ep] at hat
              have HAT := Aside0.mk (And.intro hat (And.intro hx (And.intro ep (And.intro hgn hpl.1))))
              have y13 : w7.cell? ⟨g13, 0, none⟩ = some (.pointer (some ⟨gn, 0, none⟩)) := by
                have := (blk_cell HP.out.1.h13 0).trans rfl
                rw [HQ.out.2.2.1, hgn] at this
                exact this
              have y0 : w7.cell? ⟨gn, 0, none⟩ = some (.slice Ap x.f0.length cp) := (blk_cell hat.2.1 0).trans rfl
              have hk1 : ∀ o : Obj, (w7.drew.alloc o).cell? ⟨g13, 0, none⟩ = some (.pointer (some ⟨gn, 0, none⟩)) ∧ (w7.drew.alloc o).cell? ⟨gn, 0, none⟩ = some (.slice Ap x.f0.length cp) := fun o => by
                constructor
                · have := (blk_cell (blk_alloc (blk_drew HP.out.1.h13) o) 0).trans rfl
                  rw [HQ.out.2.2.1, hgn] at this
                  exact this
                · exact (blk_cell (blk_alloc (blk_drew hat.2.1) o) 0).trans rfl
              have hk2 : ∀ w8, w7.drew.grownBy w8 (Value.slice Ap x.f0.length cp).ownBlock → w8.cell? ⟨g13, 0, none⟩ = some (.pointer (some ⟨gn, 0, none⟩)) ∧ w8.cell? ⟨gn, 0, none⟩ = some (.slice Ap x.f0.length cp) ∧ w8.frozen? ⟨gn, 0, none⟩ = false := fun w8 hg => by
                have hb := Kd.R_base hat.2.2
                have hty := Kd.R_typed hat.2.2
                constructor
                · have := (blk_cell (blk_grown (blk_drew HP.out.1.h13) hg (fun e => by have := hb _ e.symm; omega)) 0).trans rfl
                  rw [HQ.out.2.2.1, hgn] at this
                  exact this
                · have hq := blk_grown (blk_drew hat.2.1) hg (fun e => by
                    obtain ⟨D, hD⟩ := hty _ e.symm
                    rw [hat.2.1] at hD
                    injection hD with hD
                    injection hD with _ hD
                    cases hD)
                  exact ⟨(blk_cell hq 0).trans rfl, blk_frozen hq 0⟩
              have HS1 := Aside0.mk hk1
              have HS2 := Aside0.mk hk2
              clear hk2
              have HS0 := Aside0.mk (And.intro y13 y0)
              have HRP := Aside0.mk (Kd.R_drew hat.2.2)
              have HLn : Aside0 ((x.f0.length + 1) * 8 ≤ 140737488355328) := ⟨by have := hpl.1; omega⟩
              have HBS : Aside0 (w4.heap.size + 4 ≤ w7.drew.heap.size) := ⟨by have := blk_lt HP.out.1.h14; show _ ≤ w7.heap.size; omega⟩
              clear y13 y0 hk1 hat hx ep hgn hpl
              try simp only [Act.put]
              refine start_ (n := 11) (S := fun w' => w'.cell? ⟨g13, 0, none⟩ = some (.pointer (some ⟨gn, 0, none⟩)) ∧ w'.cell? ⟨gn, 0, none⟩ = some (.slice Ap x.f0.length cp)) (ds := [10]) #[false, false, false, false, false, false, false, false, false, false, false] (by kernel_rfl) rfl rfl HS0.out (fun hHeld => ?_)
              generalize hwd : w7.drew = wd at HS1 HS2 HRP HBS hHeld ⊢
              refine pure_ (i := 5) (N := some 100) (v := ?_) (a' := ?_) #[false, false, false, false, false, true, false, false, false, false, false] rfl rfl (by kernel_rfl) (fun _ _ _ h => h) (Or.inl ⟨by rfl, ?_⟩) ?_ ?_
              rotate_left
              · intro w'
                go_simp
                with_reducible rfl
              rotate_left
              · simp only [Act.put, List.setIfInBounds_toArray, List.set_cons_zero, List.set_cons_succ, i64_w, i32_w]
                rfl
              refine take_ (i := 0) (N := some 95) (v := ?_) (a' := ?_) #[true, false, false, false, false, true, false, false, false, false, false] rfl rfl (by kernel_rfl) (fun _ _ _ h => h) (Or.inl ⟨by rfl, ?_⟩) hHeld ?_ ?_
              rotate_left
              · rintro w' ⟨s0, s1⟩
                go_simp
                with_reducible rfl
              rotate_left
              · simp only [Act.put, List.setIfInBounds_toArray, List.set_cons_zero, List.set_cons_succ, i64_w, i32_w]
                rfl
              refine take_ (i := 1) (N := some 96) (v := ?_) (a' := ?_) #[true, true, false, false, false, true, false, false, false, false, false] rfl rfl (by kernel_rfl) (fun _ _ _ h => h) (Or.inl ⟨by rfl, ?_⟩) hHeld ?_ ?_
              rotate_left
              · rintro w' ⟨s0, s1⟩
                go_simp
                with_reducible rfl
              rotate_left
              · simp only [Act.put, List.setIfInBounds_toArray, List.set_cons_zero, List.set_cons_succ, i64_w, i32_w]
                rfl
              refine pure_ (i := 2) (N := some 97) (v := ?_) (a' := ?_) #[true, true, true, false, false, true, false, false, false, false, false] rfl rfl (by kernel_rfl) (fun _ _ _ h => h) (Or.inl ⟨by rfl, ?_⟩) ?_ ?_
              rotate_left
              · intro w'
                go_simp
                with_reducible rfl
              rotate_left
              · simp only [Act.put, List.setIfInBounds_toArray, List.set_cons_zero, List.set_cons_succ, i64_w, i32_w]
                rfl
              refine pure_ (i := 3) (N := some 98) (v := ?_) (a' := ?_) #[true, true, true, true, false, true, false, false, false, false, false] rfl rfl (by kernel_rfl) (fun _ _ _ h => h) (Or.inl ⟨by rfl, ?_⟩) ?_ ?_
              rotate_left
              · intro w'
                go_simp
                with_reducible rfl
              rotate_left
              · simp only [Act.put, List.setIfInBounds_toArray, List.set_cons_zero, List.set_cons_succ, i64_w, i32_w]
                rfl
              refine take_ (i := 4) (N := some 99) (v := ?_) (a' := ?_) #[true, true, true, true, true, true, false, false, false, false, false] rfl rfl (by kernel_rfl) (fun _ _ _ h => h) (Or.inl ⟨by rfl, ?_⟩) hHeld ?_ ?_
              rotate_left
              · rintro w' ⟨s0, s1⟩
                go_simp
                with_reducible rfl
              rotate_left
              · simp only [Act.put, List.setIfInBounds_toArray, List.set_cons_zero, List.set_cons_succ, i64_w, i32_w]
                rfl
              refine one_ (i := 6) (N := some 101) #[true, true, true, true, true, true, true, false, false, false, false] rfl rfl (by kernel_rfl) (by decide) (fun K hK => ?_)
              refine value_ (v := .slice (some ⟨wd.heap.size, 0, none⟩) 1 1) (w1 := wd.alloc (.cells #[.int .i64 (i : Int)] 3)) (by rfl) rfl ?_ ?_
              · go_simp
              refine hK.out _ _ (HS1.out _) (fun hHeld => ?_)
              clear hK K
              refine norm_ (a' := ?_) ?_ ?_
              rotate_left
              · show Act.put _ (some 101) _ = _
                simp only [Act.put, List.setIfInBounds_toArray, List.set_cons_zero, List.set_cons_succ, i64_w, i32_w]
                rfl
              refine one_ (i := 7) (N := some 102) #[true, true, true, true, true, true, true, true, false, false, false] rfl rfl (by kernel_rfl) (by decide) (fun K hK => ?_)
              refine Kd.R_append_step (Kd.int .i64) (w0 := wd) (W := wd) (w4.heap.size + 4) (by rfl) (.tmp 99) (.tmp 101) 33 3 (.int .i64 0) 8 rfl Try.underlying33 info3 rfl (by decide) (by decide) (.slice Ap x.f0.length cp) x.f0 (i : Int) [.int .i64 (i : Int)] (fun _ => True) (fun _ => False) rfl rfl rfl (fun _ h => h.elim) (fun _ _ => trivial) HRP.out (Below.refl _ _) HBS.out HLn.out ?_
              intro v1 w8 hR8 hB8 hg8 hat8
              obtain ⟨A8, c8, e8⟩ := Kd.R_slice hR8
              subst e8
              have s7 := (HS2.out _ hg8).1
              have s8 := (HS2.out _ hg8).2.1
              have s9 := (HS2.out _ hg8).2.2
              have H8 := Aside0.mk (And.intro hR8 (And.intro hB8 (And.intro hg8 hat8)))
              clear hR8 hB8 hg8 hat8
              refine hK.out _ _ ⟨s7, s8⟩ (fun hHeld => ?_)
              clear hK K
              refine norm_ (a' := ?_) ?_ ?_
              rotate_left
              · show Act.put _ (some 102) _ = _
                simp only [Act.put, List.setIfInBounds_toArray, List.set_cons_zero, List.set_cons_succ, i64_w, i32_w]
                rfl
              refine pure_ (i := 8) (N := some 103) (v := ?_) (a' := ?_) #[true, true, true, true, true, true, true, true, true, false, false] rfl rfl (by kernel_rfl) (fun _ _ _ h => h) (Or.inl ⟨by rfl, ?_⟩) ?_ ?_
              rotate_left
              · intro w'
                go_simp
                with_reducible rfl
              rotate_left
              · simp only [Act.put, List.setIfInBounds_toArray, List.set_cons_zero, List.set_cons_succ, i64_w, i32_w]
                rfl
              refine pure_ (i := 9) (N := some 104) (v := ?_) (a' := ?_) #[true, true, true, true, true, true, true, true, true, true, false] rfl rfl (by kernel_rfl) (fun _ _ _ h => h) (Or.inl ⟨by rfl, ?_⟩) ?_ ?_
              rotate_left
              · intro w'
                go_simp
                with_reducible rfl
              rotate_left
              · simp only [Act.put, List.setIfInBounds_toArray, List.set_cons_zero, List.set_cons_succ, i64_w, i32_w]
                rfl
              refine last_ (i := 10) (N := none) #[true, true, true, true, true, true, true, true, true, true, true] rfl rfl (by kernel_rfl) (by decide) (fun K hK => ?_)
              refine skip_ (w1 := ?_) (by rfl) rfl ?_ ?_
              rotate_left
              · go_simp
                rfl
              refine hK.out _ _ ?_
              clear hK K
              refine done_ (by kernel_rfl) ?_
              have HPd := HP.out.1.below (w' := wd) (by rw [← hwd]; exact below_drew (Below.refl _ _))
              have HP9 := HPd.put x HAT.out.2.1 (i : Int) H8.out.1 (by rw [HAT.out.2.2.1]; exact H8.out.2.2.1) (by rw [HAT.out.2.2.1]; exact H8.out.2.2.2)
              rw [HAT.out.2.2.2.1, show (x.f0 ++ [(i : Int)]).length = x.f0.length + 1 from by simp] at HP9
              have HN1 := HP.out.2
              clear HPd s7 s8 s9 HP HS0 HS1 HS2 HRP HBS HLn hHeld hwd H8
              generalize w8.setCell ⟨gn, 0, none⟩ (.slice A8 (x.f0.length + 1) c8) = w9 at HP9 ⊢
              have y14 : w9.cell? ⟨g14, 0, none⟩ = some (.int .i64 st1.last) := by
                have := (blk_cell HP9.h14 0).trans rfl
                rw [HQ.out.2.2.2] at this
                exact this
              have f14 : w9.frozen? ⟨g14, 0, none⟩ = false := by
                have := blk_frozen HP9.h14 0
                rw [HQ.out.2.2.2] at this
                exact this
              have HP := Aside0.mk (And.intro HP9 HN1)
              clear HP9 HN1
              go_wp2
              go_roundw
              case measure => have := HI.out; simp [intOf]; omega
              case rel =>
                refine ⟨i + 1, G, upF PV st1.now (.slice A8 (x.f0.length + 1) c8), n1, by have := HI.out; omega, (by first | rfl | go_num), ⟨?_, HP.out.2⟩⟩
                rw [HNX.out]
                show SqRel w4 G _ n1 (if (sqPut (i : Int) st1).last < 0 then none else some (G st1.now)) _ u12 _
                have h9 := HP.out.1.setLast (i : Int)
                rw [HQ.out.2.2.2] at h9
                rw [if_neg (show ¬ (sqPut (i : Int) st1).last < 0 by show ¬ (i : Int) < 0; omega)]
                rw [← HAT.out.2.2.2.1] at h9
                exact h9
            | none =>
              have HLK := Aside0.mk hlk
              clear hlk
              have HK := Aside0.mk (HE1.out.1.setNow none st.now)
              rw [HQ.out.2.2.1] at HK
              have HM6 : Aside0 (mapIs w6 bm (n + 1) (fun k => (sqWait l m st k).map G)) := ⟨by have := HE1.out.1.mp; rw [HQ.out.1] at this; exact this⟩
              go_upto_region 20 with (at_lookup; refine wp_look rfl _ _ rfl bm (n + 1) _ rfl HM6.out (i : Int) rfl HWF.out (.pointer none) (by rw [HLK.out]; rfl) ?_)
              clear y11 y13 f13
              have HKA := Aside0.mk (And.intro HK.out HE1.out.2)
              clear HK HE1 HM6
              rw [show ptrV none = Value.pointer none from rfl] at HKA
              generalize w6.setCell ⟨g13, 0, none⟩ (.pointer none) = wA at HKA ⊢
              have HLev := Aside0.mk (Kd.C_below HA.out.2.2.1 (below_step X4.out.1 HKA.out.1.be))
              have HAh := Aside0.mk (Kd.C_below (Kd.R_reads' X4.out.2.2.2.2.1).2.2 HKA.out.1.be)
              have da : decide ((i : Int) < (ah.length : Int)) = true := decide_eq_true (by have := HI.out; have := HM.out.2.2.2.1.1; omega)
              obtain ⟨av3, ev3, hxv3, pv3, qv3⟩ := atI HLev.out (i : Int)
              cases ev3
              obtain ⟨aa, ea, hxa, pa, qa⟩ := atI HAh.out (i : Int)
              cases ea
              rw [Int.toNat_natCast] at hxv3 hxa
              have HS0 := Aside0.mk (And.intro hxv3 hxa)
              have HS1 : Aside0 (∀ w', Below wA.drew.heap.size wA.drew w' → w'.cell? (av.add i) = some (.int .u8 (rd lev (i : Int))) ∧ w'.cell? (aa.add i) = some (.int .u8 (rd ah (i : Int)))) := ⟨fun w' hb => ⟨(hb.cell (World.block_lt_of_cell? _ _ hxv3)).trans hxv3, (hb.cell (World.block_lt_of_cell? _ _ hxa)).trans hxa⟩⟩
              have hr1 := HM.out.1 (rd lev (i : Int)) (E.rd_mem (by omega) (by have := HI.out; have := HA.out.2.2.2.2.2; omega))
              have hr2 := HM.out.2.2.2.1.2 (rd ah (i : Int)) (E.rd_mem (by omega) (by have := HI.out; have := HM.out.2.2.2.1.1; omega))
              have HR12 := Aside0.mk (And.intro hr1 hr2)
              clear hr1 hr2 hxv3 hxa HLev HAh
              obtain ⟨vl, hvl⟩ : ∃ vl, rd lev (i : Int) = vl := ⟨_, rfl⟩
              obtain ⟨va, hva⟩ : ∃ va, rd ah (i : Int) = va := ⟨_, rfl⟩
              rw [hvl, hva] at HS0 HS1 HR12
              have HVL := Aside0.mk (And.intro hvl hva)
              clear hvl hva
              refine start_ (n := 17) (S := fun w' => w'.cell? (av.add i) = some (.int .u8 vl) ∧ w'.cell? (aa.add i) = some (.int .u8 va)) (ds := [16]) #[false, false, false, false, false, false, false, false, false, false, false, false, false, false, false, false, false] (by kernel_rfl) rfl rfl HS0.out (fun hHeld => ?_)
              generalize hwd : wA.drew = wd at HS1 hHeld ⊢
              refine pure_ (i := 0) (N := some 73) (v := ?_) (a' := ?_) #[true, false, false, false, false, false, false, false, false, false, false, false, false, false, false, false, false] rfl rfl (by kernel_rfl) (fun _ _ _ h => h) (Or.inl ⟨by rfl, ?_⟩) ?_ ?_
              rotate_left
              · intro w'
                go_simp
                with_reducible rfl
              rotate_left
              · simp only [Act.put, List.setIfInBounds_toArray, List.set_cons_zero, List.set_cons_succ, i64_w, i32_w]
                rfl
              refine pure_ (i := 1) (N := some 74) (v := ?_) (a' := ?_) #[true, true, false, false, false, false, false, false, false, false, false, false, false, false, false, false, false] rfl rfl (by kernel_rfl) (fun _ _ _ h => h) (Or.inl ⟨by rfl, ?_⟩) ?_ ?_
              rotate_left
              · intro w'
                go_simp
                with_reducible rfl
              rotate_left
              · simp only [Act.put, List.setIfInBounds_toArray, List.set_cons_zero, List.set_cons_succ, i64_w, i32_w]
                rfl
              refine pure_ (i := 2) (N := some 75) (v := ?_) (a' := ?_) #[true, true, true, false, false, false, false, false, false, false, false, false, false, false, false, false, false] rfl rfl (by kernel_rfl) (fun _ _ _ h => h) (Or.inl ⟨by rfl, ?_⟩) ?_ ?_
              rotate_left
              · intro w'
                go_simp
                with_reducible rfl
              rotate_left
              · simp only [Act.put, List.setIfInBounds_toArray, List.set_cons_zero, List.set_cons_succ, i64_w, i32_w]
                rfl
              refine take_ (i := 3) (N := some 76) (v := ?_) (a' := ?_) #[true, true, true, true, false, false, false, false, false, false, false, false, false, false, false, false, false] rfl rfl (by kernel_rfl) (fun _ _ _ h => h) (Or.inl ⟨by rfl, ?_⟩) hHeld ?_ ?_
              rotate_left
              · rintro w' ⟨s0, s1⟩
                go_simp
                with_reducible rfl
              rotate_left
              · simp only [Act.put, List.setIfInBounds_toArray, List.set_cons_zero, List.set_cons_succ, i64_w, i32_w]
                rfl
              refine pure_ (i := 4) (N := some 77) (v := ?_) (a' := ?_) #[true, true, true, true, true, false, false, false, false, false, false, false, false, false, false, false, false] rfl rfl (by kernel_rfl) (fun _ _ _ h => h) (Or.inl ⟨by rfl, ?_⟩) ?_ ?_
              rotate_left
              · intro w'
                go_simp
                with_reducible rfl
              rotate_left
              · simp only [Act.put, List.setIfInBounds_toArray, List.set_cons_zero, List.set_cons_succ, i64_w, i32_w]
                rfl
              refine pure_ (i := 5) (N := some 78) (v := ?_) (a' := ?_) #[true, true, true, true, true, true, false, false, false, false, false, false, false, false, false, false, false] rfl rfl (by kernel_rfl) (fun _ _ _ h => h) (Or.inl ⟨by rfl, ?_⟩) ?_ ?_
              rotate_left
              · intro w'
                go_simp
                with_reducible rfl
              rotate_left
              · simp only [Act.put, List.setIfInBounds_toArray, List.set_cons_zero, List.set_cons_succ, i64_w, i32_w]
                rfl
              refine pure_ (i := 6) (N := some 79) (v := ?_) (a' := ?_) #[true, true, true, true, true, true, true, false, false, false, false, false, false, false, false, false, false] rfl rfl (by kernel_rfl) (fun _ _ _ h => h) (Or.inl ⟨by rfl, ?_⟩) ?_ ?_
              rotate_left
              · intro w'
                go_simp
                with_reducible rfl
              rotate_left
              · simp only [Act.put, List.setIfInBounds_toArray, List.set_cons_zero, List.set_cons_succ, i64_w, i32_w]
                rfl
              refine take_ (i := 7) (N := some 80) (v := ?_) (a' := ?_) #[true, true, true, true, true, true, true, true, false, false, false, false, false, false, false, false, false] rfl rfl (by kernel_rfl) (fun _ _ _ h => h) (Or.inl ⟨by rfl, ?_⟩) hHeld ?_ ?_
              rotate_left
              · rintro w' ⟨s0, s1⟩
                go_simp
                with_reducible rfl
              rotate_left
              · simp only [Act.put, List.setIfInBounds_toArray, List.set_cons_zero, List.set_cons_succ, i64_w, i32_w]
                rfl
              refine pure_ (i := 8) (N := some 81) (v := ?_) (a' := ?_) #[true, true, true, true, true, true, true, true, true, false, false, false, false, false, false, false, false] rfl rfl (by kernel_rfl) (fun _ _ _ h => h) (Or.inl ⟨by rfl, ?_⟩) ?_ ?_
              rotate_left
              · intro w'
                go_simp
                with_reducible rfl
              rotate_left
              · simp only [Act.put, List.setIfInBounds_toArray, List.set_cons_zero, List.set_cons_succ, i64_w, i32_w]
                rfl
              refine pure_ (i := 9) (N := some 82) (v := ?_) (a' := ?_) #[true, true, true, true, true, true, true, true, true, true, false, false, false, false, false, false, false] rfl rfl (by kernel_rfl) (fun _ _ _ h => h) (Or.inl ⟨by rfl, ?_⟩) ?_ ?_
              rotate_left
              · intro w'
                go_simp
                with_reducible rfl
              rotate_left
              · simp only [Act.put, List.setIfInBounds_toArray, List.set_cons_zero, List.set_cons_succ, i64_w, i32_w]
                rfl
              refine pure_ (i := 10) (N := some 83) (v := ?_) (a' := ?_) #[true, true, true, true, true, true, true, true, true, true, true, false, false, false, false, false, false] rfl rfl (by kernel_rfl) (fun _ _ _ h => h) (Or.inl ⟨by rfl, ?_⟩) ?_ ?_
              rotate_left
              · intro w'
                go_simp
                with_reducible rfl
              rotate_left
              · simp only [Act.put, List.setIfInBounds_toArray, List.set_cons_zero, List.set_cons_succ, i64_w, i32_w]
                rfl
              refine take_ (i := 11) (N := some 84) (v := ?_) (a' := ?_) #[true, true, true, true, true, true, true, true, true, true, true, true, false, false, false, false, false] rfl rfl (by kernel_rfl) (fun _ _ _ h => h) (Or.inl ⟨by rfl, ?_⟩) hHeld ?_ ?_
              rotate_left
              · rintro w' ⟨s0, s1⟩
                go_simp
                with_reducible rfl
              rotate_left
              · simp only [Act.put, List.setIfInBounds_toArray, List.set_cons_zero, List.set_cons_succ, i64_w, i32_w]
                rfl
              refine one_ (i := 12) (N := some 85) #[true, true, true, true, true, true, true, true, true, true, true, true, true, false, false, false, false] rfl rfl (by kernel_rfl) (by decide) (fun K hK => ?_)
              refine value_ (v := .slice (some ⟨wd.heap.size, 0, none⟩) 2 2) (w1 := wd.alloc (.cells #[.int .u8 vl, .int .u8 va] 5)) (by rfl) rfl ?_ ?_
              · go_simp
              refine hK.out _ _ (HS1.out _ (below_alloc (Below.refl _ _) _)) (fun hHeld => ?_)
              clear hK K
              refine norm_ (a' := ?_) ?_ ?_
              rotate_left
              · show Act.put _ (some 85) _ = _
                simp only [Act.put, List.setIfInBounds_toArray, List.set_cons_zero, List.set_cons_succ, i64_w, i32_w]
                rfl
              refine one_ (i := 13) (N := some 86) #[true, true, true, true, true, true, true, true, true, true, true, true, true, true, false, false, false] rfl rfl (by kernel_rfl) (by decide) (fun K hK => ?_)
              have hl0 := heap_alloc_new wd (.cells #[.int .u8 vl, .int .u8 va] 5)
              refine goes_ Try.func25 (by kernel_rfl) rfl #[.slice (some ⟨wd.heap.size, 0, none⟩) 2 2] (by rfl) rfl rfl (by (try simp only [List.map_toArray, List.map_cons, List.map_nil]); first | done | rfl) ?_
              refine (side_c wd.heap.size vl va HR12.out.1.1 HR12.out.1.2 HR12.out.2.1 HR12.out.2.2 _ ((blk_cell hl0 0).trans rfl) ((blk_cell hl0 1).trans rfl)).mono ?_
              rintro e w' ⟨rfl, hw'⟩
              obtain rfl := hw'.symm
              refine ⟨_, rfl, ?_⟩
              refine hK.out _ _ (HS1.out _ (below_alloc (Below.refl _ _) _)) (fun hHeld => ?_)
              clear hK K
              refine norm_ (a' := ?_) ?_ ?_
              rotate_left
              · show Act.put _ (some 86) _ = _
                simp only [Act.put, List.setIfInBounds_toArray, List.set_cons_zero, List.set_cons_succ, i64_w, i32_w]
                rfl
              refine pure_ (i := 14) (N := some 87) (v := ?_) (a' := ?_) #[true, true, true, true, true, true, true, true, true, true, true, true, true, true, true, false, false] rfl rfl (by kernel_rfl) (fun _ _ _ h => h) (Or.inl ⟨by rfl, ?_⟩) ?_ ?_
              rotate_left
              · intro w'
                go_simp
                with_reducible rfl
              rotate_left
              · simp only [Act.put, List.setIfInBounds_toArray, List.set_cons_zero, List.set_cons_succ, i64_w, i32_w]
                rfl
              refine one_ (i := 15) (N := some 88) #[true, true, true, true, true, true, true, true, true, true, true, true, true, true, true, true, false] rfl rfl (by kernel_rfl) (by decide) (fun K hK => ?_)
              refine value_ (v := .pointer (some ⟨wd.heap.size + 1, 0, none⟩)) (w1 := (wd.alloc (.cells #[.int .u8 vl, .int .u8 va] 5)).alloc (.cells #[.slice none 0 0, .int .u8 vl, .int .u8 (sideV (mx vl va)), .int .u8 0] 36)) (by rfl) rfl ?_ ?_
              · go_simp
              refine hK.out _ _ (HS1.out _ (below_alloc (below_alloc (Below.refl _ _) _) _)) (fun hHeld => ?_)
              clear hK K
              refine norm_ (a' := ?_) ?_ ?_
              rotate_left
              · show Act.put _ (some 88) _ = _
                simp only [Act.put, List.setIfInBounds_toArray, List.set_cons_zero, List.set_cons_succ, i64_w, i32_w]
                rfl
              obtain ⟨wE, hwE⟩ : ∃ wE, (wd.alloc (.cells #[.int .u8 vl, .int .u8 va] 5)).alloc (.cells #[.slice none 0 0, .int .u8 vl, .int .u8 (sideV (mx vl va)), .int .u8 0] 36) = wE := ⟨_, rfl⟩
              rw [hwE]
              have HE5 : Aside0 (SqRel w4 G PV (n + 1) none ⟨st.all, st.now, st.last, sqWait l m st⟩ u12 wE ∧ n ≤ i) := ⟨HKA.out.1.below (by rw [← hwE, ← hwd]; exact below_alloc (below_alloc (below_drew (Below.refl _ _)) _) _), HKA.out.2⟩
              have hgE : wE.heap[wd.heap.size + 1]? = some (.cells #[.slice none 0 0, .int .u8 vl, .int .u8 (sideV (mx vl va)), .int .u8 0] 36) := by
                have := heap_alloc_new (wd.alloc (.cells #[.int .u8 vl, .int .u8 va] 5)) (.cells #[.slice none 0 0, .int .u8 vl, .int .u8 (sideV (mx vl va)), .int .u8 0] 36)
                rw [hwE] at this
                simpa using this
              have hfr : ∀ s, s < st.all.length → G s ≠ wd.heap.size + 1 := fun s hs e => by
                have := blk_lt (HKA.out.1.sq.at' s _ (List.getElem?_eq_getElem hs)).2.1
                rw [← hwd] at e
                have e2 : G s = wA.heap.size + 1 := e
                omega
              have hb4 : w4.heap.size + 4 ≤ wd.heap.size + 1 := by
                have := blk_lt HKA.out.1.h14
                rw [← hwd]
                show _ ≤ wA.heap.size + 1
                omega
              obtain ⟨g, hg⟩ : ∃ g, wd.heap.size + 1 = g := ⟨_, rfl⟩
              rw [hg] at hgE hfr hb4 ⊢
              have HGE := Aside0.mk (And.intro hgE (And.intro hfr hb4))
              have y13 : wE.cell? ⟨g13, 0, none⟩ = some (.pointer none) := by
                have := (blk_cell HE5.out.1.h13 0).trans rfl
                rw [HQ.out.2.2.1] at this
                exact this
              have f13 : wE.frozen? ⟨g13, 0, none⟩ = false := by
                have := blk_frozen HE5.out.1.h13 0
                rw [HQ.out.2.2.1] at this
                exact this
              clear hgE hfr hb4 hg hwE HS0 HS1 hHeld HKA hwd
              refine last_ (i := 16) (N := none) #[true, true, true, true, true, true, true, true, true, true, true, true, true, true, true, true, true] rfl rfl (by kernel_rfl) (by decide) (fun K hK => ?_)
              refine skip_ (w1 := ?_) (by rfl) rfl ?_ ?_
              rotate_left
              · go_simp
                rfl
              refine hK.out _ _ ?_
              clear hK K
              refine done_ (by kernel_rfl) ?_
              have HN := Aside0.mk HE5.out.2
              have HF := Aside0.mk (HE5.out.1.setNow (some g) st.now)
              rw [HQ.out.2.2.1, show ptrV (some g) = Value.pointer (some ⟨g, 0, none⟩) from rfl] at HF
              have hgF : (wE.setCell ⟨g13, 0, none⟩ (.pointer (some ⟨g, 0, none⟩))).heap[g]? = some (.cells #[.slice none 0 0, .int .u8 vl, .int .u8 (sideV (mx vl va)), .int .u8 0] 36) := (Below.heap_setCell _ _ _ _ (by show g ≠ g13; have := HGE.out.2.2; have := HQ.out.2.2.1; omega)).trans HGE.out.1
              generalize wE.setCell ⟨g13, 0, none⟩ (.pointer (some ⟨g, 0, none⟩)) = wF at HF hgF ⊢
              have HGF := Aside0.mk hgF
              clear y13 f13 hgF
              have y13 : wF.cell? ⟨g13, 0, none⟩ = some (.pointer (some ⟨g, 0, none⟩)) := by
                have := (blk_cell HF.out.h13 0).trans rfl
                rw [HQ.out.2.2.1] at this
                exact this
              have HLF : Aside0 ((((List.range st.all.length).map G).length + 1) * 8 ≤ 140737488355328 ∧ w4.heap.size + 4 ≤ wF.heap.size) := ⟨by have := HOK.out.al; simp; omega, by have := blk_lt HF.out.h14; omega⟩
              have HBG : Aside0 (∀ (v' : Value) (w5 : World), Kd.R ptrK 60 w5 (w4.heap.size + 4) (fun _ => True) v' ((List.range st.all.length).map G ++ [g]) → wF.grownBy w5 u12.ownBlock → SqRel w4 (upF G st.all.length g) (upF PV st.all.length (.slice none 0 0)) (n + 1) (some g) ⟨st.all ++ [⟨[], vl, sideV (mx vl va), 0⟩], st.all.length, st.last, sqWait l m st⟩ v' w5 ∧ w5.cell? ⟨g11, 0, none⟩ = some (.map (some bm))) := ⟨fun v' w5 h1 h2 => by
                have hq := HF.out.begun g ⟨[], vl, sideV (mx vl va), 0⟩ rfl HGE.out.2.2 HGE.out.2.1 HGF.out (wait_lt HOK.out l m) h1 h2
                refine ⟨hq, ?_⟩
                have := (blk_cell hq.h11 0).trans rfl
                rw [HQ.out.2.1, HQ.out.1] at this
                exact this⟩
              go_upto_region 22 with (at_builtin; refine Kd.R_append ptrK (w0 := wF) (W := wF) (w4.heap.size + 4) rfl (.tmp 89) (.tmp 91) 59 60 (.pointer none) 8 rfl Try.underlying59 info60 rfl (by decide) (by decide) u12 ((List.range st.all.length).map G) g [.pointer (some ⟨g, 0, none⟩)] (fun _ => True) (fun _ => False) rfl rfl rfl (fun _ h => h.elim) (fun _ _ => trivial) HF.out.al (Below.refl _ _) HLF.out.2 HLF.out.1 ?_; intro vn wG hRn hBn hgn hatn; have HGG := Aside0.mk (HBG.out vn wG hRn hgn); clear hRn hBn hgn hatn)
              obtain ⟨G2, hG2⟩ : ∃ G2, upF G st.all.length g = G2 := ⟨_, rfl⟩
              obtain ⟨PV2, hPV2⟩ : ∃ PV2, upF PV st.all.length (.slice none 0 0) = PV2 := ⟨_, rfl⟩
              have hgl : g = G2 st.all.length := by rw [← hG2, upF_eq]
              rw [hG2, hPV2] at HGG
              have z11 := HGG.out.2
              have HM7 : Aside0 (mapIs wG bm (n + 1) (fun k => (sqWait l m st k).map G2)) := ⟨by have := HGG.out.1.mp; rw [HQ.out.1] at this; exact this⟩
              clear y13 HBG HLF HF HGF HGE HE5 hG2 hPV2
              go_upto_region 23 with (at_delete; refine wp_del rfl _ _ rfl bm (n + 1) _ rfl HM7.out (i : Int) rfl HWF.out ?_; intro w7 hM7 hT7; have H7 := Aside0.mk (And.intro hM7 hT7); clear hM7 hT7)
              have hup : (fun k => ((upW (sqWait l m st) (i : Int) none) k).map G2) = upW (fun k => (sqWait l m st k).map G2) (i : Int) none := by
                funext k
                unfold upW
                split <;> rfl
              have HP : Aside0 (SqRel w4 G2 PV2 (n + 1) (some (G2 st.all.length)) ⟨st.all ++ [⟨[], vl, sideV (mx vl va), 0⟩], st.all.length, st.last, upW (sqWait l m st) (i : Int) none⟩ vn w7 ∧ n + 1 ≤ i + 1) := ⟨by rw [← hgl]; exact HGG.out.1.ends _ (n + 1) (by rw [hup, HQ.out.1]; exact H7.out.1) (by rw [HQ.out.1]; exact H7.out.2), by have := HN.out; omega⟩
              have hturn : sqTurn l lev m ah i st = ⟨st.all ++ [⟨[], vl, sideV (mx vl va), 0⟩], st.all.length, st.last, upW (sqWait l m st) (i : Int) none⟩ := by
                unfold sqTurn
                rw [HLK.out, HVL.out.1, HVL.out.2]
              have HMID := Aside0.mk (HOK.out.turn l lev m ah)
              rw [hturn] at HMID
              have HNX : Aside0 (sqAt l lev m ah (i + 1) = sqPut i ⟨st.all ++ [⟨[], vl, sideV (mx vl va), 0⟩], st.all.length, st.last, upW (sqWait l m st) (i : Int) none⟩) := ⟨by rw [HST.out, if_pos (.inr (bne_iff_ne.mp be2)), hturn]⟩
              clear z11 HM7 HLK H7 hup hturn HOK HST HGG hgl HVL HR12
              generalize hst1 : (⟨st.all ++ [⟨[], vl, sideV (mx vl va), 0⟩], st.all.length, st.last, upW (sqWait l m st) (i : Int) none⟩ : SqSt) = st1 at HP HMID HNX
              have hnow : G2 st.all.length = G2 st1.now := by rw [← hst1]
              clear hst1
              rw [hnow] at HP
              generalize n + 1 = n1 at HP
              obtain ⟨x, hx⟩ : ∃ x, st1.all[st1.now]? = some x := ⟨_, List.getElem?_eq_getElem HMID.out.nw⟩
              have hat := HP.out.1.sq.at' _ x hx
              obtain ⟨Ap, cp, ep⟩ := Kd.R_slice hat.2.2
              have hpl := HMID.out.pl _ x hx
              obtain ⟨gn, hgn⟩ : ∃ gn, G2 st1.now = gn := ⟨_, rfl⟩
              rw [hgn, ep] at hat
              have HAT := Aside0.mk (And.intro hat (And.intro hx (And.intro ep (And.intro hgn hpl.1))))
              have y13 : w7.cell? ⟨g13, 0, none⟩ = some (.pointer (some ⟨gn, 0, none⟩)) := by
                have := (blk_cell HP.out.1.h13 0).trans rfl
                rw [HQ.out.2.2.1, hgn] at this
                exact this
              have y0 : w7.cell? ⟨gn, 0, none⟩ = some (.slice Ap x.f0.length cp) := (blk_cell hat.2.1 0).trans rfl
              have hk1 : ∀ o : Obj, (w7.drew.alloc o).cell? ⟨g13, 0, none⟩ = some (.pointer (some ⟨gn, 0, none⟩)) ∧ (w7.drew.alloc o).cell? ⟨gn, 0, none⟩ = some (.slice Ap x.f0.length cp) := fun o => by
                constructor
                · have := (blk_cell (blk_alloc (blk_drew HP.out.1.h13) o) 0).trans rfl
                  rw [HQ.out.2.2.1, hgn] at this
                  exact this
                · exact (blk_cell (blk_alloc (blk_drew hat.2.1) o) 0).trans rfl
              have hk2 : ∀ w8, w7.drew.grownBy w8 (Value.slice Ap x.f0.length cp).ownBlock → w8.cell? ⟨g13, 0, none⟩ = some (.pointer (some ⟨gn, 0, none⟩)) ∧ w8.cell? ⟨gn, 0, none⟩ = some (.slice Ap x.f0.length cp) ∧ w8.frozen? ⟨gn, 0, none⟩ = false := fun w8 hg => by
                have hb := Kd.R_base hat.2.2
                have hty := Kd.R_typed hat.2.2
                constructor
                · have := (blk_cell (blk_grown (blk_drew HP.out.1.h13) hg (fun e => by have := hb _ e.symm; omega)) 0).trans rfl
                  rw [HQ.out.2.2.1, hgn] at this
                  exact this
                · have hq := blk_grown (blk_drew hat.2.1) hg (fun e => by
                    obtain ⟨D, hD⟩ := hty _ e.symm
                    rw [hat.2.1] at hD
                    injection hD with hD
                    injection hD with _ hD
                    cases hD)
                  exact ⟨(blk_cell hq 0).trans rfl, blk_frozen hq 0⟩
              have HS1 := Aside0.mk hk1
              have HS2 := Aside0.mk hk2
              clear hk2
              have HS0 := Aside0.mk (And.intro y13 y0)
              have HRP := Aside0.mk (Kd.R_drew hat.2.2)
              have HLn : Aside0 ((x.f0.length + 1) * 8 ≤ 140737488355328) := ⟨by have := hpl.1; omega⟩
              have HBS : Aside0 (w4.heap.size + 4 ≤ w7.drew.heap.size) := ⟨by have := blk_lt HP.out.1.h14; show _ ≤ w7.heap.size; omega⟩
              clear y13 y0 hk1 hat hx ep hgn hpl
              try simp only [Act.put]
              refine start_ (n := 11) (S := fun w' => w'.cell? ⟨g13, 0, none⟩ = some (.pointer (some ⟨gn, 0, none⟩)) ∧ w'.cell? ⟨gn, 0, none⟩ = some (.slice Ap x.f0.length cp)) (ds := [10]) #[false, false, false, false, false, false, false, false, false, false, false] (by kernel_rfl) rfl rfl HS0.out (fun hHeld => ?_)
              generalize hwd : w7.drew = wd at HS1 HS2 HRP HBS hHeld ⊢
              refine pure_ (i := 5) (N := some 100) (v := ?_) (a' := ?_) #[false, false, false, false, false, true, false, false, false, false, false] rfl rfl (by kernel_rfl) (fun _ _ _ h => h) (Or.inl ⟨by rfl, ?_⟩) ?_ ?_
              rotate_left
              · intro w'
                go_simp
                with_reducible rfl
              rotate_left
              · simp only [Act.put, List.setIfInBounds_toArray, List.set_cons_zero, List.set_cons_succ, i64_w, i32_w]
                rfl
              refine take_ (i := 0) (N := some 95) (v := ?_) (a' := ?_) #[true, false, false, false, false, true, false, false, false, false, false] rfl rfl (by kernel_rfl) (fun _ _ _ h => h) (Or.inl ⟨by rfl, ?_⟩) hHeld ?_ ?_
              rotate_left
              · rintro w' ⟨s0, s1⟩
                go_simp
                with_reducible rfl
              rotate_left
              · simp only [Act.put, List.setIfInBounds_toArray, List.set_cons_zero, List.set_cons_succ, i64_w, i32_w]
                rfl
              refine take_ (i := 1) (N := some 96) (v := ?_) (a' := ?_) #[true, true, false, false, false, true, false, false, false, false, false] rfl rfl (by kernel_rfl) (fun _ _ _ h => h) (Or.inl ⟨by rfl, ?_⟩) hHeld ?_ ?_
              rotate_left
              · rintro w' ⟨s0, s1⟩
                go_simp
                with_reducible rfl
              rotate_left
              · simp only [Act.put, List.setIfInBounds_toArray, List.set_cons_zero, List.set_cons_succ, i64_w, i32_w]
                rfl
              refine pure_ (i := 2) (N := some 97) (v := ?_) (a' := ?_) #[true, true, true, false, false, true, false, false, false, false, false] rfl rfl (by kernel_rfl) (fun _ _ _ h => h) (Or.inl ⟨by rfl, ?_⟩) ?_ ?_
              rotate_left
              · intro w'
                go_simp
                with_reducible rfl
              rotate_left
              · simp only [Act.put, List.setIfInBounds_toArray, List.set_cons_zero, List.set_cons_succ, i64_w, i32_w]
                rfl
              refine pure_ (i := 3) (N := some 98) (v := ?_) (a' := ?_) #[true, true, true, true, false, true, false, false, false, false, false] rfl rfl (by kernel_rfl) (fun _ _ _ h => h) (Or.inl ⟨by rfl, ?_⟩) ?_ ?_
              rotate_left
              · intro w'
                go_simp
                with_reducible rfl
              rotate_left
              · simp only [Act.put, List.setIfInBounds_toArray, List.set_cons_zero, List.set_cons_succ, i64_w, i32_w]
                rfl
              refine take_ (i := 4) (N := some 99) (v := ?_) (a' := ?_) #[true, true, true, true, true, true, false, false, false, false, false] rfl rfl (by kernel_rfl) (fun _ _ _ h => h) (Or.inl ⟨by rfl, ?_⟩) hHeld ?_ ?_
              rotate_left
              · rintro w' ⟨s0, s1⟩
                go_simp
                with_reducible rfl
              rotate_left
              · simp only [Act.put, List.setIfInBounds_toArray, List.set_cons_zero, List.set_cons_succ, i64_w, i32_w]
                rfl
              refine one_ (i := 6) (N := some 101) #[true, true, true, true, true, true, true, false, false, false, false] rfl rfl (by kernel_rfl) (by decide) (fun K hK => ?_)
              refine value_ (v := .slice (some ⟨wd.heap.size, 0, none⟩) 1 1) (w1 := wd.alloc (.cells #[.int .i64 (i : Int)] 3)) (by rfl) rfl ?_ ?_
              · go_simp
              refine hK.out _ _ (HS1.out _) (fun hHeld => ?_)
              clear hK K
              refine norm_ (a' := ?_) ?_ ?_
              rotate_left
              · show Act.put _ (some 101) _ = _
                simp only [Act.put, List.setIfInBounds_toArray, List.set_cons_zero, List.set_cons_succ, i64_w, i32_w]
                rfl
              refine one_ (i := 7) (N := some 102) #[true, true, true, true, true, true, true, true, false, false, false] rfl rfl (by kernel_rfl) (by decide) (fun K hK => ?_)
              refine Kd.R_append_step (Kd.int .i64) (w0 := wd) (W := wd) (w4.heap.size + 4) (by rfl) (.tmp 99) (.tmp 101) 33 3 (.int .i64 0) 8 rfl Try.underlying33 info3 rfl (by decide) (by decide) (.slice Ap x.f0.length cp) x.f0 (i : Int) [.int .i64 (i : Int)] (fun _ => True) (fun _ => False) rfl rfl rfl (fun _ h => h.elim) (fun _ _ => trivial) HRP.out (Below.refl _ _) HBS.out HLn.out ?_
              intro v1 w8 hR8 hB8 hg8 hat8
              obtain ⟨A8, c8, e8⟩ := Kd.R_slice hR8
              subst e8
              have s7 := (HS2.out _ hg8).1
              have s8 := (HS2.out _ hg8).2.1
              have s9 := (HS2.out _ hg8).2.2
              have H8 := Aside0.mk (And.intro hR8 (And.intro hB8 (And.intro hg8 hat8)))
              clear hR8 hB8 hg8 hat8
              refine hK.out _ _ ⟨s7, s8⟩ (fun hHeld => ?_)
              clear hK K
              refine norm_ (a' := ?_) ?_ ?_
              rotate_left
              · show Act.put _ (some 102) _ = _
                simp only [Act.put, List.setIfInBounds_toArray, List.set_cons_zero, List.set_cons_succ, i64_w, i32_w]
                rfl
              refine pure_ (i := 8) (N := some 103) (v := ?_) (a' := ?_) #[true, true, true, true, true, true, true, true, true, false, false] rfl rfl (by kernel_rfl) (fun _ _ _ h => h) (Or.inl ⟨by rfl, ?_⟩) ?_ ?_
              rotate_left
              · intro w'
                go_simp
                with_reducible rfl
              rotate_left
              · simp only [Act.put, List.setIfInBounds_toArray, List.set_cons_zero, List.set_cons_succ, i64_w, i32_w]
                rfl
              refine pure_ (i := 9) (N := some 104) (v := ?_) (a' := ?_) #[true, true, true, true, true, true, true, true, true, true, false] rfl rfl (by kernel_rfl) (fun _ _ _ h => h) (Or.inl ⟨by rfl, ?_⟩) ?_ ?_
              rotate_left
              · intro w'
                go_simp
                with_reducible rfl
              rotate_left
              · simp only [Act.put, List.setIfInBounds_toArray, List.set_cons_zero, List.set_cons_succ, i64_w, i32_w]
                rfl
              refine last_ (i := 10) (N := none) #[true, true, true, true, true, true, true, true, true, true, true] rfl rfl (by kernel_rfl) (by decide) (fun K hK => ?_)
              refine skip_ (w1 := ?_) (by rfl) rfl ?_ ?_
              rotate_left
              · go_simp
                rfl
              refine hK.out _ _ ?_
              clear hK K
              refine done_ (by kernel_rfl) ?_
              have HPd := HP.out.1.below (w' := wd) (by rw [← hwd]; exact below_drew (Below.refl _ _))
              have HP9 := HPd.put x HAT.out.2.1 (i : Int) H8.out.1 (by rw [HAT.out.2.2.1]; exact H8.out.2.2.1) (by rw [HAT.out.2.2.1]; exact H8.out.2.2.2)
              rw [HAT.out.2.2.2.1, show (x.f0 ++ [(i : Int)]).length = x.f0.length + 1 from by simp] at HP9
              have HN1 := HP.out.2
              clear HPd s7 s8 s9 HP HS0 HS1 HS2 HRP HBS HLn hHeld hwd H8
              generalize w8.setCell ⟨gn, 0, none⟩ (.slice A8 (x.f0.length + 1) c8) = w9 at HP9 ⊢
              have y14 : w9.cell? ⟨g14, 0, none⟩ = some (.int .i64 st1.last) := by
                have := (blk_cell HP9.h14 0).trans rfl
                rw [HQ.out.2.2.2] at this
                exact this
              have f14 : w9.frozen? ⟨g14, 0, none⟩ = false := by
                have := blk_frozen HP9.h14 0
                rw [HQ.out.2.2.2] at this
                exact this
              have HP := Aside0.mk (And.intro HP9 HN1)
              clear HP9 HN1
              go_wp2
              go_roundw
              case measure => have := HI.out; simp [intOf]; omega
              case rel =>
                refine ⟨i + 1, G2, upF PV2 st1.now (.slice A8 (x.f0.length + 1) c8), n1, by have := HI.out; omega, (by first | rfl | go_num), ⟨?_, HP.out.2⟩⟩
                rw [HNX.out]
                show SqRel w4 G2 _ n1 (if (sqPut (i : Int) st1).last < 0 then none else some (G2 st1.now)) _ vn _
                have h9 := HP.out.1.setLast (i : Int)
                rw [HQ.out.2.2.2] at h9
                rw [if_neg (show ¬ (sqPut (i : Int) st1).last < 0 by show ¬ (i : Int) < 0; omega)]
                rw [← HAT.out.2.2.2.1] at h9
                exact h9
    · have dl : decide ((i : Int) < (l.length : Int)) = false := decide_eq_false hlt
      obtain rfl : i = l.length := by omega
      have hok := sqAt_ok l lev m ah l.length
      obtain ⟨st, est⟩ : ∃ st, sqAt l lev m ah l.length = st := ⟨_, rfl⟩
      rw [est] at hok HR
      have HST := Aside0.mk est
      have HOK := Aside0.mk hok
      clear hok est hi hlt
      obtain ⟨n1, hn1⟩ : ∃ n1, st.all.length = n1 := ⟨_, rfl⟩
      have hal := HR.out.1.al
      obtain ⟨Al, cl, el⟩ := Kd.R_slice hal
      rw [List.length_map, List.length_range, hn1] at el
      subst el
      have HN1 := Aside0.mk hn1
      have hnb : n1 ≤ 65536 := by have := HOK.out.al; have := HA.out.2.2.2.2.1; omega
      have HNB := Aside0.mk hnb
      clear hal hn1 hnb
      obtain ⟨i36, hi36, hz36, hs36, hb36⟩ := info_parts info36
      have HI36 := Aside0.mk (And.intro hi36 (And.intro hz36 (And.intro hs36 hb36)))
      clear hi36 hz36 hs36 hb36
      have HB4 : Aside0 (w4.heap.size + 4 ≤ wr.heap.size) := ⟨by have := blk_lt HR.out.1.h14; omega⟩
      go_upto_region 27 with (at_make; refine wpList_make_own _ rfl _ _ 29 rfl (w4.heap.size + 4) 36 i36 _ 4 Try.underlying29 HI36.out.1 HI36.out.2.1 HI36.out.2.2.1 .i64 .i64 _ n1 rfl rfl (by rfl) (by have := HNB.out; rw [HI36.out.2.2.2]; omega) (by have := HNB.out; simp [maxLen]; omega) HB4.out ?_; intro w5 hown hgrow; have H5 := Aside0.mk (And.intro hown hgrow); clear hown hgrow)
      have HO : Aside0 (OutRel (w4.heap.size + 4) G PV st.all (sqEos l lev m be base) 0 0 (.slice Al n1 cl) (.slice (some ⟨wr.heap.size, 0, none⟩) 0 n1) w5 ∧ Below w4.heap.size w4 w5) := ⟨OutRel.start _ HR.out.1.sq HR.out.1.al H5.out.1 H5.out.2, HR.out.1.be.grown H5.out.2 (HR.out.1.be.size) (fun j hj => by cases hj)⟩
      generalize Value.slice (some ⟨wr.heap.size, 0, none⟩) 0 n1 = vo at HO ⊢
      clear HR HB4 H5 HI36
      go_wp2
      go_loopw [18, 112] (fun v18 v112 wx => ∃ (j : Nat), j ≤ n1 ∧ v112 = .int .i64 (j : Int) ∧ Aside0 (OutRel (w4.heap.size + 4) G PV st.all (sqEos l lev m be base) j j (.slice Al n1 cl) v18 wx ∧ Below w4.heap.size w4 wx)) (fun _ v112 _ => n1 - (intOf v112).toNat)
      case atStart => exact ⟨0, Nat.zero_le _, rfl, HO⟩
      case round =>
        clear HO
        obtain ⟨j, hj, rfl, HX⟩ := hrel
        by_cases hlt : (j : Int) < (n1 : Int)
        · have dl : decide ((j : Int) < (n1 : Int)) = true := decide_eq_true hlt
          have dn : decide (j < n1) = true := decide_eq_true (by omega)
          have pn1 : ((j : Int) < (n1 : Int)) = True := eq_true hlt
          have pn2 : (j < n1) = True := eq_true (by omega)
          have pn3 : (0 ≤ (j : Int)) = True := eq_true (by omega)
          have d0 : decide (0 ≤ (j : Int)) = true := decide_eq_true (by omega)
          have hj1 : j < st.all.length := by rw [HN1.out]; omega
          obtain ⟨x, hx⟩ : ∃ x, st.all[j]? = some x := ⟨_, List.getElem?_eq_getElem hj1⟩
          have HJ := Aside0.mk (And.intro hj (And.intro hlt hx))
          have hjb : j ≤ 65535 := by have := HNB.out; omega
          obtain ⟨hp1, hp2, hp3⟩ := HOK.out.pl _ x hx
          have hat := HX.out.1.sq.at' _ x (done_at _ _ _ x hx)
          obtain ⟨Ap, cp, ep⟩ := Kd.R_slice hat.2.2
          have hal := (Kd.R_reads' HX.out.1.al).2.2
          obtain ⟨ap, eap, hxp⟩ := ReadsOf.at_ (Kd.reads_of_C (enc := fun g => Value.pointer (some ⟨g, 0, none⟩)) (d := 0) (h1 := fun _ => rfl) hal) (j : Int) (by omega) (by simp [HN1.out]; omega)
          cases eap
          rw [show rdOf 0 ((List.range st.all.length).map G) (j : Int) = G j by simp [rdOf, hj1], Int.toNat_natCast] at hxp
          obtain ⟨gn, hgn⟩ : ∃ gn, G j = gn := ⟨_, rfl⟩
          rw [hgn] at hxp hat
          have hR0 := hat.2.2
          rw [ep] at hR0
          have y0 : wr.cell? ⟨gn, 0, none⟩ = some (.slice Ap x.f0.length cp) := (blk_cell hat.2.1 0).trans (by rw [← ep]; rfl)
          have HAT := Aside0.mk (And.intro hat (And.intro ep hgn))
          have hxb : x.f0.length ≤ 65536 := by have := HA.out.2.2.2.2.1; omega
          have hlen : 0 < x.f0.length := List.length_pos_iff.mpr hp2
          obtain ⟨kk, hkk⟩ : ∃ kk, (x.f0.length : Int) - 1 = kk := ⟨_, rfl⟩
          have hwr : IntKind.i64.wrap ((x.f0.length : Int) - 1) = kk := (Go.IntWalk.i64_in _ (by omega)).trans hkk
          have dp0 : decide (0 ≤ kk) = true := decide_eq_true (by omega)
          have dp1 : decide (kk < (x.f0.length : Int)) = true := decide_eq_true (by omega)
          obtain ⟨pp, epp, hxk, pp1, pp2⟩ := atI (Kd.R_reads' hR0).2.2 kk
          cases epp
          have hkm := hp3 _ (E.rd_mem (l := x.f0) (i := kk) (by omega) (by omega))
          obtain ⟨k, hk⟩ : ∃ k, rd x.f0 kk = k := ⟨_, rfl⟩
          rw [hk] at hxk hkm
          rw [← hkk] at hk
          clear hkk
          have HK := Aside0.mk (And.intro hk (And.intro hkm hp1))
          have dk0 : decide (0 ≤ k) = true := decide_eq_true hkm.1
          have dk1 : decide (k < (l.length : Int)) = true := decide_eq_true hkm.2
          have dk2 : decide (k < (lev.length : Int)) = true := decide_eq_true (by have := HA.out.2.2.2.2.2; omega)
          have dk3 : decide (k < (be.length : Int)) = true := decide_eq_true (by have := HM.out.2.2.2.2.1; omega)
          have dk4 : decide (k < (m.length : Int)) = true := decide_eq_true (by have := HM.out.2.1; omega)
          obtain ⟨a1, e1, hx1, q1, q2⟩ := atI (Kd.C_below HA.out.1 (below_step X4.out.1 HX.out.2)) k
          cases e1
          obtain ⟨a2, e2, hx2, q3, q4⟩ := atI (Kd.C_below HA.out.2.2.1 (below_step X4.out.1 HX.out.2)) k
          cases e2
          obtain ⟨a3, e3, hx3, q5, q6⟩ := atI (Kd.C_below (Kd.R_reads' X4.out.2.2.2.2.2).2.2 HX.out.2) k
          cases e3
          obtain ⟨a4, e4, hx4, q7, q8⟩ := atI (Kd.C_below (Kd.R_reads' X4.out.2.2.2.1).2.2 HX.out.2) k
          cases e4
          have y3 : wr.cell? ⟨g3, 0, none⟩ = some (.slice (some a1) l.length c0) := (blk_cell (blk_below X4.out.2.1 HX.out.2) 0).trans rfl
          have y8 : wr.cell? ⟨g8, 0, none⟩ = some (.slice (some a4) m.length cm) := (blk_cell (HG8.out ▸ blk_below X4.out.2.2.1 HX.out.2) 0).trans rfl
          have HLV2 := HM.out.1 (rd lev k) (E.rd_mem (by omega) (by have := HA.out.2.2.2.2.2; omega))
          have HBE2 := HM.out.2.2.2.2.2 (rd be k) (E.rd_mem (by omega) (by have := HM.out.2.2.2.2.1; omega))
          have HRG := Aside0.mk (And.intro HLV2 HBE2)
          obtain ⟨vl, hvl⟩ : ∃ v, rd lev k = v := ⟨_, rfl⟩
          obtain ⟨vb, hvb⟩ : ∃ v, rd be k = v := ⟨_, rfl⟩
          obtain ⟨vc, hvc⟩ : ∃ v, rd l k = v := ⟨_, rfl⟩
          obtain ⟨vm, hvm⟩ : ∃ v, rd m k = v := ⟨_, rfl⟩
          rw [hvl] at hx2 HRG
          rw [hvb] at hx3 HRG
          rw [hvc] at hx1
          rw [hvm] at hx4
          have HV := Aside0.mk (And.intro hvl (And.intro hvb (And.intro hvc hvm)))
          clear hj hlt hx hj1 hp1 hp2 hp3 hat ep hal hgn hR0 hlen hk hkm HLV2 HBE2 hvl hvb hvc hvm
          by_cases hi : iniC vc = true
          · have HI := Aside0.mk hi
            by_cases hv : vm < 0
            · have dv : decide (vm < 0) = true := decide_eq_true hv
              have pv : (vm < 0) = True := eq_true hv
              go_upto_region 30 with (fail)
              go_quiet (fail)
              go_upto_region 34 with (go_at_call 23; refine (initiator_c vc _).mono ?_; rintro e w1 ⟨rfl, hw⟩; obtain rfl := hw.symm; rw [HI.out])
              have HB5 : Aside0 (Below wr.heap.size wr (wr.drewN nq)) := ⟨pw_below_drewN (Below.refl _ _) nq⟩
              have HX5 := Aside0.mk (And.intro (HX.out.1.below HB5.out) (below_weaken HX.out.2 HX.out.2.size HB5.out))
              have hz2 : (wr.drewN nq).cell? (a2.add k.toNat) = some (.int .u8 vl) := (HB5.out.cell (World.block_lt_of_cell? _ _ hx2)).trans hx2
              have hz4 : (wr.drewN nq).heap[gn]? = some (.cells (seqCells (PV j) x) 36 (0, 0)) := blk_below HAT.out.1.2.1 HB5.out
              clear hx1 hx2 hx3 hx4 y0 y3 y8 hxp hxk HB5 HX
              generalize wr.drewN nq = wq at HX5 hz2 hz4 ⊢
              obtain ⟨wa, hwa⟩ : ∃ wa, wq.alloc (.cells #[.int .u8 vl, .int .u8 base] 5) = wa := ⟨_, rfl⟩
              have hl0 := heap_alloc_new wq (.cells #[.int .u8 vl, .int .u8 base] 5)
              rw [hwa] at hl0
              have hc1 := (blk_cell hl0 0).trans rfl
              have hc2 := (blk_cell hl0 1).trans rfl
              have hga : wa.heap[gn]? = some (.cells (seqCells (PV j) x) 36 (0, 0)) := by rw [← hwa]; exact blk_alloc hz4 _
              have f3 := blk_frozen hga 3
              have y3 : wa.cell? ⟨gn, 3, none⟩ = some (.int .u8 x.f3) := (blk_cell hga 3).trans rfl
              have HSD : Aside0 (Calls Try.prog 25 #[.slice (some ⟨wq.heap.size, 0, none⟩) 2 2] wa fun e w' => e = .returned (.int .u8 (sideV (mx vl base))) ∧ w' = wa) := ⟨side_c wq.heap.size vl base HRG.out.1.1 HRG.out.1.2 HBA.out.1 HBA.out.2 wa hc1 hc2⟩
              have HX6 : Aside0 (OutRel (w4.heap.size + 4) G PV st.all (sqEos l lev m be base) (j + 1) j (.slice (some ap) n1 cl) u18 (wa.setCell ⟨gn, 3, none⟩ (.int .u8 (sideV (mx vl base)))) ∧ Below w4.heap.size w4 (wa.setCell ⟨gn, 3, none⟩ (.int .u8 (sideV (mx vl base))))) := ⟨by
                have h := (HX5.out.1.below (w1 := wa) (by rw [← hwa]; exact below_alloc (Below.refl _ _) _)).set3 x HJ.out.2.2 (sideV (mx vl base)) (by
                  unfold sqEos lastP
                  rw [HK.out.1, HV.out.1, HV.out.2.1, HV.out.2.2.1, HV.out.2.2.2]
                  simp [hi, pv])
                rw [HAT.out.2.2] at h
                exact h, by
                have h : Below w4.heap.size w4 wa := by rw [← hwa]; exact below_alloc HX5.out.2 _
                exact h.setCell (by have := HAT.out.1.1; show _ ≤ gn; omega) _⟩
              have HQ5 := Aside0.mk hwa
              clear hl0 hc1 hc2 hga hz4 hwa
              go_upto_region 35 with (first | (go_at_call 25; rw [HQ5.out]; refine HSD.out.mono ?_; rintro e w1 ⟨rfl, hw⟩; obtain rfl := hw.symm))
              generalize wa.setCell ⟨gn, 3, none⟩ (.int .u8 (sideV (mx vl base))) = ws at HX6 ⊢
              clear f3 y3 HSD HX5 hz2 HQ5
              have hd : (done (sqEos l lev m be base) st.all (j + 1))[j]? = some (sqEos l lev m be base x) := by
                rw [done_next _ _ _ _ HJ.out.2.2, List.getElem?_set]
                have := HJ.out.2.1
                simp [done_len, HN1.out]
                omega
              have hat6 := (HX6.out.1.sq.at' j _ hd).2.1
              rw [HAT.out.2.1, HAT.out.2.2] at hat6
              have HASK := Aside0.mk (HX6.out.1.ask x HJ.out.2.2 (fun _ => rfl))
              have HAP := Aside0.mk (fun (v1 : Value) (w7 : World) (hS : Kd.S k36 36 w7 (w4.heap.size + 4) (outOk G PV st.all.length (j + 1)) v1 ((st.all.take j).map (sqEos l lev m be base) ++ [sqEos l lev m be base x])) (hg : ws.grownBy w7 u18.ownBlock) => And.intro (HX6.out.1.app x HJ.out.2.2 hS hg) (HX6.out.2.grown hg HX6.out.2.size (fun k hk => by have := Kd.S_base HX6.out.1.ou k hk; omega)))
              have HLN : Aside0 ((((st.all.take j).map (sqEos l lev m be base)).length + 1) * 32 ≤ 140737488355328 ∧ w4.heap.size + 4 ≤ ws.heap.size) := ⟨by have := HJ.out.1; have := HNB.out; simp; omega, by have := blk_lt hat6; have := HAT.out.1.1; omega⟩
              obtain ⟨ex, hex⟩ : ∃ y, sqEos l lev m be base x = y := ⟨_, rfl⟩
              rw [hex] at hat6 HASK HAP
              rw [HAT.out.2.1] at HASK
              have y0 : ws.cell? ⟨gn, 0, none⟩ = some (.slice (some pp) x.f0.length cp) := (blk_cell hat6 0).trans rfl
              have y1 : ws.cell? ⟨gn, 1, none⟩ = some (.int .u8 ex.f1) := (blk_cell hat6 1).trans rfl
              have y2 : ws.cell? ⟨gn, 2, none⟩ = some (.int .u8 ex.f2) := (blk_cell hat6 2).trans rfl
              have y3 : ws.cell? ⟨gn, 3, none⟩ = some (.int .u8 ex.f3) := (blk_cell hat6 3).trans rfl
              clear hd hat6 hex HX6
              go_upto_region 36 with (at_builtin; refine Kd.S_append k36 (w0 := ws) (W := ws) (w4.heap.size + 4) rfl (.tmp 155) (.tmp 159) 29 36 _ 32 rfl Try.underlying29 info36 rfl (by decide) (by decide) u18 ((st.all.take j).map (sqEos l lev m be base)) ex [.slice (some pp) x.f0.length cp, .int .u8 ex.f1, .int .u8 ex.f2, .int .u8 ex.f3] (outOk G PV st.all.length (j + 1)) (fun k => some k = (Value.slice (some pp) x.f0.length cp).ownBlock) rfl rfl HASK.out.1 HASK.out.2.1 HASK.out.2.2.1 HASK.out.2.2.2 (Below.refl _ _) HLN.out.2 HLN.out.1 ?_; intro v1 w7 hS hB hg hat; have HZ := Aside0.mk (HAP.out v1 w7 hS hg); clear hS hB hg hat)
              go_wp2
              go_roundw
              case measure => have := HJ.out; simp [intOf]; omega
              case rel => exact ⟨j + 1, by have := HJ.out; omega, (by first | rfl | go_num), HZ⟩
            · have dv : decide (vm < 0) = false := decide_eq_false hv
              have pv : (vm < 0) = False := eq_false hv
              go_upto_region 30 with (fail)
              go_quiet (fail)
              go_upto_region 34 with (go_at_call 23; refine (initiator_c vc _).mono ?_; rintro e w1 ⟨rfl, hw⟩; obtain rfl := hw.symm; rw [HI.out])
              have HB5 : Aside0 (Below wr.heap.size wr (wr.drewN nq)) := ⟨pw_below_drewN (Below.refl _ _) nq⟩
              have HX5 := Aside0.mk (And.intro (HX.out.1.below HB5.out) (below_weaken HX.out.2 HX.out.2.size HB5.out))
              have hz2 : (wr.drewN nq).cell? (a2.add k.toNat) = some (.int .u8 vl) := (HB5.out.cell (World.block_lt_of_cell? _ _ hx2)).trans hx2
              have hz4 : (wr.drewN nq).heap[gn]? = some (.cells (seqCells (PV j) x) 36 (0, 0)) := blk_below HAT.out.1.2.1 HB5.out
              clear hx1 hx2 hx3 hx4 y0 y3 y8 hxp hxk HB5 HX
              generalize wr.drewN nq = wq at HX5 hz2 hz4 ⊢
              obtain ⟨wa, hwa⟩ : ∃ wa, wq.alloc (.cells #[.int .u8 vl, .int .u8 vb] 5) = wa := ⟨_, rfl⟩
              have hl0 := heap_alloc_new wq (.cells #[.int .u8 vl, .int .u8 vb] 5)
              rw [hwa] at hl0
              have hc1 := (blk_cell hl0 0).trans rfl
              have hc2 := (blk_cell hl0 1).trans rfl
              have hga : wa.heap[gn]? = some (.cells (seqCells (PV j) x) 36 (0, 0)) := by rw [← hwa]; exact blk_alloc hz4 _
              have f3 := blk_frozen hga 3
              have y3 : wa.cell? ⟨gn, 3, none⟩ = some (.int .u8 x.f3) := (blk_cell hga 3).trans rfl
              have HSD : Aside0 (Calls Try.prog 25 #[.slice (some ⟨wq.heap.size, 0, none⟩) 2 2] wa fun e w' => e = .returned (.int .u8 (sideV (mx vl vb))) ∧ w' = wa) := ⟨side_c wq.heap.size vl vb HRG.out.1.1 HRG.out.1.2 HRG.out.2.1 HRG.out.2.2 wa hc1 hc2⟩
              have HX6 : Aside0 (OutRel (w4.heap.size + 4) G PV st.all (sqEos l lev m be base) (j + 1) j (.slice (some ap) n1 cl) u18 (wa.setCell ⟨gn, 3, none⟩ (.int .u8 (sideV (mx vl vb)))) ∧ Below w4.heap.size w4 (wa.setCell ⟨gn, 3, none⟩ (.int .u8 (sideV (mx vl vb))))) := ⟨by
                have h := (HX5.out.1.below (w1 := wa) (by rw [← hwa]; exact below_alloc (Below.refl _ _) _)).set3 x HJ.out.2.2 (sideV (mx vl vb)) (by
                  unfold sqEos lastP
                  rw [HK.out.1, HV.out.1, HV.out.2.1, HV.out.2.2.1, HV.out.2.2.2]
                  simp [hi, pv])
                rw [HAT.out.2.2] at h
                exact h, by
                have h : Below w4.heap.size w4 wa := by rw [← hwa]; exact below_alloc HX5.out.2 _
                exact h.setCell (by have := HAT.out.1.1; show _ ≤ gn; omega) _⟩
              have HQ5 := Aside0.mk hwa
              clear hl0 hc1 hc2 hga hz4 hwa
              go_upto_region 35 with (first | (go_at_call 25; rw [HQ5.out]; refine HSD.out.mono ?_; rintro e w1 ⟨rfl, hw⟩; obtain rfl := hw.symm))
              generalize wa.setCell ⟨gn, 3, none⟩ (.int .u8 (sideV (mx vl vb))) = ws at HX6 ⊢
              clear f3 y3 HSD HX5 hz2 HQ5
              have hd : (done (sqEos l lev m be base) st.all (j + 1))[j]? = some (sqEos l lev m be base x) := by
                rw [done_next _ _ _ _ HJ.out.2.2, List.getElem?_set]
                have := HJ.out.2.1
                simp [done_len, HN1.out]
                omega
              have hat6 := (HX6.out.1.sq.at' j _ hd).2.1
              rw [HAT.out.2.1, HAT.out.2.2] at hat6
              have HASK := Aside0.mk (HX6.out.1.ask x HJ.out.2.2 (fun _ => rfl))
              have HAP := Aside0.mk (fun (v1 : Value) (w7 : World) (hS : Kd.S k36 36 w7 (w4.heap.size + 4) (outOk G PV st.all.length (j + 1)) v1 ((st.all.take j).map (sqEos l lev m be base) ++ [sqEos l lev m be base x])) (hg : ws.grownBy w7 u18.ownBlock) => And.intro (HX6.out.1.app x HJ.out.2.2 hS hg) (HX6.out.2.grown hg HX6.out.2.size (fun k hk => by have := Kd.S_base HX6.out.1.ou k hk; omega)))
              have HLN : Aside0 ((((st.all.take j).map (sqEos l lev m be base)).length + 1) * 32 ≤ 140737488355328 ∧ w4.heap.size + 4 ≤ ws.heap.size) := ⟨by have := HJ.out.1; have := HNB.out; simp; omega, by have := blk_lt hat6; have := HAT.out.1.1; omega⟩
              obtain ⟨ex, hex⟩ : ∃ y, sqEos l lev m be base x = y := ⟨_, rfl⟩
              rw [hex] at hat6 HASK HAP
              rw [HAT.out.2.1] at HASK
              have y0 : ws.cell? ⟨gn, 0, none⟩ = some (.slice (some pp) x.f0.length cp) := (blk_cell hat6 0).trans rfl
              have y1 : ws.cell? ⟨gn, 1, none⟩ = some (.int .u8 ex.f1) := (blk_cell hat6 1).trans rfl
              have y2 : ws.cell? ⟨gn, 2, none⟩ = some (.int .u8 ex.f2) := (blk_cell hat6 2).trans rfl
              have y3 : ws.cell? ⟨gn, 3, none⟩ = some (.int .u8 ex.f3) := (blk_cell hat6 3).trans rfl
              clear hd hat6 hex HX6
              go_upto_region 36 with (at_builtin; refine Kd.S_append k36 (w0 := ws) (W := ws) (w4.heap.size + 4) rfl (.tmp 155) (.tmp 159) 29 36 _ 32 rfl Try.underlying29 info36 rfl (by decide) (by decide) u18 ((st.all.take j).map (sqEos l lev m be base)) ex [.slice (some pp) x.f0.length cp, .int .u8 ex.f1, .int .u8 ex.f2, .int .u8 ex.f3] (outOk G PV st.all.length (j + 1)) (fun k => some k = (Value.slice (some pp) x.f0.length cp).ownBlock) rfl rfl HASK.out.1 HASK.out.2.1 HASK.out.2.2.1 HASK.out.2.2.2 (Below.refl _ _) HLN.out.2 HLN.out.1 ?_; intro v1 w7 hS hB hg hat; have HZ := Aside0.mk (HAP.out v1 w7 hS hg); clear hS hB hg hat)
              go_wp2
              go_roundw
              case measure => have := HJ.out; simp [intOf]; omega
              case rel => exact ⟨j + 1, by have := HJ.out; omega, (by first | rfl | go_num), HZ⟩
          · have hi := eq_false_of_ne_true hi
            have HI := Aside0.mk hi
            go_upto_region 30 with (fail)
            go_quiet (fail)
            go_upto_region 34 with (go_at_call 23; refine (initiator_c vc _).mono ?_; rintro e w1 ⟨rfl, hw⟩; obtain rfl := hw.symm; rw [HI.out])
            have HB5 : Aside0 (Below wr.heap.size wr (wr.drewN nq)) := ⟨pw_below_drewN (Below.refl _ _) nq⟩
            have HX5 := Aside0.mk (And.intro (HX.out.1.below HB5.out) (below_weaken HX.out.2 HX.out.2.size HB5.out))
            have hz2 : (wr.drewN nq).cell? (a2.add k.toNat) = some (.int .u8 vl) := (HB5.out.cell (World.block_lt_of_cell? _ _ hx2)).trans hx2
            have hz4 : (wr.drewN nq).heap[gn]? = some (.cells (seqCells (PV j) x) 36 (0, 0)) := blk_below HAT.out.1.2.1 HB5.out
            clear hx1 hx2 hx3 hx4 y0 y3 y8 hxp hxk HB5 HX
            generalize wr.drewN nq = wq at HX5 hz2 hz4 ⊢
            obtain ⟨wa, hwa⟩ : ∃ wa, wq.alloc (.cells #[.int .u8 vl, .int .u8 vb] 5) = wa := ⟨_, rfl⟩
            have hl0 := heap_alloc_new wq (.cells #[.int .u8 vl, .int .u8 vb] 5)
            rw [hwa] at hl0
            have hc1 := (blk_cell hl0 0).trans rfl
            have hc2 := (blk_cell hl0 1).trans rfl
            have hga : wa.heap[gn]? = some (.cells (seqCells (PV j) x) 36 (0, 0)) := by rw [← hwa]; exact blk_alloc hz4 _
            have f3 := blk_frozen hga 3
            have y3 : wa.cell? ⟨gn, 3, none⟩ = some (.int .u8 x.f3) := (blk_cell hga 3).trans rfl
            have HSD : Aside0 (Calls Try.prog 25 #[.slice (some ⟨wq.heap.size, 0, none⟩) 2 2] wa fun e w' => e = .returned (.int .u8 (sideV (mx vl vb))) ∧ w' = wa) := ⟨side_c wq.heap.size vl vb HRG.out.1.1 HRG.out.1.2 HRG.out.2.1 HRG.out.2.2 wa hc1 hc2⟩
            have HX6 : Aside0 (OutRel (w4.heap.size + 4) G PV st.all (sqEos l lev m be base) (j + 1) j (.slice (some ap) n1 cl) u18 (wa.setCell ⟨gn, 3, none⟩ (.int .u8 (sideV (mx vl vb)))) ∧ Below w4.heap.size w4 (wa.setCell ⟨gn, 3, none⟩ (.int .u8 (sideV (mx vl vb))))) := ⟨by
              have h := (HX5.out.1.below (w1 := wa) (by rw [← hwa]; exact below_alloc (Below.refl _ _) _)).set3 x HJ.out.2.2 (sideV (mx vl vb)) (by
                unfold sqEos lastP
                rw [HK.out.1, HV.out.1, HV.out.2.1, HV.out.2.2.1, HV.out.2.2.2]
                simp [hi])
              rw [HAT.out.2.2] at h
              exact h, by
              have h : Below w4.heap.size w4 wa := by rw [← hwa]; exact below_alloc HX5.out.2 _
              exact h.setCell (by have := HAT.out.1.1; show _ ≤ gn; omega) _⟩
            have HQ5 := Aside0.mk hwa
            clear hl0 hc1 hc2 hga hz4 hwa
            go_upto_region 35 with (first | (go_at_call 25; rw [HQ5.out]; refine HSD.out.mono ?_; rintro e w1 ⟨rfl, hw⟩; obtain rfl := hw.symm))
            generalize wa.setCell ⟨gn, 3, none⟩ (.int .u8 (sideV (mx vl vb))) = ws at HX6 ⊢
            clear f3 y3 HSD HX5 hz2 HQ5
            have hd : (done (sqEos l lev m be base) st.all (j + 1))[j]? = some (sqEos l lev m be base x) := by
              rw [done_next _ _ _ _ HJ.out.2.2, List.getElem?_set]
              have := HJ.out.2.1
              simp [done_len, HN1.out]
              omega
            have hat6 := (HX6.out.1.sq.at' j _ hd).2.1
            rw [HAT.out.2.1, HAT.out.2.2] at hat6
            have HASK := Aside0.mk (HX6.out.1.ask x HJ.out.2.2 (fun _ => rfl))
            have HAP := Aside0.mk (fun (v1 : Value) (w7 : World) (hS : Kd.S k36 36 w7 (w4.heap.size + 4) (outOk G PV st.all.length (j + 1)) v1 ((st.all.take j).map (sqEos l lev m be base) ++ [sqEos l lev m be base x])) (hg : ws.grownBy w7 u18.ownBlock) => And.intro (HX6.out.1.app x HJ.out.2.2 hS hg) (HX6.out.2.grown hg HX6.out.2.size (fun k hk => by have := Kd.S_base HX6.out.1.ou k hk; omega)))
            have HLN : Aside0 ((((st.all.take j).map (sqEos l lev m be base)).length + 1) * 32 ≤ 140737488355328 ∧ w4.heap.size + 4 ≤ ws.heap.size) := ⟨by have := HJ.out.1; have := HNB.out; simp; omega, by have := blk_lt hat6; have := HAT.out.1.1; omega⟩
            obtain ⟨ex, hex⟩ : ∃ y, sqEos l lev m be base x = y := ⟨_, rfl⟩
            rw [hex] at hat6 HASK HAP
            rw [HAT.out.2.1] at HASK
            have y0 : ws.cell? ⟨gn, 0, none⟩ = some (.slice (some pp) x.f0.length cp) := (blk_cell hat6 0).trans rfl
            have y1 : ws.cell? ⟨gn, 1, none⟩ = some (.int .u8 ex.f1) := (blk_cell hat6 1).trans rfl
            have y2 : ws.cell? ⟨gn, 2, none⟩ = some (.int .u8 ex.f2) := (blk_cell hat6 2).trans rfl
            have y3 : ws.cell? ⟨gn, 3, none⟩ = some (.int .u8 ex.f3) := (blk_cell hat6 3).trans rfl
            clear hd hat6 hex HX6
            go_upto_region 36 with (at_builtin; refine Kd.S_append k36 (w0 := ws) (W := ws) (w4.heap.size + 4) rfl (.tmp 155) (.tmp 159) 29 36 _ 32 rfl Try.underlying29 info36 rfl (by decide) (by decide) u18 ((st.all.take j).map (sqEos l lev m be base)) ex [.slice (some pp) x.f0.length cp, .int .u8 ex.f1, .int .u8 ex.f2, .int .u8 ex.f3] (outOk G PV st.all.length (j + 1)) (fun k => some k = (Value.slice (some pp) x.f0.length cp).ownBlock) rfl rfl HASK.out.1 HASK.out.2.1 HASK.out.2.2.1 HASK.out.2.2.2 (Below.refl _ _) HLN.out.2 HLN.out.1 ?_; intro v1 w7 hS hB hg hat; have HZ := Aside0.mk (HAP.out v1 w7 hS hg); clear hS hB hg hat)
            go_wp2
            go_roundw
            case measure => have := HJ.out; simp [intOf]; omega
            case rel => exact ⟨j + 1, by have := HJ.out; omega, (by first | rfl | go_num), HZ⟩
        · have dl : decide ((j : Int) < (n1 : Int)) = false := decide_eq_false hlt
          have dn : decide (j < n1) = false := decide_eq_false (by omega)
          have hjn : j = n1 := by omega
          have hS := HX.out.1.ou
          rw [hjn, ← HN1.out, List.take_length] at hS
          have HE := Aside0.mk (And.intro hS HX.out.2)
          clear hS HX hjn hj hlt
          go_upto_region 37 with (fail)
          go_wp2
          go_ret2
          exact ⟨_, rfl, by rw [HST.out]; exact Kd.S_lower (Kd.S_mono HE.out.1 (fun _ _ => trivial)) (by have := X4.out.1.size; omega), below_step X4.out.1 HE.out.2⟩
end Go.Proofs.Ytofiflhjlohakaa.X
