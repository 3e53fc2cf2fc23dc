import Derived.Test.YtiogpnefnapfeaaDoorT6
import Derived.Test.YtiogpnefnapfeaaDoorT7
import Derived.Test.YtiogpnefnapfeaaDoorE
import Derived.Deep.RegionHeld3
import Derived.Carry
import Derived.WalkMore
import Derived.Deep.Cut
import Derived.Deep.CutBlock
/-! pairs.Pairs: its walk. -/
namespace Go.Proofs.YtiogpnefnapfeaaDoor.X
open Go.RowKit Go.Proofs.YtiogpnefnapfeaaDoorW.PrintWords Go.Proofs.YtiogpnefnapfeaaDoorW.PrintLast Go.Proofs.YtiogpnefnapfeaaDoorW.PrintMore Go.Proofs.YtiogpnefnapfeaaDoor.Pure
attribute [local go_sem] max2_int min2_int max_two min_two max_three min_three max_four min_four
set_option linter.unusedVariables false
set_option linter.unusedSimpArgs false
set_option maxRecDepth 100000
set_option maxHeartbeats 8000000
def st0 : Array Value := ((List.replicate 63 [Value.int .i32 0, Value.int .i64 0]).flatten).toArray
theorem st0_size : st0.size = 126 := by kernel_rfl
theorem zero47 : (Tryd.prog.info? 47).map (·.zero) = some (some (.agg st0)) := by kernel_rfl
theorem op_stack (w : World) (a : Act) (d : Option Tmp) (p : String) (af) : (execOp a.eval { dst := d, op := .alloc 47, type := 0, pos := p, after := af, guard := none }).run Tryd.prog w = .ok (.value (.pointer (some ⟨w.heap.size, 0, none⟩))) (w.alloc (.cells st0 47)) := by
  have hz := zero47
  cases hi : Tryd.prog.info? 47 with
  | none => rw [hi] at hz; cases hz
  | some i =>
    rw [hi] at hz
    have hz' : i.zero = some (.agg st0) := Option.some.inj hz
    generalize st0 = z at hz' ⊢
    simp [execOp, Instr.alloc, zeroValue, typeInfo, hi, hz', newVar, newRow, Value.cells, Result.andThen]
theorem rd_nat' (l : List Int) (n : Nat) : rd l (n : Int) = l.getD n 0 := by simp [rd]
theorem go_succ (l now : List Int) (m i : Nat) (st : List (Int × Int)) : go l now (m + 1) i st =
    if (brk (l.getD i 0)).2.2 = false ∨ now.getD i 0 ≠ 14 then go l now m (i + 1) st
    else if (brk (l.getD i 0)).2.1 = true then
      if st.length = 63 then [] else go l now m (i + 1) (st ++ [((brk (l.getD i 0)).1, (i : Int))])
    else match seek (brk (l.getD i 0)).1 st st.length with
      | none => go l now m (i + 1) st
      | some k => ((st.getD k (0, 0)).2, (i : Int)) :: go l now m (i + 1) (st.take k) := rfl
/-- What stands in the loop. -/
structure PR (w : World) (gs : Nat) (v6 : Value) (st : List (Int × Int)) (out : List S30) (wr : World) : Prop where
  be : Below w.heap.size w wr
  sk : ∃ cur : Array Value, wr.heap[gs]? = some (.cells cur 47 (0, 0)) ∧ cur.size = 126 ∧ ∀ j, j < st.length → cur[j * 2]? = some (.int .i32 (st.getD j (0, 0)).1) ∧ cur[j * 2 + 1]? = some (.int .i64 (st.getD j (0, 0)).2)
  ou : Kd.R k30 30 wr w.heap.size (fun k => k ≠ gs) v6 out
theorem PR.start (w : World) : PR w w.heap.size (.slice none 0 0) [] [] (w.alloc (.cells st0 47)) :=
  ⟨below_alloc (Below.refl _ _) _, ⟨st0, heap_alloc_new w _, st0_size, fun j hj => absurd hj (Nat.not_lt_zero _)⟩, Kd.R_nil _ _ _ _ _⟩
theorem PR.step {w : World} {gs : Nat} {v6 : Value} {st : List (Int × Int)} {out : List S30} {wr w2 : World} (h : PR w gs v6 st out wr) (hb : Below wr.heap.size wr w2) : PR w gs v6 st out w2 := by
  obtain ⟨a, ⟨cur, b1, b2, b3⟩, c⟩ := h
  exact ⟨below_step a hb, ⟨cur, blk_below b1 hb, b2, b3⟩, Kd.R_below c hb⟩
theorem PR.take {w : World} {gs : Nat} {v6 : Value} {st : List (Int × Int)} {out : List S30} {wr : World} (h : PR w gs v6 st out wr) (k : Nat) : PR w gs v6 (st.take k) out wr := by
  obtain ⟨a, ⟨cur, b1, b2, b3⟩, c⟩ := h
  refine ⟨a, ⟨cur, b1, b2, fun j hj => ?_⟩, c⟩
  rw [List.length_take] at hj
  have := b3 j (by omega)
  rw [List.getD_eq_getElem?_getD, List.getElem?_take, if_pos (by omega), ← List.getD_eq_getElem?_getD]
  exact this
theorem PR.push {w : World} {gs : Nat} {v6 : Value} {st : List (Int × Int)} {out : List S30} {wr : World} (h : PR w gs v6 st out wr) (hg : w.heap.size ≤ gs) (hn : st.length < 63) (c i : Int) :
    PR w gs v6 (st ++ [(c, i)]) out ((wr.setCell ⟨gs, st.length * 2, none⟩ (.int .i32 c)).setCell ⟨gs, st.length * 2 + 1, none⟩ (.int .i64 i)) := by
  obtain ⟨a, ⟨cur, b1, b2, b3⟩, d⟩ := h
  have e1 := blk_put b1 (st.length * 2) (.int .i32 c) rfl
  have e2 := blk_put e1 (st.length * 2 + 1) (.int .i64 i) rfl
  refine ⟨?_, ⟨_, e2, by simp [b2], fun j hj => ?_⟩, Kd.R_set (Kd.R_set d b1 (by decide) _ _) e1 (by decide) _ _⟩
  · refine ⟨a.os, a.tape, a.output, ?_, fun k hk => ?_⟩
    · simpa using a.size
    · rw [Below.heap_setCell _ _ _ _ (by show k ≠ gs; omega), Below.heap_setCell _ _ _ _ (by show k ≠ gs; omega)]
      exact a.block k hk
  · rw [List.length_append, List.length_singleton] at hj
    by_cases q : j = st.length
    · subst q
      have hg2 : (st ++ [(c, i)]).getD st.length (0, 0) = (c, i) := by rw [List.getD_eq_getElem?_getD, List.getElem?_append_right (Nat.le_refl _)]; simp
      rw [hg2]
      constructor
      · rw [Array.getElem?_setIfInBounds_ne (by omega), Array.getElem?_setIfInBounds_self_of_lt (by omega)]
      · rw [Array.getElem?_setIfInBounds_self_of_lt (by rw [Array.size_setIfInBounds]; omega)]
    · have hg2 : (st ++ [(c, i)]).getD j (0, 0) = st.getD j (0, 0) := by rw [List.getD_eq_getElem?_getD, List.getElem?_append_left (by omega), ← List.getD_eq_getElem?_getD]
      rw [hg2]
      have := b3 j (by omega)
      constructor
      · rw [Array.getElem?_setIfInBounds_ne (by omega), Array.getElem?_setIfInBounds_ne (by omega)]; exact this.1
      · rw [Array.getElem?_setIfInBounds_ne (by omega), Array.getElem?_setIfInBounds_ne (by omega)]; exact this.2
theorem PR.slot {w : World} {gs : Nat} {v6 : Value} {st : List (Int × Int)} {out : List S30} {wr : World} (h : PR w gs v6 st out wr) (hn : st.length < 63) (u : Value) :
    ∃ v1 v2, wr.cell? ⟨gs, st.length * 2, none⟩ = some v1 ∧ wr.frozen? ⟨gs, st.length * 2, none⟩ = false ∧ (wr.setCell ⟨gs, st.length * 2, none⟩ u).cell? ⟨gs, st.length * 2 + 1, none⟩ = some v2 ∧ (wr.setCell ⟨gs, st.length * 2, none⟩ u).frozen? ⟨gs, st.length * 2 + 1, none⟩ = false := by
  obtain ⟨a, ⟨cur, b1, b2, b3⟩, d⟩ := h
  have e1 := blk_put b1 (st.length * 2) u rfl
  refine ⟨cur[st.length * 2]'(by omega), cur[st.length * 2 + 1]'(by omega), ?_, blk_frozen b1 _, ?_, blk_frozen e1 _⟩
  · rw [blk_cell b1, Array.getElem?_eq_getElem]
  · rw [blk_cell e1, Array.getElem?_setIfInBounds_ne (by omega), Array.getElem?_eq_getElem]
theorem PR.at {w : World} {gs : Nat} {v6 : Value} {st : List (Int × Int)} {out : List S30} {wr : World} (h : PR w gs v6 st out wr) {k : Nat} (hk : k < st.length) :
    wr.cell? ⟨gs, k * 2, none⟩ = some (.int .i32 (st.getD k (0, 0)).1) ∧ wr.cell? ⟨gs, k * 2 + 1, none⟩ = some (.int .i64 (st.getD k (0, 0)).2) := by
  obtain ⟨a, ⟨cur, b1, b2, b3⟩, d⟩ := h
  rw [blk_cell b1, blk_cell b1]
  exact b3 k hk
theorem PR.fresh {w : World} {gs : Nat} {v6 : Value} {st : List (Int × Int)} {out : List S30} {wr : World} (h : PR w gs v6 st out wr) : ∀ k, wr.heap.size ≤ k → k ≠ gs := by
  obtain ⟨a, ⟨cur, b1, b2, b3⟩, d⟩ := h
  intro k hk
  have := blk_lt b1
  omega
theorem PR.emit {w : World} {gs : Nat} {v6 v1 : Value} {st : List (Int × Int)} {out out' : List S30} {wr w1 : World} (h : PR w gs v6 st out wr) (ho : Kd.R k30 30 w1 w.heap.size (fun k => k ≠ gs) v1 out') (hb : Below w.heap.size w w1) (hg : wr.grownBy w1 v6.ownBlock) : PR w gs v1 st out' w1 := by
  obtain ⟨a, ⟨cur, b1, b2, b3⟩, d⟩ := h
  exact ⟨hb, ⟨cur, blk_grown b1 hg (fun e => d.1 gs e.symm rfl), b2, b3⟩, ho⟩
theorem pairs_w (A0 : Option Addr) (c0 : Nat) (l : List Int) (A1 : Option Addr) (c1 : Nat) (now : List Int) (w : World) (hr0 : Kd.C (Kd.int .i32) w A0 l.length l) (hc0 : l.length ≤ c0) (hr1 : Kd.C (Kd.int .u8) w A1 now.length now) (hc1 : now.length ≤ c1) (hT : Tabs w) (hl : l.length ≤ 65536) :
    Calls Tryd.prog 9 #[.slice A0 l.length c0, .slice A1 now.length c1] w fun e w' => ∃ (v0 : Value) (ys : List S30), e = .returned v0 ∧ ys.map toP = pairsF l now ∧ Kd.R k30 30 w' w.heap.size (fun _ => True) v0 ys ∧ Below w.heap.size w w' := by
  have HA := Aside0.mk (And.intro hr0 (And.intro hc0 (And.intro hr1 (And.intro hc1 hl))))
  have HT := Aside0.mk hT
  clear hr0 hc0 hr1 hc1 hT hl
  go_enter Tryd.func9, Tryd.ntmps9
  have hop := op_stack
  go_wp2
  apply wp_scope_straight
  go_wp2_with (first | ((with_reducible refine gate_dst (N := 5) rfl ?_); refine Kd.event_run rfl (hop _ _ _ _ _) ?_))
  apply wp_label
  clear hop
  obtain ⟨w1, hw1⟩ : ∃ w1, w.alloc (.cells st0 47) = w1 := ⟨_, rfl⟩
  rw [hw1]
  have HW := Aside0.mk hw1
  clear hw1
  obtain ⟨gs, hgs⟩ : ∃ g, w.heap.size = g := ⟨_, rfl⟩
  rw [hgs]
  have HG := Aside0.mk hgs
  clear hgs
  go_upto_region 4 with (fail)
  obtain ⟨m, hm⟩ : ∃ m, min l.length now.length = m := ⟨_, rfl⟩
  have hm1 : m ≤ l.length := by rw [← hm]; exact Nat.min_le_left _ _
  have hm2 : m ≤ now.length := by rw [← hm]; exact Nat.min_le_right _ _
  have hmin : (if (now.length : Int) < (l.length : Int) then (now.length : Int) else (l.length : Int)) = (m : Int) := by split <;> omega
  obtain ⟨i021, hi021, _, hsz21, _⟩ := info_parts info21
  have hcut := cut_to (P := Tryd.prog) 22 21 .i64 Tryd.underlying22 hi021 A0 l.length c0 (m : Int) (by omega) (by omega) HA.out.2.1
  rw [Int.toNat_natCast] at hcut
  have hc31 : (l.length : Int) ≤ 65536 := by have := HA.out.2.2.2.2; omega
  go_wp2_with (first | ((with_reducible refine gate_dst (N := 19) rfl ?_); refine Kd.event_run rfl (v := .int .i64 (m : Int)) (w1 := w1) ?_ ?_; (· go_simp; split <;> omega)))
  have HM := Aside0.mk (And.intro hm (And.intro hm1 hm2))
  clear hm hm1 hm2 hmin hcut hi021 hsz21 hc31
  go_loopw [6, 7, 22] (fun v6 v7 v22 wr => ∃ (i : Nat) (st : List (Int × Int)) (out : List S30), i ≤ m ∧ v22 = .int .i64 (i : Int) ∧ v7 = .int .i64 (st.length : Int) ∧ st.length ≤ 63 ∧ Aside0 (PR w gs v6 st out wr ∧ Inv l now i st ∧ out.map toP ++ go l now (m - i) i st = goF l now)) (fun v6 v7 v22 _ => m - (intOf v22).toNat)
  case atStart =>
    refine ⟨0, [], [], Nat.zero_le _, rfl, rfl, by decide, ⟨?_, Inv.nil _ _ _, ?_⟩⟩
    · rw [← HW.out, ← HG.out]; exact PR.start w
    · rw [Nat.sub_zero, ← HM.out.1]; rfl
  case round =>
    obtain ⟨i, st, out, hi, rfl, rfl, hst, HR⟩ := hrel
    by_cases hlt : i < m
    · have dl : decide ((i : Int) < (m : Int)) = true := decide_eq_true (by omega)
      have hCl := Kd.C_below HA.out.1 HR.out.1.be
      have hCn := Kd.C_below HA.out.2.2.1 HR.out.1.be
      obtain ⟨al, el, hxl⟩ := Kd.at_int hCl (i : Int) (by omega) (by have := HM.out; omega)
      obtain ⟨an, en, hxn⟩ := Kd.at_int hCn (i : Int) (by omega) (by have := HM.out; omega)
      clear hCl hCn
      subst el; subst en
      have p0 : (0 ≤ (i : Int)) = True := eq_true (by omega)
      have p1 : ((i : Int) < (m : Int)) = True := eq_true (by omega)
      have p2 : (i < m) = True := eq_true hlt
      have hib : i ≤ 65535 := by have := HA.out; have := HM.out; omega
      obtain ⟨r, hr⟩ : ∃ r, rd l (i : Int) = r := ⟨_, rfl⟩
      obtain ⟨c, hc⟩ : ∃ c, rd now (i : Int) = c := ⟨_, rfl⟩
      rw [hr, Int.toNat_natCast] at hxl
      rw [hc, Int.toNat_natCast] at hxn
      have hrg : l.getD i 0 = r := by rw [← hr, rd_nat']
      have hcg : now.getD i 0 = c := by rw [← hc, rd_nat']
      obtain ⟨cc, ob, kb, hbk⟩ : ∃ cc ob kb, brk r = (cc, ob, kb) := ⟨_, _, _, rfl⟩
      have hgo := HR.out.2.2
      rw [show m - i = (m - (i + 1)) + 1 by omega, go_succ, hrg, hcg, hbk] at hgo
      dsimp only at hgo
      have HI := Aside0.mk (And.intro hlt hib)
      have HGO := Aside0.mk hgo
      have HN := Aside0.mk (And.intro hrg (And.intro hcg hbk))
      clear hgo hrg hcg hr hc hlt hi
      go_upto_region 7 with (fail)
      clear hxl
      go_upto_region 14 with (go_at_call 18; refine (bracket_w r _ (HT.out.below HR.out.1.be)).mono ?_; rintro e w2 ⟨rfl, hB⟩; rw [hbk]; dsimp only; have HR2 := Aside0.mk (And.intro (HR.out.1.step hB) HR.out.2.1); clear hB; clear HR)
      have hCn := Kd.C_below HA.out.2.2.1 HR2.out.1.be
      obtain ⟨an', en, hxn⟩ := Kd.at_int hCn (i : Int) (by omega) (by have := HM.out; have := HI.out; omega)
      obtain rfl : an = an' := Option.some.inj en
      clear hCn en
      rw [rd_nat', HN.out.2.1, Int.toNat_natCast] at hxn
      have p3 : ((i : Int) < (now.length : Int)) = True := eq_true (by have := HM.out; have := HI.out; omega)
      have p4 : (i < now.length) = True := eq_true (by have := HM.out; have := HI.out; omega)
      have hib2 := HI.out.2
      cases kb with
      | false =>
        go_wp2
        go_roundw
        case measure => have := HI.out; simp [intOf]; omega
        case rel => exact ⟨i + 1, st, out, by have := HI.out; omega, (by first | rfl | go_num), rfl, hst, ⟨HR2.out.1, HR2.out.2.skip, by rw [← HGO.out, if_pos (Or.inl rfl)]⟩⟩
      | true =>
        by_cases q : c = 14
        · subst q
          cases ob with
          | true =>
            by_cases q2 : st.length = 63
            · have e2 : ((st.length : Int) == 63) = true := beq_iff_eq.mpr (by omega)
              have HF := Aside0.mk (And.intro HR2.out.1 (show out.map toP = goF l now by rw [← HGO.out, if_neg (by simp), if_pos rfl, if_pos q2, List.append_nil]))
              go_wp2_with (go_at_call 19; refine (sort_w HF.out.1.ou HF.out.2 HA.out.2.2.2.2).mono ?_; rintro e w3 ⟨rfl, ys, hys, hRs, hBs⟩; have HS := Aside0.mk (And.intro hys (And.intro hRs (HF.out.1.be.trans hBs))); clear hys hRs hBs)
              simp only [Exit.noGoto_ret]
              go_ret
              exact ⟨_, ys, rfl, HS.out.1, Kd.R_mono HS.out.2.1 (fun _ _ => trivial), HS.out.2.2⟩
            · have e2 : ((st.length : Int) == 63) = false := beq_eq_false_iff_ne.mpr (by omega)
              have hs63 : st.length < 63 := by omega
              have p5 : ((st.length : Int) < 63) = True := eq_true (by omega)
              have p6 : (st.length < 63) = True := eq_true hs63
              have p7 : (0 ≤ (st.length : Int)) = True := eq_true (by omega)
              have HP := Aside0.mk (And.intro (HR2.out.1.push (by rw [← HG.out]; exact Nat.le_refl _) hs63 cc (i : Int)) (HR2.out.2.push (by rw [HN.out.1, HN.out.2.2]) HN.out.2.1 (by rw [HN.out.1, HN.out.2.2])))
              obtain ⟨s1, s2, y1, y2, y3, y4⟩ := HR2.out.1.slot hs63 (.int .i32 cc)
              go_wp2
              go_roundw
              case measure => have := HI.out; simp [intOf]; omega
              case rel => exact ⟨i + 1, st ++ [(cc, (i : Int))], out, by have := HI.out; omega, (by first | rfl | go_num), (by rw [List.length_append, List.length_singleton]; first | rfl | go_num), by rw [List.length_append, List.length_singleton]; omega, ⟨HP.out.1, by have := HP.out.2; rw [HN.out.1, HN.out.2.2] at this; exact this, by rw [← HGO.out, if_neg (by simp), if_pos rfl, if_neg (by omega)]⟩⟩
          | false =>
            go_upto_region 8 with (fail)
            have hn0 : st.length ≤ 63 := hst
            go_wp2
            go_loopw [6, 7, 13] (fun v6 v7 v13 wr2 => ∃ k : Nat, k ≤ st.length ∧ v6 = u6 ∧ v7 = .int .i64 (st.length : Int) ∧ v13 = .int .i64 ((k : Int) - 1) ∧ Aside0 (seek cc st st.length = seek cc st k) ∧ wr2 = w2) (fun _ _ v13 _ => (intOf v13 + 1).toNat)
            case atStart => exact ⟨st.length, Nat.le_refl _, rfl, rfl, (by first | rfl | go_num), ⟨rfl⟩, rfl⟩
            case round =>
              obtain ⟨k, hk, rfl, rfl, rfl, HK, rfl⟩ := hrel
              cases k with
              | zero =>
                go_wp2
                go_roundw
                case measure => have := HI.out; (try simp [intOf]); (try omega)
                case rel => exact ⟨i + 1, st, out, by have := HI.out; omega, (by first | rfl | go_num), rfl, hn0, ⟨HR2.out.1, HR2.out.2.skip, by rw [← HGO.out, if_neg (by simp), if_neg (by simp), HK.out]; rfl⟩⟩
              | succ k =>
                have ek : ((k + 1 : Nat) : Int) - 1 = (k : Int) := by omega
                rw [ek]
                have dk : decide (0 ≤ (k : Int)) = true := decide_eq_true (by omega)
                have p7 : (0 ≤ (k : Int)) = True := eq_true (by omega)
                have p5 : ((k : Int) < 63) = True := eq_true (by omega)
                have p6 : (k < 63) = True := eq_true (by omega)
                have hkb : k ≤ 62 := by omega
                obtain ⟨y1, y2⟩ := HR2.out.1.at (k := k) (by omega)
                obtain ⟨sc, sa, hsk⟩ : ∃ sc sa, st.getD k (0, 0) = (sc, sa) := ⟨_, _, rfl⟩
                rw [hsk] at y1 y2
                dsimp only at y1 y2
                have hse : seek cc st (k + 1) = if sc = cc then some k else seek cc st k := by
                  show (if (st.getD k (0, 0)).1 = cc then some k else seek cc st k) = _
                  rw [hsk]
                have HSE := Aside0.mk (And.intro hse hsk)
                clear hse hsk
                by_cases q3 : sc = cc
                · subst q3
                  have e3 : (sc == sc) = true := beq_self_eq_true _
                  have hsk2 := HSE.out.2
                  have HL := Aside0.mk (show out.length ≤ 65536 by
                    have h1 := congrArg List.length HGO.out
                    have h2 := goF_len l now
                    have h3 := HA.out.2.2.2.2
                    rw [List.length_append, List.length_map] at h1
                    omega)
                  go_wp2_with (first | ((with_reducible refine gate_builtin (b := .append) (xs := #[.tmp 45, .tmp 52]) rfl ?_); at_builtin; refine Kd.R_append k30 (w0 := w) w.heap.size rfl (.tmp 45) (.tmp 52) 25 30 (.agg #[(.int .i64 0), (.int .i64 0)]) 16 rfl Tryd.underlying25 info30 rfl (by decide) (by omega) _ out (⟨sa, (i : Int)⟩ : S30) [.int .i64 sa, .int .i64 (i : Int)] (ok := fun k_ => k_ ≠ gs) (okp := fun _ => False) rfl rfl ?aP (fun _ hk => hk.elim) ?aF ?aO ?aB ?aS ?aL ?_; (case aP => exact k30_mkM _ _ _ (⟨sa, (i : Int)⟩ : S30)); (case aB => exact HR2.out.1.be); (case aF => exact HR2.out.1.fresh); (case aO => exact HR2.out.1.ou); (case aS => exact HR2.out.1.be.size); (case aL => have := HL.out; omega); intro v145 w24 ho hb hg hat; have HAP := Aside0.mk (And.intro ho (And.intro hb (And.intro hg hat))); clear ho hb hg hat))
                  go_roundw
                  case measure => have := HI.out; (try simp [intOf]); (try omega)
                  case rel =>
                    have hlk : (st.take k).length = k := by rw [List.length_take]; omega
                    refine ⟨i + 1, st.take k, out ++ [(⟨sa, (i : Int)⟩ : S30)], by have := HI.out; omega, (by first | rfl | go_num), by rw [hlk], by omega, ⟨(HR2.out.1.emit HAP.out.1 HAP.out.2.1 HAP.out.2.2.1).take k, (HR2.out.2.take k).skip, ?_⟩⟩
                    rw [← HGO.out, if_neg (by simp), if_neg (by simp), HK.out, HSE.out.1, if_pos rfl]
                    dsimp only
                    rw [hsk2, List.map_append, List.append_assoc]
                    rfl
                · have e3 : (sc == cc) = false := beq_eq_false_iff_ne.mpr q3
                  have HQ3 := Aside0.mk q3
                  clear q3
                  go_wp2
                  go_roundw
                  case measure => (try simp [intOf]); (try omega)
                  case rel => exact ⟨k, by omega, (by first | rfl | trivial), (by first | rfl | trivial), (by first | rfl | go_num), ⟨by rw [HK.out, HSE.out.1, if_neg HQ3.out]⟩, (by first | rfl | trivial)⟩
        · have e1 : (c != 14) = true := bne_iff_ne.mpr q
          have HQ := Aside0.mk q
          clear q
          go_wp2
          go_roundw
          case measure => have := HI.out; simp [intOf]; omega
          case rel => exact ⟨i + 1, st, out, by have := HI.out; omega, (by first | rfl | go_num), rfl, hst, ⟨HR2.out.1, HR2.out.2.skip, by rw [← HGO.out, if_pos (Or.inr HQ.out)]⟩⟩
    · have dl : decide ((i : Int) < (m : Int)) = false := decide_eq_false (by omega)
      obtain rfl : i = m := by omega
      have HF := Aside0.mk (And.intro HR.out.1 (show out.map toP = goF l now by rw [← HR.out.2.2, Nat.sub_self]; simp [go]))
      clear HR hlt hi
      go_wp2_with (go_at_call 19; refine (sort_w HF.out.1.ou HF.out.2 HA.out.2.2.2.2).mono ?_; rintro e w3 ⟨rfl, ys, hys, hRs, hBs⟩; have HS := Aside0.mk (And.intro hys (And.intro hRs (HF.out.1.be.trans hBs))); clear hys hRs hBs)
      simp only [Exit.noGoto_ret]
      go_ret
      exact ⟨_, ys, rfl, HS.out.1, Kd.R_mono HS.out.2.1 (fun _ _ => trivial), HS.out.2.2⟩
def ofP (p : Int × Int) : S30 := ⟨p.1, p.2⟩
theorem ofP_toP : ∀ ys : List S30, (ys.map toP).map ofP = ys
  | [] => rfl
  | y :: ys => by rw [List.map_cons, List.map_cons, ofP_toP ys]; rfl
def pairs_Pairs.f (l0 : List Int) (l1 : List Int) : Option ((List (S30))) := if l0.length ≤ 65536 then some ((pairsF l0 l1).map ofP) else none
theorem pairs_Pairs.calls (A0 : Option Addr) (c0 : Nat) (l0 : List Int) (A1 : Option Addr) (c1 : Nat) (l1 : List Int) (r : List (S30)) (w : World) (hr0 : Kd.C (Kd.int .i32) w A0 l0.length l0) (hc0 : l0.length ≤ c0) (hr1 : Kd.C (Kd.int .u8) w A1 l1.length l1) (hc1 : l1.length ≤ c1) (h : pairs_Pairs.f l0 l1 = some r) (hT : Tabs w) :
  Calls Tryd.prog 9 #[.slice A0 l0.length c0, .slice A1 l1.length c1] w fun e w' => ∃ v0_ : Value, e = .returned (v0_) ∧ Kd.R k30 30 w' w.heap.size (fun _ => True) v0_ r ∧ Below w.heap.size w w' := by
  unfold pairs_Pairs.f at h
  split at h
  · next q =>
    injection h with h
    refine (pairs_w A0 c0 l0 A1 c1 l1 w hr0 hc0 hr1 hc1 hT q).mono ?_
    rintro e w' ⟨v0, ys, he, hy, hR, hB⟩
    rw [← hy, ofP_toP] at h
    subst h
    exact ⟨v0, he, hR, hB⟩
  · cases h
end Go.Proofs.YtiogpnefnapfeaaDoor.X
