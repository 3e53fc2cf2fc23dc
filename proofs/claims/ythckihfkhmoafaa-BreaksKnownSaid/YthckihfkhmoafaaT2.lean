import Derived.Test.YthckihfkhmoafaaT1
import Derived.RangeFuncBox
import Derived.RangeFuncLeaves
import Derived.RangeFuncNested
import Derived.RangeFuncBound
import Derived.RangeFuncCalls
import Derived.Shelf.Abstract
import Derived.OwnWalkIn
import Derived.TacticsInMore
import Derived.LoopNIn
import Derived.LoopIn
import Derived.IntWalk
namespace Go.Proofs.Ythckihfkhmoafaa.X
open Go.RowKit Go.Proofs.YthckihfkhmoafaaW.PrintWords Go.Proofs.YthckihfkhmoafaaW.PrintLast Go.Proofs.YthckihfkhmoafaaW.PrintMore
attribute [local go_sem] max2_int min2_int max_two min_two max_three min_three max_four min_four   -- for this text's walks alone
attribute [local go_sem] Oper.semAt_some
set_option linter.unusedVariables false
set_option linter.unusedSimpArgs false

def brBlank (x : S36) : Bool := x.f0 == 32 || x.f0 == 9
def brSilent (x : S36) : Bool := x.f1 == 0 && (x.f2 == 0 && x.f3 == 0)
/-- Must a line begin at k? May it? -/
def brMust (l : List S36) (k : Int) : Bool := (rd_T36 l (k - 1)).f0 == 8232
def brMay (l : List S36) (k : Int) : Bool := (brBlank (rd_T36 l (k - 1)) || (rd_T36 l (k - 1)).f0 == 8203) && !(brBlank (rd_T36 l k))
set_option maxHeartbeats 2000000 in
set_option maxRecDepth 100000 in
theorem blank_c (x : S36) (w : World) : Calls Try.prog 25 #[v36 x] w fun e w' => e = .returned (.bool (brBlank x)) ∧ w' = w.alloc (.cells #[.int .i32 x.f0, .int .i64 x.f1, .int .i64 x.f2, .int .i64 x.f3] 36) := by
  have hu := Try.underlying36
  obtain ⟨x0, x1, x2, x3⟩ := x
  unfold v36 brBlank
  dsimp only
  obtain ⟨b1, h1⟩ : ∃ b, (x0 == 32) = b := ⟨_, rfl⟩
  obtain ⟨b2, h2⟩ : ∃ b, (x0 == 9) = b := ⟨_, rfl⟩
  rw [h1, h2]
  cases b1
  · go_enter Try.func25, Try.ntmps25
    go_wp2
    go_ret
    exact ⟨rfl, rfl⟩
  · go_enter Try.func25, Try.ntmps25
    go_wp2
    go_ret
    exact ⟨rfl, rfl⟩
set_option maxHeartbeats 2000000 in
set_option maxRecDepth 100000 in
theorem silent_c (x : S36) (w : World) : Calls Try.prog 26 #[v36 x] w fun e w' => e = .returned (.bool (brSilent x)) ∧ w' = w.alloc (.cells #[.int .i32 x.f0, .int .i64 x.f1, .int .i64 x.f2, .int .i64 x.f3] 36) := by
  have hu := Try.underlying36
  obtain ⟨x0, x1, x2, x3⟩ := x
  unfold v36 brSilent
  dsimp only
  obtain ⟨b1, h1⟩ : ∃ b, (x1 == 0) = b := ⟨_, rfl⟩
  obtain ⟨b2, h2⟩ : ∃ b, (x2 == 0) = b := ⟨_, rfl⟩
  obtain ⟨b3, h3⟩ : ∃ b, (x3 == 0) = b := ⟨_, rfl⟩
  rw [h1, h2, h3]
  cases b1
  · go_enter Try.func26, Try.ntmps26
    go_wp2
    go_ret
    exact ⟨rfl, rfl⟩
  · cases b2
    · go_enter Try.func26, Try.ntmps26
      go_wp2
      go_ret
      exact ⟨rfl, rfl⟩
    · go_enter Try.func26, Try.ntmps26
      go_wp2
      go_ret
      exact ⟨rfl, rfl⟩
/-- What comes of 'places': a number within the row, and whether a line must begin there. -/
abbrev BrIx (l : List S36) : Type := { x : Int × Bool // 1 ≤ x.1 ∧ x.1 < (l.length : Int) }
/-- What has come of it when k is next. -/
def brTo (l : List S36) (k : Int) : List (BrIx l) := (List.range (k - 1).toNat).filterMap fun (j : Nat) => if h : (1 : Int) ≤ (j : Int) + 1 ∧ (j : Int) + 1 < l.length then (if brMay l ((j : Int) + 1) || brMust l ((j : Int) + 1) then some ⟨((j : Int) + 1, brMust l ((j : Int) + 1)), h⟩ else none) else none
theorem brTo_one (l : List S36) : brTo l 1 = [] := by simp [brTo]
theorem brTo_length (l : List S36) (k : Int) : (brTo l k).length ≤ (k - 1).toNat := Nat.le_trans (List.length_filterMap_le _ _) (by simp)
theorem brTo_succ (l : List S36) (k : Int) (h0 : 1 ≤ k) (h1 : k < (l.length : Int)) : brTo l (k + 1) = brTo l k ++ (if brMay l k || brMust l k then [⟨(k, brMust l k), h0, h1⟩] else []) := by
  have e : (k + 1 - 1).toNat = (k - 1).toNat + 1 := by omega
  have e2 : (((k - 1).toNat : Nat) : Int) + 1 = k := by omega
  rw [brTo, e, List.range_succ, List.filterMap_append, brTo]
  congr 1
  simp only [List.filterMap_cons, List.filterMap_nil, e2, h0, h1, and_self, dite_true]
  split <;> simp_all
def encBr (l : List S36) (x : BrIx l) : Array Value := #[Value.int .i64 x.1.1, Value.bool x.1.2]
/-- What a round of a loop over 'places' keeps: what lay below n₀, and the iterator's own box. -/
def KpB (n₀ Bs : Nat) (W W' : World) : Prop := Below n₀ W W' ∧ W'.heap[Bs]? = W.heap[Bs]?
theorem KpB.refl (n₀ Bs : Nat) (W : World) : KpB n₀ Bs W W := ⟨Below.refl _ _, rfl⟩
theorem KpB.trans {n₀ Bs : Nat} {A B C : World} (h : KpB n₀ Bs A B) (k : KpB n₀ Bs B C) : KpB n₀ Bs A C := ⟨h.1.trans k.1, k.2.trans h.2⟩
theorem KpB.boxed {n₀ Bs : Nat} {A B : World} (h : KpB n₀ Bs A B) {t : TypeId} {v : Value} (hb : Boxed A Bs t v) : Boxed B Bs t v := h.2.trans hb
theorem KpB.alloc {n₀ Bs : Nat} {A B : World} (h : KpB n₀ Bs A B) (hn : n₀ ≤ B.heap.size) (hB : Bs < B.heap.size) (o : Obj) : KpB n₀ Bs A (B.alloc o) := ⟨h.1.alloc hn o, (Below.heap_alloc _ _ _ hB).trans h.2⟩
theorem br_two (wr : World) (x : S36) (w2 : World) (h : w2 = (wr.alloc (.cells #[.int .i32 x.f0, .int .i64 x.f1, .int .i64 x.f2, .int .i64 x.f3] 36)).alloc (.cells #[.int .i32 x.f0, .int .i64 x.f1, .int .i64 x.f2, .int .i64 x.f3] 36)) :
    Below wr.heap.size wr w2 ∧ w2.cell? ⟨wr.heap.size, 0, none⟩ = some (.int .i32 x.f0) := by
  subst h
  refine ⟨((Below.refl _ wr).alloc (Nat.le_refl _) _).alloc (by simp) _, ?_⟩
  have h1 : ((wr.alloc (.cells #[.int .i32 x.f0, .int .i64 x.f1, .int .i64 x.f2, .int .i64 x.f3] 36)).alloc (.cells #[.int .i32 x.f0, .int .i64 x.f1, .int .i64 x.f2, .int .i64 x.f3] 36)).heap[wr.heap.size]? = some (.cells #[.int .i32 x.f0, .int .i64 x.f1, .int .i64 x.f2, .int .i64 x.f3] 36) := (Below.heap_alloc _ _ _ (by simp)).trans (World.alloc_heap_new wr _)
  exact (blk_cell h1 0).trans rfl
set_option maxRecDepth 100000 in
set_option maxHeartbeats 4000000 in
theorem br1_in (n : Nat) (hn : 1 ≤ n) (l Bs n₀ c0 : Nat) (A0 : Option Addr) (l0 : List S36) (w0 : World) (hn₀ : n₀ = w0.heap.size) (hr0 : Kd.C k36 w0 A0 l0.length l0) (hlen : l0.length < 17592186044416) (J Jx : List (BrIx l0) → World → Prop) (B : Nat) (hJ : AbidesFrom B J)
    (hY : ∀ pre x W, J pre W → pre.length < l0.length → YieldAt Fence.wide (n - 1) Try.prog l (encBr l0 x) W fun e W' =>
      (e = .returned (.bool true) ∧ J (pre ++ [x]) W' ∧ KpB n₀ Bs W W') ∨ (e = .returned (.bool false) ∧ Jx (pre ++ [x]) W'))
    (W : World) (hW0 : Below w0.heap.size w0 W) (hBs : Boxed W Bs 22 (.slice A0 l0.length c0)) (h0 : J [] W) :
    CallsIn Fence.wide n Try.prog 35 #[.func (.yield l) #[] #[], .pointer (some ⟨Bs, 0, none⟩)] W fun e W' => (∃ v, e = .returned v) ∧
      ((∃ ys, ys = brTo l0 l0.length ∧ J ys W') ∨ (∃ pre, (∃ i, pre = brTo l0 i) ∧ Jx pre W')) := by
  have hu := Try.underlying36
  have HR0 := Aside0.mk hr0
  clear hr0
  have HBs := Aside0.mk hBs
  have hBc := hBs.cell
  clear hBs
  refine callsIn_of_wp Try.func35 rfl trivial ?_ rfl
  simp only [Try.ntmps35, List.size_toArray, List.length_cons, List.length_nil, Nat.reduceAdd, Nat.reduceSub, Array.replicate_succ, Array.replicate_zero, List.push_toArray, List.append_toArray, List.nil_append, List.cons_append]
  gi_wp2
  gi_loopw [3] (fun v wr => ∃ k : Int, 1 ≤ k ∧ (k ≤ (l0.length : Int) ∨ k = 1) ∧ v = .int .i64 k ∧ Aside0 (J (brTo l0 k) wr) ∧ Aside0 (KpB n₀ Bs W wr))
    (fun v _ => l0.length - (intOf v).toNat)
  case atStart => exact ⟨1, by omega, .inr rfl, rfl, ⟨by rw [brTo_one]; exact h0⟩, ⟨KpB.refl _ _ _⟩⟩
  case round =>
    obtain ⟨k, hl, hu2, rfl, HJs, HB⟩ := hrel
    have hBsr : wr.cell? ⟨Bs, 0, none⟩ = some (.slice A0 l0.length c0) := (HB.out.boxed HBs.out).cell
    by_cases hlt : k < (l0.length : Int)
    · have b1 : decide (k < (l0.length : Int)) = true := decide_eq_true hlt
      obtain ⟨kp, hkp⟩ : ∃ kp : Int, kp = k - 1 := ⟨_, rfl⟩
      have hk1 : 0 ≤ kp := by omega
      have hk2 : kp < (l0.length : Int) := by omega
      have hk3 : 0 ≤ k := by omega
      have hwr : IntKind.i64.wrap (k - 1) = kp := (IntWalk.i64_in _ (by omega)).trans hkp.symm
      have hwr2 : IntKind.i64.wrap (k + 1) = k + 1 := IntWalk.i64_in _ (by omega)
      obtain ⟨ad1, e1, x0, x1, x2, x3⟩ := at_T36 HR0.out kp hk1 hk2
      subst e1
      obtain ⟨ad2, e2, y0, y1, y2, y3⟩ := at_T36 HR0.out k hk3 hlt
      injection e2 with e2
      subst e2
      have up : ∀ {p : Addr} {v : Value}, w0.cell? p = some v → wr.cell? p = some v := fun {p v} h =>
        (HB.out.1.cell (p := p) (by rw [hn₀]; exact World.block_lt_of_cell? w0 _ h)).trans ((hW0.cell (World.block_lt_of_cell? w0 _ h)).trans h)
      replace x0 := up x0
      replace x1 := up x1
      replace x2 := up x2
      replace x3 := up x3
      replace y0 := up y0
      replace y1 := up y1
      replace y2 := up y2
      replace y3 := up y3
      clear up
      have HKP := Aside0.mk hkp
      clear hkp
      have BLa : ∀ W', CallsIn Fence.wide (n - 1) Try.prog 25 #[.agg #[.int .i32 (rd_T36 l0 kp).f0, .int .i64 (rd_T36 l0 kp).f1, .int .i64 (rd_T36 l0 kp).f2, .int .i64 (rd_T36 l0 kp).f3]] W' fun e w' => e = .returned (.bool (brBlank (rd_T36 l0 kp))) ∧ w' = W'.alloc (.cells #[.int .i32 (rd_T36 l0 kp).f0, .int .i64 (rd_T36 l0 kp).f1, .int .i64 (rd_T36 l0 kp).f2, .int .i64 (rd_T36 l0 kp).f3] 36) := fun W' => callsIn_wide.2 (blank_c (rd_T36 l0 kp) W')
      have BLb : ∀ W', CallsIn Fence.wide (n - 1) Try.prog 25 #[.agg #[.int .i32 (rd_T36 l0 k).f0, .int .i64 (rd_T36 l0 k).f1, .int .i64 (rd_T36 l0 k).f2, .int .i64 (rd_T36 l0 k).f3]] W' fun e w' => e = .returned (.bool (brBlank (rd_T36 l0 k))) ∧ w' = W'.alloc (.cells #[.int .i32 (rd_T36 l0 k).f0, .int .i64 (rd_T36 l0 k).f1, .int .i64 (rd_T36 l0 k).f2, .int .i64 (rd_T36 l0 k).f3] 36) := fun W' => callsIn_wide.2 (blank_c (rd_T36 l0 k) W')
      have hsz : n₀ ≤ wr.heap.size := by rw [hn₀]; exact Nat.le_trans hW0.size HB.out.1.size
      have hbs : Bs < wr.heap.size := Nat.lt_of_lt_of_le HBs.out.lt HB.out.1.size
      have kp1 : ∀ a : Obj, KpB n₀ Bs wr (wr.alloc a) := fun a => (KpB.refl _ _ _).alloc hsz hbs a
      have kp2 : ∀ a b : Obj, KpB n₀ Bs wr ((wr.alloc a).alloc b) := fun a b => (kp1 a).alloc (by simp; omega) (by simp; omega) b
      have kp3 : ∀ a b c : Obj, KpB n₀ Bs wr (((wr.alloc a).alloc b).alloc c) := fun a b c => (kp2 a b).alloc (by simp; omega) (by simp; omega) c
      have jj : ∀ (X : World) (o : Obj) (s : List (BrIx l0)), J s X → J s (X.alloc o) := fun X o s h => hJ s X _ none h (World.grownBy_alloc _ _ _) (fun r e => by cases e)
      have j2 : ∀ a b : Obj, J (brTo l0 k) ((wr.alloc a).alloc b) := fun a b => jj _ _ _ (jj _ _ _ HJs.out)
      have j3 : ∀ a b c : Obj, J (brTo l0 k) (((wr.alloc a).alloc b).alloc c) := fun a b c => jj _ _ _ (j2 a b)
      have kw2 : ∀ w2, w2 = (wr.alloc (.cells #[.int .i32 (rd_T36 l0 kp).f0, .int .i64 (rd_T36 l0 kp).f1, .int .i64 (rd_T36 l0 kp).f2, .int .i64 (rd_T36 l0 kp).f3] 36)).alloc (.cells #[.int .i32 (rd_T36 l0 kp).f0, .int .i64 (rd_T36 l0 kp).f1, .int .i64 (rd_T36 l0 kp).f2, .int .i64 (rd_T36 l0 kp).f3] 36) → KpB n₀ Bs wr w2 ∧ (∀ o, KpB n₀ Bs wr (w2.alloc o)) ∧ J (brTo l0 k) w2 ∧ ∀ o, J (brTo l0 k) (w2.alloc o) := fun w2 h => by
        subst h
        exact ⟨kp2 _ _, kp3 _ _, j2 _ _, j3 _ _⟩
      have HK2 := Aside0.mk kw2
      clear kw2
      clear kp1 kp2 kp3 jj j2 j3 hsz hbs
      have hlb : (brTo l0 k).length < l0.length := by have := brTo_length l0 k; omega
      have HS := Aside0.mk (brTo_succ l0 k hl hlt)
      have hmust : brMust l0 k = ((rd_T36 l0 kp).f0 == 8232) := by rw [HKP.out]; rfl
      have hmay : brMay l0 k = ((brBlank (rd_T36 l0 kp) || (rd_T36 l0 kp).f0 == 8203) && !(brBlank (rd_T36 l0 k))) := by rw [HKP.out]; rfl
      have HMM := Aside0.mk (And.intro hmust hmay)
      clear hmust hmay
      by_cases hK : brBlank (rd_T36 l0 kp) = true
      · have bK := hK
        have hf : (rd_T36 l0 kp).f0 ≠ 8232 := by intro e; unfold brBlank at hK; rw [e] at hK; exact absurd hK (by decide)
        have bM : ((rd_T36 l0 kp).f0 == 8232) = false := beq_eq_false_iff_ne.mpr hf
        by_cases hC : brBlank (rd_T36 l0 k) = true
        · have bC := hC
          have hnext : brTo l0 (k + 1) = brTo l0 k := by rw [HS.out]; simp [HMM.out.1, HMM.out.2, bK, bM, bC]
          simp only [bK] at BLa
          simp only [bC] at BLb
          clear hK hC hf
          gi_wp2
          refine ⟨trivial, ?_⟩
          refine (BLa _).mono ?_
          rintro e w2 ⟨rfl, hw2⟩
          obtain ⟨hbw, ha0⟩ := br_two wr _ w2 hw2
          have up2 : ∀ {p : Addr} {v : Value}, wr.cell? p = some v → w2.cell? p = some v := fun {p v} h => (hbw.cell (World.block_lt_of_cell? wr _ h)).trans h
          replace hBsr := up2 hBsr
          replace y0 := up2 y0
          replace y1 := up2 y1
          replace y2 := up2 y2
          replace y3 := up2 y3
          have HW2 := Aside0.mk hw2
          clear hw2 hbw up2 x0 x1 x2 x3
          gi_wp2
          refine ⟨trivial, ?_⟩
          refine (BLb _).mono ?_
          rintro e w' ⟨rfl, rfl⟩
          gi_wp2
          refine ⟨fun f hf => (by cases hf), ?_⟩
          try gi_wp2
          go_roundw
          case rel => exact ⟨k + 1, by omega, .inl (by omega), by go_num, ⟨by rw [hnext]; exact (HK2.out w2 HW2.out).2.2.2 _⟩, ⟨HB.out.trans ((HK2.out w2 HW2.out).2.1 _)⟩⟩
          case measure => simp [intOf]; omega
        · have bC := Bool.eq_false_iff.mpr hC
          have hnext : brTo l0 (k + 1) = brTo l0 k ++ [⟨(k, false), hl, hlt⟩] := by rw [HS.out]; simp [HMM.out.1, HMM.out.2, bK, bM, bC]
          simp only [bK] at BLa
          simp only [bC] at BLb
          clear hK hC hf
          gi_wp2
          refine ⟨trivial, ?_⟩
          refine (BLa _).mono ?_
          rintro e w2 ⟨rfl, hw2⟩
          obtain ⟨hbw, ha0⟩ := br_two wr _ w2 hw2
          have up2 : ∀ {p : Addr} {v : Value}, wr.cell? p = some v → w2.cell? p = some v := fun {p v} h => (hbw.cell (World.block_lt_of_cell? wr _ h)).trans h
          replace hBsr := up2 hBsr
          replace y0 := up2 y0
          replace y1 := up2 y1
          replace y2 := up2 y2
          replace y3 := up2 y3
          have HW2 := Aside0.mk hw2
          clear hw2 hbw up2 x0 x1 x2 x3
          gi_wp2
          refine ⟨trivial, ?_⟩
          refine (BLb _).mono ?_
          rintro e w' ⟨rfl, rfl⟩
          obtain ⟨fn, tmps, assign, body, hy, hR⟩ := hY _ ⟨(k, false), hl, hlt⟩ (w2.alloc (.cells #[.int .i32 (rd_T36 l0 k).f0, .int .i64 (rd_T36 l0 k).f1, .int .i64 (rd_T36 l0 k).f2, .int .i64 (rd_T36 l0 k).f3] 36)) ((HK2.out w2 HW2.out).2.2.2 _) hlb
          dsimp only [encBr] at hy
          have HR := Aside0.mk hR
          clear hR
          gi_wp2
          refine HR.out.mono ?_
          rintro e W6 (⟨rfl, hJ6, hk6⟩ | ⟨rfl, hJ6⟩)
          · have HJ6 := Aside0.mk hJ6
            have HK6 := Aside0.mk hk6
            clear hJ6 hk6
            gi_wp2
            first | exact ⟨⟨k + 1, by omega, .inl (by omega), by go_num, ⟨by rw [hnext]; exact HJ6.out⟩, ⟨HB.out.trans (((HK2.out w2 HW2.out).2.1 _).trans HK6.out)⟩⟩, by simp [intOf]; omega⟩ | (go_roundw; (case rel => exact ⟨k + 1, by omega, .inl (by omega), by go_num, ⟨by rw [hnext]; exact HJ6.out⟩, ⟨HB.out.trans (((HK2.out w2 HW2.out).2.1 _).trans HK6.out)⟩⟩); (case measure => simp [intOf]; omega))
          · have HJ6 := Aside0.mk hJ6
            clear hJ6
            gi_wp2
            refine bodyPost_ret (results_none rfl _ _ _) rfl ?_
            exact ⟨⟨_, rfl⟩, .inr ⟨_, ⟨k + 1, hnext.symm⟩, HJ6.out⟩⟩
      · have bK := Bool.eq_false_iff.mpr hK
        by_cases hZ : (rd_T36 l0 kp).f0 = 8203
        · have bZ : ((rd_T36 l0 kp).f0 == 8203) = true := beq_iff_eq.mpr hZ
          have bM : ((rd_T36 l0 kp).f0 == 8232) = false := beq_eq_false_iff_ne.mpr (by omega)
          by_cases hC : brBlank (rd_T36 l0 k) = true
          · have bC := hC
            have hnext : brTo l0 (k + 1) = brTo l0 k := by rw [HS.out]; simp [HMM.out.1, HMM.out.2, bK, bM, bZ, bC]
            simp only [bK] at BLa
            simp only [bC] at BLb
            clear hK hZ hC
            gi_wp2
            refine ⟨trivial, ?_⟩
            refine (BLa _).mono ?_
            rintro e w2 ⟨rfl, hw2⟩
            obtain ⟨hbw, ha0⟩ := br_two wr _ w2 hw2
            have up2 : ∀ {p : Addr} {v : Value}, wr.cell? p = some v → w2.cell? p = some v := fun {p v} h => (hbw.cell (World.block_lt_of_cell? wr _ h)).trans h
            replace hBsr := up2 hBsr
            replace y0 := up2 y0
            replace y1 := up2 y1
            replace y2 := up2 y2
            replace y3 := up2 y3
            have HW2 := Aside0.mk hw2
            clear hw2 hbw up2 x0 x1 x2 x3
            gi_wp2
            refine ⟨trivial, ?_⟩
            refine (BLb _).mono ?_
            rintro e w' ⟨rfl, rfl⟩
            gi_wp2
            refine ⟨fun f hf => (by cases hf), ?_⟩
            try gi_wp2
            go_roundw
            case rel => exact ⟨k + 1, by omega, .inl (by omega), by go_num, ⟨by rw [hnext]; exact (HK2.out w2 HW2.out).2.2.2 _⟩, ⟨HB.out.trans ((HK2.out w2 HW2.out).2.1 _)⟩⟩
            case measure => simp [intOf]; omega
          · have bC := Bool.eq_false_iff.mpr hC
            have hnext : brTo l0 (k + 1) = brTo l0 k ++ [⟨(k, false), hl, hlt⟩] := by rw [HS.out]; simp [HMM.out.1, HMM.out.2, bK, bM, bZ, bC]
            simp only [bK] at BLa
            simp only [bC] at BLb
            clear hK hZ hC
            gi_wp2
            refine ⟨trivial, ?_⟩
            refine (BLa _).mono ?_
            rintro e w2 ⟨rfl, hw2⟩
            obtain ⟨hbw, ha0⟩ := br_two wr _ w2 hw2
            have up2 : ∀ {p : Addr} {v : Value}, wr.cell? p = some v → w2.cell? p = some v := fun {p v} h => (hbw.cell (World.block_lt_of_cell? wr _ h)).trans h
            replace hBsr := up2 hBsr
            replace y0 := up2 y0
            replace y1 := up2 y1
            replace y2 := up2 y2
            replace y3 := up2 y3
            have HW2 := Aside0.mk hw2
            clear hw2 hbw up2 x0 x1 x2 x3
            gi_wp2
            refine ⟨trivial, ?_⟩
            refine (BLb _).mono ?_
            rintro e w' ⟨rfl, rfl⟩
            obtain ⟨fn, tmps, assign, body, hy, hR⟩ := hY _ ⟨(k, false), hl, hlt⟩ (w2.alloc (.cells #[.int .i32 (rd_T36 l0 k).f0, .int .i64 (rd_T36 l0 k).f1, .int .i64 (rd_T36 l0 k).f2, .int .i64 (rd_T36 l0 k).f3] 36)) ((HK2.out w2 HW2.out).2.2.2 _) hlb
            dsimp only [encBr] at hy
            have HR := Aside0.mk hR
            clear hR
            gi_wp2
            refine HR.out.mono ?_
            rintro e W6 (⟨rfl, hJ6, hk6⟩ | ⟨rfl, hJ6⟩)
            · have HJ6 := Aside0.mk hJ6
              have HK6 := Aside0.mk hk6
              clear hJ6 hk6
              gi_wp2
              first | exact ⟨⟨k + 1, by omega, .inl (by omega), by go_num, ⟨by rw [hnext]; exact HJ6.out⟩, ⟨HB.out.trans (((HK2.out w2 HW2.out).2.1 _).trans HK6.out)⟩⟩, by simp [intOf]; omega⟩ | (go_roundw; (case rel => exact ⟨k + 1, by omega, .inl (by omega), by go_num, ⟨by rw [hnext]; exact HJ6.out⟩, ⟨HB.out.trans (((HK2.out w2 HW2.out).2.1 _).trans HK6.out)⟩⟩); (case measure => simp [intOf]; omega))
            · have HJ6 := Aside0.mk hJ6
              clear hJ6
              gi_wp2
              refine bodyPost_ret (results_none rfl _ _ _) rfl ?_
              exact ⟨⟨_, rfl⟩, .inr ⟨_, ⟨k + 1, hnext.symm⟩, HJ6.out⟩⟩
        · have bZ : ((rd_T36 l0 kp).f0 == 8203) = false := beq_eq_false_iff_ne.mpr hZ
          by_cases hM : (rd_T36 l0 kp).f0 = 8232
          · have bM : ((rd_T36 l0 kp).f0 == 8232) = true := beq_iff_eq.mpr hM
            have hnext : brTo l0 (k + 1) = brTo l0 k ++ [⟨(k, true), hl, hlt⟩] := by rw [HS.out]; simp [HMM.out.1, HMM.out.2, bK, bM, bZ]
            simp only [bK] at BLa
            clear hK hZ hM
            gi_wp2
            refine ⟨trivial, ?_⟩
            refine (BLa _).mono ?_
            rintro e w2 ⟨rfl, hw2⟩
            obtain ⟨hbw, ha0⟩ := br_two wr _ w2 hw2
            have up2 : ∀ {p : Addr} {v : Value}, wr.cell? p = some v → w2.cell? p = some v := fun {p v} h => (hbw.cell (World.block_lt_of_cell? wr _ h)).trans h
            replace hBsr := up2 hBsr
            replace y0 := up2 y0
            replace y1 := up2 y1
            replace y2 := up2 y2
            replace y3 := up2 y3
            have HW2 := Aside0.mk hw2
            clear hw2 hbw up2 x0 x1 x2 x3
            obtain ⟨fn, tmps, assign, body, hy, hR⟩ := hY _ ⟨(k, true), hl, hlt⟩ (w2) ((HK2.out w2 HW2.out).2.2.1) hlb
            dsimp only [encBr] at hy
            have HR := Aside0.mk hR
            clear hR
            gi_wp2
            refine ⟨trivial, ?_⟩
            gi_wp2
            refine HR.out.mono ?_
            rintro e W6 (⟨rfl, hJ6, hk6⟩ | ⟨rfl, hJ6⟩)
            · have HJ6 := Aside0.mk hJ6
              have HK6 := Aside0.mk hk6
              clear hJ6 hk6
              gi_wp2
              first | exact ⟨⟨k + 1, by omega, .inl (by omega), by go_num, ⟨by rw [hnext]; exact HJ6.out⟩, ⟨HB.out.trans ((HK2.out w2 HW2.out).1.trans HK6.out)⟩⟩, by simp [intOf]; omega⟩ | (go_roundw; (case rel => exact ⟨k + 1, by omega, .inl (by omega), by go_num, ⟨by rw [hnext]; exact HJ6.out⟩, ⟨HB.out.trans ((HK2.out w2 HW2.out).1.trans HK6.out)⟩⟩); (case measure => simp [intOf]; omega))
            · have HJ6 := Aside0.mk hJ6
              clear hJ6
              gi_wp2
              refine bodyPost_ret (results_none rfl _ _ _) rfl ?_
              exact ⟨⟨_, rfl⟩, .inr ⟨_, ⟨k + 1, hnext.symm⟩, HJ6.out⟩⟩
          · have bM : ((rd_T36 l0 kp).f0 == 8232) = false := beq_eq_false_iff_ne.mpr hM
            have hnext : brTo l0 (k + 1) = brTo l0 k := by rw [HS.out]; simp [HMM.out.1, HMM.out.2, bK, bM, bZ]
            simp only [bK] at BLa
            clear hK hZ hM
            gi_wp2
            refine ⟨trivial, ?_⟩
            refine (BLa _).mono ?_
            rintro e w2 ⟨rfl, hw2⟩
            obtain ⟨hbw, ha0⟩ := br_two wr _ w2 hw2
            have up2 : ∀ {p : Addr} {v : Value}, wr.cell? p = some v → w2.cell? p = some v := fun {p v} h => (hbw.cell (World.block_lt_of_cell? wr _ h)).trans h
            replace hBsr := up2 hBsr
            replace y0 := up2 y0
            replace y1 := up2 y1
            replace y2 := up2 y2
            replace y3 := up2 y3
            have HW2 := Aside0.mk hw2
            clear hw2 hbw up2 x0 x1 x2 x3
            gi_wp2
            refine ⟨trivial, ?_⟩
            gi_wp2
            refine ⟨fun f hf => (by cases hf), ?_⟩
            try gi_wp2
            first | exact ⟨⟨k + 1, by omega, .inl (by omega), by go_num, ⟨by rw [hnext]; exact (HK2.out w2 HW2.out).2.2.1⟩, ⟨HB.out.trans (HK2.out w2 HW2.out).1⟩⟩, by simp [intOf]; omega⟩ | (go_roundw; (case rel => exact ⟨k + 1, by omega, .inl (by omega), by go_num, ⟨by rw [hnext]; exact (HK2.out w2 HW2.out).2.2.1⟩, ⟨HB.out.trans (HK2.out w2 HW2.out).1⟩⟩); (case measure => simp [intOf]; omega))
    · have b1 : decide (k < (l0.length : Int)) = false := decide_eq_false hlt
      have hend : brTo l0 k = brTo l0 l0.length := by
        rcases hu2 with h | h
        · rw [show k = l0.length by omega]
        · rw [h, brTo_one]
          have : (l0.length : Int) - 1 ≤ 0 := by omega
          rw [brTo, Int.toNat_of_nonpos this]; rfl
      gi_wp2
      go_end0
      rw [hend] at HJs
      first | exact ⟨⟨_, rfl⟩, .inl ⟨_, rfl, HJs.out⟩⟩ | exact ⟨⟨_, rfl⟩, .inl HJs.out⟩
end Go.Proofs.Ythckihfkhmoafaa.X
