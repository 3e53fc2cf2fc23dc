import Derived.Test.YtiogpnefnapfeaaDoorT8
/-! pairs.Resolve: what its closures set. -/
namespace Go.Proofs.YtiogpnefnapfeaaDoor.X
open Go.RowKit Go.Proofs.YtiogpnefnapfeaaDoorW.PrintWords Go.Proofs.YtiogpnefnapfeaaDoorW.PrintLast Go.Proofs.YtiogpnefnapfeaaDoorW.PrintMore Go.Proofs.YtiogpnefnapfeaaDoor.Pure
set_option linter.unusedVariables false
set_option linter.unusedSimpArgs false
set_option maxRecDepth 100000
set_option maxHeartbeats 8000000
/-- The variables that both closures share, and the row. -/
structure Bx where
  A1 : Option Addr
  c1 : Nat
  first : List Int
  g6 : Nat
  g9 : Nat
  g12 : Nat
  g13 : Nat
  g14 : Nat
  vo : Value
  mine : Int
  other : Int
  sos : Int
structure RR (w : World) (X : Bx) (out : List Int) (wr : World) : Prop where
  be : Below w.heap.size w wr
  b6 : wr.heap[X.g6]? = some (.cells #[.slice X.A1 X.first.length X.c1] 23 (0, 0))
  b9 : wr.heap[X.g9]? = some (.cells #[.int .u8 X.sos] 33 (0, 0))
  b12 : wr.heap[X.g12]? = some (.cells #[X.vo] 23 (0, 0))
  b13 : wr.heap[X.g13]? = some (.cells #[.int .u8 X.mine] 33 (0, 0))
  b14 : wr.heap[X.g14]? = some (.cells #[.int .u8 X.other] 33 (0, 0))
  ou : Kd.R (Kd.int .u8) 33 wr w.heap.size (fun k => k ≠ X.g9 ∧ k ≠ X.g13 ∧ k ≠ X.g14) X.vo out
theorem RR.step {w : World} {X : Bx} {out : List Int} {wr w2 : World} (h : RR w X out wr) (hb : Below wr.heap.size wr w2) : RR w X out w2 :=
  ⟨below_step h.be hb, blk_below h.b6 hb, blk_below h.b9 hb, blk_below h.b12 hb, blk_below h.b13 hb, blk_below h.b14 hb, Kd.R_below h.ou hb⟩
/-- The row's form, if it is not empty. -/
theorem RR.form {w : World} {X : Bx} {out : List Int} {wr : World} (h : RR w X out wr) (hn : 0 < out.length) : ∃ g c, X.vo = .slice (some ⟨g, 0, none⟩) out.length c ∧ w.heap.size ≤ g ∧ out.length ≤ c := by
  obtain ⟨h0, inner, ⟨hl, h1⟩, hr⟩ := h.ou
  rcases h1 with ⟨z, zn⟩ | ⟨g, cap, cur, hv, hb, hg, hc, _⟩
  · omega
  · exact ⟨g, cap, hv, hb, hc⟩
theorem RR.base {w : World} {X : Bx} {out : List Int} {wr : World} (h : RR w X out wr) {g n c : Nat} (hv : X.vo = .slice (some ⟨g, 0, none⟩) n c) : w.heap.size ≤ g := by
  obtain ⟨h0, inner, ⟨hl, h1⟩, hr⟩ := h.ou
  rw [hv] at h1
  rcases h1 with ⟨z, zn⟩ | ⟨g', cap, cur, hv', hb, _⟩
  · cases z
  · injection hv' with e1 _ _
    injection e1 with e1
    injection e1 with e1 _ _
    omega
theorem RR.at {w : World} {X : Bx} {out : List Int} {wr : World} (h : RR w X out wr) {g n c : Nat} (hv : X.vo = .slice (some ⟨g, 0, none⟩) n c) (i : Nat) (hi : i < out.length) :
    wr.cell? ⟨g, i, none⟩ = some (.int .u8 (out.getD i 0)) ∧ wr.frozen? ⟨g, i, none⟩ = false := by
  have h1 := h.ou
  rw [hv] at h1
  have hn := (Kd.R_reads' h1).1
  subst hn
  have := Kd.R_celln 0 h1 (i : Int) (by omega) (by omega)
  rw [Int.toNat_natCast] at this
  exact this
theorem RR.put {w : World} {X : Bx} {out : List Int} {wr : World} (h : RR w X out wr) {g n c : Nat} (hv : X.vo = .slice (some ⟨g, 0, none⟩) n c) (i : Nat) (x : Int) :
    RR w X (out.set i x) (wr.setCell ⟨g, i, none⟩ (.int .u8 x)) ∧ wr.grownBy (wr.setCell ⟨g, i, none⟩ (.int .u8 x)) (some g) := by
  have h1 := h.ou
  rw [hv] at h1
  have hn := (Kd.R_reads' h1).1
  subst hn
  have hp := Kd.R_putg h1 (i : Int) x
  rw [Int.toNat_natCast] at hp
  obtain ⟨cells, ht⟩ := Kd.R_typed h1 g rfl
  obtain ⟨q9, q13, q14⟩ := h1.1 g rfl
  have q6 : X.g6 ≠ g := by
    intro e
    have := h.b6
    rw [e, ht] at this
    injection this with this
    injection this with _ z _
    cases z
  have q12 : X.g12 ≠ g := by
    intro e
    have := h.b12
    rw [e, ht] at this
    injection this with this
    injection this with _ z _
    cases z
  have hgb := RR.base h hv
  refine ⟨⟨?_, blk_grown h.b6 hp.2 (by simpa using q6), blk_grown h.b9 hp.2 (by simpa using Ne.symm q9), blk_grown h.b12 hp.2 (by simpa using q12), blk_grown h.b13 hp.2 (by simpa using Ne.symm q13), blk_grown h.b14 hp.2 (by simpa using Ne.symm q14), by rw [hv]; exact hp.1⟩, hp.2⟩
  exact below_set h.be hgb
/-- The closure set. -/
theorem set_w {w wr : World} {X : Bx} {out : List Int} (h : RR w X out wr) (hC : ∀ W', Below w.heap.size w W' → Kd.C (Kd.int .u8) W' X.A1 X.first.length X.first) (hc1 : X.first.length ≤ X.c1) (hf : X.first.length = out.length) (hl : out.length ≤ 65536) (a : Nat) (ha : a < out.length) (c : Int) :
    Calls Tryd.prog 22 #[.int .i64 (a : Int), .int .u8 c, .pointer (some ⟨X.g12, 0, none⟩), .pointer (some ⟨X.g6, 0, none⟩)] wr fun e w' => e = .returned (.tuple #[]) ∧ RR w X (setF X.first out a c) w' ∧ wr.grownBy w' X.vo.ownBlock := by
  obtain ⟨g, cap, hv, hgb, hcap⟩ := h.form (by omega)
  have hp := h.put hv a c
  have ha1 := h.at hv a ha
  obtain ⟨x0, hx0⟩ : ∃ x, Value.int .u8 (out.getD a 0) = x := ⟨_, rfl⟩
  rw [hx0] at ha1
  obtain ⟨y1, y2⟩ := ha1
  have z1 := (blk_cell h.b12 0).trans rfl
  rw [hv] at z1
  have p0 : (0 ≤ (a : Int)) = True := eq_true (by omega)
  have p1 : ((a : Int) < (out.length : Int)) = True := eq_true (by omega)
  have p2 : (a < out.length) = True := eq_true ha
  have hab : a ≤ 65535 := by omega
  have HP := Aside0.mk hp
  have HV := Aside0.mk hv
  have HL := Aside0.mk (And.intro ha (And.intro hl (And.intro hf hc1)))
  have HC := Aside0.mk hC
  clear hp h hgb hcap hx0 hC hv ha hl hf hc1
  go_enter Tryd.func22, Tryd.ntmps22
  go_wp2
  obtain ⟨w1, hw1⟩ : ∃ w1, wr.setCell ⟨g, a, none⟩ (.int .u8 c) = w1 := ⟨_, rfl⟩
  rw [hw1] at HP ⊢
  clear hw1 y1 y2 z1 p0 p1 p2
  obtain ⟨n, hn⟩ : ∃ n, out.length = n := ⟨_, rfl⟩
  have hn65 : n ≤ 65536 := by have := HL.out; omega
  have HN := Aside0.mk hn
  clear hn
  go_loopw [6] (fun v6 w2 => ∃ (i : Nat) (o : List Int), v6 = .int .i64 (i : Int) ∧ i ≤ n ∧ Aside0 (o.length = n ∧ RR w X o w2 ∧ wr.grownBy w2 X.vo.ownBlock ∧ runF X.first c (n - i) i o = setF X.first out a c)) (fun v6 _ => n - (intOf v6).toNat)
  case atStart =>
    refine ⟨a + 1, out.set a c, (by first | rfl | go_num), by have := HL.out.1; have := HN.out; omega, ⟨by rw [List.length_set]; exact HN.out, HP.out.1, by rw [HV.out]; exact HP.out.2, ?_⟩⟩
    rw [← HN.out]
    rfl
  case round =>
    obtain ⟨i, o, rfl, hi, HO⟩ := hrel
    have z1 := (blk_cell HO.out.2.1.b12 0).trans rfl
    rw [HV.out, HN.out] at z1
    have z2 := (blk_cell HO.out.2.1.b6 0).trans rfl
    by_cases hlt : i < n
    · have dl : decide ((i : Int) < (n : Int)) = true := decide_eq_true (by omega)
      have p0 : (0 ≤ (i : Int)) = True := eq_true (by omega)
      have p1 : ((i : Int) < (n : Int)) = True := eq_true (by omega)
      have p2 : (i < n) = True := eq_true hlt
      have p3 : ((i : Int) < (X.first.length : Int)) = True := eq_true (by have := HL.out; have := HN.out; omega)
      have p4 : (i < X.first.length) = True := eq_true (by have := HL.out; have := HN.out; omega)
      obtain ⟨y1, y2⟩ := HO.out.2.1.at HV.out i (by have := HO.out.1; omega)
      obtain ⟨x, hx⟩ : ∃ x, o.getD i 0 = x := ⟨_, rfl⟩
      rw [hx] at y1
      obtain ⟨al, el, hxl⟩ := Kd.at_int (HC.out _ HO.out.2.1.be) (i : Int) (by omega) (by have := HL.out; have := HN.out; omega)
      obtain ⟨f, hf⟩ : ∃ f, X.first.getD i 0 = f := ⟨_, rfl⟩
      rw [show rd X.first (i : Int) = f from hf, Int.toNat_natCast] at hxl
      rw [el] at z2
      have hrun := HO.out.2.2.2
      rw [show n - i = (n - (i + 1)) + 1 by omega] at hrun
      unfold runF at hrun
      rw [hx, hf] at hrun
      have HR := Aside0.mk hrun
      have HI := Aside0.mk (And.intro hi hlt)
      have hib : i ≤ 65535 := by omega
      clear hrun hx hf el hi hlt
      by_cases q : x = 10
      · subst q
        go_wp2
        go_roundw
        case measure => have := HI.out; (try simp [intOf]); (try omega)
        case rel => exact ⟨i + 1, o, (by first | rfl | go_num), by have := HI.out; omega, ⟨HO.out.1, HO.out.2.1, HO.out.2.2.1, by have := HR.out; rw [if_pos (Or.inl rfl), if_neg (by simp)] at this; exact this⟩⟩
      · have e1 : (x == 10) = false := beq_eq_false_iff_ne.mpr q
        have e2 : (x != 10) = true := bne_iff_ne.mpr q
        have HQ := Aside0.mk q
        clear q
        by_cases q2 : f = 9
        · subst q2
          have hp := HO.out.2.1.put HV.out i c
          have HP2 := Aside0.mk hp
          clear hp
          go_wp2
          go_roundw
          case measure => have := HI.out; (try simp [intOf]); (try omega)
          case rel => exact ⟨i + 1, o.set i c, (by first | rfl | go_num), by have := HI.out; omega, ⟨by rw [List.length_set]; exact HO.out.1, HP2.out.1, HO.out.2.2.1.trans (by rw [HV.out]; exact HP2.out.2), by have := HR.out; rw [if_pos (Or.inr rfl), if_pos HQ.out] at this; exact this⟩⟩
        · have e3 : (f == 9) = false := beq_eq_false_iff_ne.mpr q2
          have HQ2 := Aside0.mk q2
          clear q2
          go_wp2
          go_end0
          have hr := HR.out
          rw [if_neg (by rintro (z | z); exact HQ.out z; exact HQ2.out z)] at hr
          exact ⟨rfl, by rw [← hr]; exact HO.out.2.1, HO.out.2.2.1⟩
    · have dl : decide ((i : Int) < (n : Int)) = false := decide_eq_false (by omega)
      obtain rfl : i = n := by omega
      clear hlt hi
      go_wp2
      go_end0
      have hr := HO.out.2.2.2
      rw [Nat.sub_self] at hr
      exact ⟨rfl, by rw [← hr]; exact HO.out.2.1, HO.out.2.2.1⟩
end Go.Proofs.YtiogpnefnapfeaaDoor.X
