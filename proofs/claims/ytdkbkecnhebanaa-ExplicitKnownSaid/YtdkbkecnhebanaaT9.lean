import Derived.Test.YtdkbkecnhebanaaT8
/-! explicit.state's take, on the stack. -/
namespace Go.Proofs.Ytdkbkecnhebanaa.X
open Go.RowKit Go.Proofs.YtdkbkecnhebanaaW.PrintWords Go.Proofs.YtdkbkecnhebanaaW.PrintLast Go.Proofs.YtdkbkecnhebanaaW.PrintMore
attribute [local go_sem] max2_int min2_int max_two min_two max_three min_three max_four min_four
set_option linter.unusedVariables false
set_option linter.unusedSimpArgs false
def embA (a : Sk) (side ov : Int) : Sk := if (pushA a side ov false).2 = false ∧ (pushA a side ov false).1.iso = 0 then { (pushA a side ov false).1 with emb := (pushA a side ov false).1.emb + 1 } else (pushA a side ov false).1
def isoA (a : Sk) (side : Int) : Sk := if (pushA a side 0 true).2 = true then { (pushA a side 0 true).1 with val := (pushA a side 0 true).1.val + 1 } else { (pushA a side 0 true).1 with iso := (pushA a side 0 true).1.iso + 1 }
/-- What a class of a text does to the stack; d: what an FSI is of. -/
def takeA (a : Sk) (c d : Int) : Sk :=
  if c = 18 then embA a 2 2 else if c = 16 then embA a 2 0 else if c = 15 then embA a 1 0 else if c = 17 then embA a 1 1
  else if c = 20 then isoA a 1 else if c = 21 then isoA a 2 else if c = 22 then isoA a d else if c = 19 then pdfA a else a
theorem Holds.below {w w1 : World} {g : Nat} {a : Sk} (h : Holds w g a) (hb : Below w.heap.size w w1) : Holds w1 g a := by
  obtain ⟨C, h1, h2⟩ := h
  exact ⟨C, (hb.block g (blk_lt h1)).trans h1, h2⟩
theorem Holds.alloc {w : World} {g : Nat} {a : Sk} (h : Holds w g a) (o : Obj) : Holds (w.alloc o) g a := h.below ((Below.refl _ _).alloc (Nat.le_refl _) o)
theorem Holds.drewN {w : World} {g : Nat} {a : Sk} (h : Holds w g a) (n : Nat) : Holds (w.drewN n) g a := h
theorem below_undrew {w w1 : World} (h : Below w.drew.heap.size w.drew w1) : Below w.heap.size w w1 := ⟨h.os, h.tape, h.output, h.size, h.block⟩
theorem grown_then {u v w : World} {r : Option Nat} (h : u.grownBy v r) (k : v.grownBy w r) : u.grownBy w r :=
  ⟨k.1.trans h.1, k.2.trans h.2, k.3.trans h.3, Nat.le_trans h.4 k.4, fun i hi hne => (k.5 i (Nat.lt_of_lt_of_le hi h.4) hne).trans (h.5 i hi hne)⟩
theorem grown_alloc (w : World) (o : Obj) (r : Option Nat) : w.grownBy (w.alloc o) r :=
  ⟨rfl, rfl, rfl, by simp, fun i hi _ => Below.heap_alloc w o i hi⟩
theorem grown_below {w w1 : World} (h : Below w.heap.size w w1) (r : Option Nat) : w.grownBy w1 r := ⟨h.os, h.tape, h.output, h.size, fun i hi _ => h.block i hi⟩
theorem pushA_len (a : Sk) (c o : Int) (i : Bool) (h : (pushA a c o i).1.val ≤ 9223372036854775806) : True := trivial
theorem pushA_same (a : Sk) (c o : Int) (i : Bool) : (pushA a c o i).1.iso = a.iso ∧ (pushA a c o i).1.emb = a.emb ∧ (pushA a c o i).1.val = a.val := by
  unfold pushA
  split
  · exact ⟨rfl, rfl, rfl⟩
  · split <;> exact ⟨rfl, rfl, rfl⟩
set_option maxHeartbeats 2000000 in
set_option maxRecDepth 100000 in
theorem take_c18 (g : Nat) (a : Sk) (m : Int) (hm : m ≤ 1000000) (ha : Wf a m) (W : World) (h : Holds W g a) (ad : Addr) (n0 c0 n1 c1 : Nat) (A1 : Option Addr) (i : Int) (hi0 : 0 ≤ i) (hi : i < n0)
    (hx : W.cell? (ad.add i.toNat) = some (.int .u8 18)) :
    Calls Try.prog 29 #[.pointer (some ⟨g, 0, none⟩), .agg #[.slice (some ad) n0 c0, .slice A1 n1 c1], .int .i64 i] W fun e w' => Ret0 e (Holds w' g (embA a 2 2) ∧ W.grownBy w' (some g)) := by
  have hx1 : (W.alloc (.cells #[.slice (some ad) n0 c0, .slice A1 n1 c1] 40)).cell? (ad.add i.toNat) = some (.int .u8 18) := (((Below.refl _ _).alloc (Nat.le_refl _) _).cell (World.block_lt_of_cell? W _ hx)).trans hx
  have HH := Aside0.mk h
  have HM := Aside0.mk (And.intro hm ha)
  have e0 := ha.e0
  have e1 := ha.e1
  have i0 := ha.i0
  have i1 := ha.i1
  have hu40 := Try.underlying40
  clear h hx
  have d0 : decide (0 ≤ i) = true := decide_eq_true hi0
  have d1 : decide (i < (n0 : Int)) = true := decide_eq_true hi
  clear ha
  go_enter Try.func29, Try.ntmps29
  go_wp2_with (go_at_call 37; refine (push_c g a m HM.out.1 HM.out.2 2 2 (.inr rfl) false _ (HH.out.alloc _)).mono ?_)
  rintro e w1 ⟨rfl, ⟨C1, hb1, hC1⟩, hg1⟩
  have hs := pushA_same a 2 2 false
  have HG := Aside0.mk (grown_then (grown_alloc W (.cells #[.slice (some ad) n0 c0, .slice A1 n1 c1] 40) (some g)) hg1)
  have HE : Aside0 (∀ a1 b, pushA a 2 2 false = (a1, b) → embA a 2 2 = if b = false ∧ a1.iso = 0 then { a1 with emb := a1.emb + 1 } else a1) := ⟨fun a1 b h => by unfold embA; rw [h]⟩
  clear hg1
  generalize hp : pushA a 2 2 false = p at *
  obtain ⟨a1, b⟩ := p
  replace HE := Aside0.mk (HE.out a1 b rfl)
  obtain ⟨s1, s2, s3⟩ := hs
  simp only at s1 s2 s3 hC1
  have hC2 := hC1
  obtain ⟨k0, k1, k2, k3, k4, k5, k6⟩ := hC2
  have x2 := (blk_cell hb1 382).trans k3
  have x3 := (blk_cell hb1 383).trans k4
  have f3 := blk_frozen hb1 383
  have b0 : a1.emb + 1 ≤ 9223372036854775807 := by omega
  have b2 : -9223372036854775808 ≤ a1.emb + 1 := by omega
  have HB := Aside0.mk (And.intro hb1 (And.intro hC1 (hC1.emb (a1.emb + 1))))
  clear hb1 hC1 k0 k1 k2 k3 k4 k5 k6 hp s1 s2 s3
  cases b with
  | true =>
    rw [if_neg (fun q => Bool.noConfusion q.1)] at HE
    go_wp2
    go_end0
    exact ⟨rfl, ⟨C1, HB.out.1, by rw [HE.out]; exact HB.out.2.1⟩, HG.out⟩
  | false =>
    by_cases hz : a1.iso = 0
    · have hzb : (a1.iso == 0) = true := by rw [hz]; rfl
      rw [if_pos ⟨rfl, hz⟩] at HE
      clear hz
      generalize a1.iso = ai at x2 hzb
      generalize hq : a1.emb = ae at x3 b0 b2 HB HE
      clear hq
      go_wp2
      go_end0
      exact ⟨rfl, ⟨_, blk_set HB.out.1 _ _, by rw [HE.out]; exact HB.out.2.2⟩, grown_more HG.out _ _⟩
    · have hzb : (a1.iso == 0) = false := by simpa using hz
      rw [if_neg (fun q => hz q.2)] at HE
      clear hz
      generalize a1.iso = ai at x2 hzb
      go_wp2
      go_end0
      exact ⟨rfl, ⟨C1, HB.out.1, by rw [HE.out]; exact HB.out.2.1⟩, HG.out⟩
set_option maxHeartbeats 2000000 in
set_option maxRecDepth 100000 in
theorem take_c16 (g : Nat) (a : Sk) (m : Int) (hm : m ≤ 1000000) (ha : Wf a m) (W : World) (h : Holds W g a) (ad : Addr) (n0 c0 n1 c1 : Nat) (A1 : Option Addr) (i : Int) (hi0 : 0 ≤ i) (hi : i < n0)
    (hx : W.cell? (ad.add i.toNat) = some (.int .u8 16)) :
    Calls Try.prog 29 #[.pointer (some ⟨g, 0, none⟩), .agg #[.slice (some ad) n0 c0, .slice A1 n1 c1], .int .i64 i] W fun e w' => Ret0 e (Holds w' g (embA a 2 0) ∧ W.grownBy w' (some g)) := by
  have hx1 : (W.alloc (.cells #[.slice (some ad) n0 c0, .slice A1 n1 c1] 40)).cell? (ad.add i.toNat) = some (.int .u8 16) := (((Below.refl _ _).alloc (Nat.le_refl _) _).cell (World.block_lt_of_cell? W _ hx)).trans hx
  have HH := Aside0.mk h
  have HM := Aside0.mk (And.intro hm ha)
  have e0 := ha.e0
  have e1 := ha.e1
  have i0 := ha.i0
  have i1 := ha.i1
  have hu40 := Try.underlying40
  clear h hx
  have d0 : decide (0 ≤ i) = true := decide_eq_true hi0
  have d1 : decide (i < (n0 : Int)) = true := decide_eq_true hi
  clear ha
  go_enter Try.func29, Try.ntmps29
  go_wp2_with (go_at_call 37; refine (push_c g a m HM.out.1 HM.out.2 2 0 (.inr rfl) false _ (HH.out.alloc _)).mono ?_)
  rintro e w1 ⟨rfl, ⟨C1, hb1, hC1⟩, hg1⟩
  have hs := pushA_same a 2 0 false
  have HG := Aside0.mk (grown_then (grown_alloc W (.cells #[.slice (some ad) n0 c0, .slice A1 n1 c1] 40) (some g)) hg1)
  have HE : Aside0 (∀ a1 b, pushA a 2 0 false = (a1, b) → embA a 2 0 = if b = false ∧ a1.iso = 0 then { a1 with emb := a1.emb + 1 } else a1) := ⟨fun a1 b h => by unfold embA; rw [h]⟩
  clear hg1
  generalize hp : pushA a 2 0 false = p at *
  obtain ⟨a1, b⟩ := p
  replace HE := Aside0.mk (HE.out a1 b rfl)
  obtain ⟨s1, s2, s3⟩ := hs
  simp only at s1 s2 s3 hC1
  have hC2 := hC1
  obtain ⟨k0, k1, k2, k3, k4, k5, k6⟩ := hC2
  have x2 := (blk_cell hb1 382).trans k3
  have x3 := (blk_cell hb1 383).trans k4
  have f3 := blk_frozen hb1 383
  have b0 : a1.emb + 1 ≤ 9223372036854775807 := by omega
  have b2 : -9223372036854775808 ≤ a1.emb + 1 := by omega
  have HB := Aside0.mk (And.intro hb1 (And.intro hC1 (hC1.emb (a1.emb + 1))))
  clear hb1 hC1 k0 k1 k2 k3 k4 k5 k6 hp s1 s2 s3
  cases b with
  | true =>
    rw [if_neg (fun q => Bool.noConfusion q.1)] at HE
    go_wp2
    go_end0
    exact ⟨rfl, ⟨C1, HB.out.1, by rw [HE.out]; exact HB.out.2.1⟩, HG.out⟩
  | false =>
    by_cases hz : a1.iso = 0
    · have hzb : (a1.iso == 0) = true := by rw [hz]; rfl
      rw [if_pos ⟨rfl, hz⟩] at HE
      clear hz
      generalize a1.iso = ai at x2 hzb
      generalize hq : a1.emb = ae at x3 b0 b2 HB HE
      clear hq
      go_wp2
      go_end0
      exact ⟨rfl, ⟨_, blk_set HB.out.1 _ _, by rw [HE.out]; exact HB.out.2.2⟩, grown_more HG.out _ _⟩
    · have hzb : (a1.iso == 0) = false := by simpa using hz
      rw [if_neg (fun q => hz q.2)] at HE
      clear hz
      generalize a1.iso = ai at x2 hzb
      go_wp2
      go_end0
      exact ⟨rfl, ⟨C1, HB.out.1, by rw [HE.out]; exact HB.out.2.1⟩, HG.out⟩
set_option maxHeartbeats 2000000 in
set_option maxRecDepth 100000 in
theorem take_c15 (g : Nat) (a : Sk) (m : Int) (hm : m ≤ 1000000) (ha : Wf a m) (W : World) (h : Holds W g a) (ad : Addr) (n0 c0 n1 c1 : Nat) (A1 : Option Addr) (i : Int) (hi0 : 0 ≤ i) (hi : i < n0)
    (hx : W.cell? (ad.add i.toNat) = some (.int .u8 15)) :
    Calls Try.prog 29 #[.pointer (some ⟨g, 0, none⟩), .agg #[.slice (some ad) n0 c0, .slice A1 n1 c1], .int .i64 i] W fun e w' => Ret0 e (Holds w' g (embA a 1 0) ∧ W.grownBy w' (some g)) := by
  have hx1 : (W.alloc (.cells #[.slice (some ad) n0 c0, .slice A1 n1 c1] 40)).cell? (ad.add i.toNat) = some (.int .u8 15) := (((Below.refl _ _).alloc (Nat.le_refl _) _).cell (World.block_lt_of_cell? W _ hx)).trans hx
  have HH := Aside0.mk h
  have HM := Aside0.mk (And.intro hm ha)
  have e0 := ha.e0
  have e1 := ha.e1
  have i0 := ha.i0
  have i1 := ha.i1
  have hu40 := Try.underlying40
  clear h hx
  have d0 : decide (0 ≤ i) = true := decide_eq_true hi0
  have d1 : decide (i < (n0 : Int)) = true := decide_eq_true hi
  clear ha
  go_enter Try.func29, Try.ntmps29
  go_wp2_with (go_at_call 37; refine (push_c g a m HM.out.1 HM.out.2 1 0 (.inl rfl) false _ (HH.out.alloc _)).mono ?_)
  rintro e w1 ⟨rfl, ⟨C1, hb1, hC1⟩, hg1⟩
  have hs := pushA_same a 1 0 false
  have HG := Aside0.mk (grown_then (grown_alloc W (.cells #[.slice (some ad) n0 c0, .slice A1 n1 c1] 40) (some g)) hg1)
  have HE : Aside0 (∀ a1 b, pushA a 1 0 false = (a1, b) → embA a 1 0 = if b = false ∧ a1.iso = 0 then { a1 with emb := a1.emb + 1 } else a1) := ⟨fun a1 b h => by unfold embA; rw [h]⟩
  clear hg1
  generalize hp : pushA a 1 0 false = p at *
  obtain ⟨a1, b⟩ := p
  replace HE := Aside0.mk (HE.out a1 b rfl)
  obtain ⟨s1, s2, s3⟩ := hs
  simp only at s1 s2 s3 hC1
  have hC2 := hC1
  obtain ⟨k0, k1, k2, k3, k4, k5, k6⟩ := hC2
  have x2 := (blk_cell hb1 382).trans k3
  have x3 := (blk_cell hb1 383).trans k4
  have f3 := blk_frozen hb1 383
  have b0 : a1.emb + 1 ≤ 9223372036854775807 := by omega
  have b2 : -9223372036854775808 ≤ a1.emb + 1 := by omega
  have HB := Aside0.mk (And.intro hb1 (And.intro hC1 (hC1.emb (a1.emb + 1))))
  clear hb1 hC1 k0 k1 k2 k3 k4 k5 k6 hp s1 s2 s3
  cases b with
  | true =>
    rw [if_neg (fun q => Bool.noConfusion q.1)] at HE
    go_wp2
    go_end0
    exact ⟨rfl, ⟨C1, HB.out.1, by rw [HE.out]; exact HB.out.2.1⟩, HG.out⟩
  | false =>
    by_cases hz : a1.iso = 0
    · have hzb : (a1.iso == 0) = true := by rw [hz]; rfl
      rw [if_pos ⟨rfl, hz⟩] at HE
      clear hz
      generalize a1.iso = ai at x2 hzb
      generalize hq : a1.emb = ae at x3 b0 b2 HB HE
      clear hq
      go_wp2
      go_end0
      exact ⟨rfl, ⟨_, blk_set HB.out.1 _ _, by rw [HE.out]; exact HB.out.2.2⟩, grown_more HG.out _ _⟩
    · have hzb : (a1.iso == 0) = false := by simpa using hz
      rw [if_neg (fun q => hz q.2)] at HE
      clear hz
      generalize a1.iso = ai at x2 hzb
      go_wp2
      go_end0
      exact ⟨rfl, ⟨C1, HB.out.1, by rw [HE.out]; exact HB.out.2.1⟩, HG.out⟩
set_option maxHeartbeats 2000000 in
set_option maxRecDepth 100000 in
theorem take_c17 (g : Nat) (a : Sk) (m : Int) (hm : m ≤ 1000000) (ha : Wf a m) (W : World) (h : Holds W g a) (ad : Addr) (n0 c0 n1 c1 : Nat) (A1 : Option Addr) (i : Int) (hi0 : 0 ≤ i) (hi : i < n0)
    (hx : W.cell? (ad.add i.toNat) = some (.int .u8 17)) :
    Calls Try.prog 29 #[.pointer (some ⟨g, 0, none⟩), .agg #[.slice (some ad) n0 c0, .slice A1 n1 c1], .int .i64 i] W fun e w' => Ret0 e (Holds w' g (embA a 1 1) ∧ W.grownBy w' (some g)) := by
  have hx1 : (W.alloc (.cells #[.slice (some ad) n0 c0, .slice A1 n1 c1] 40)).cell? (ad.add i.toNat) = some (.int .u8 17) := (((Below.refl _ _).alloc (Nat.le_refl _) _).cell (World.block_lt_of_cell? W _ hx)).trans hx
  have HH := Aside0.mk h
  have HM := Aside0.mk (And.intro hm ha)
  have e0 := ha.e0
  have e1 := ha.e1
  have i0 := ha.i0
  have i1 := ha.i1
  have hu40 := Try.underlying40
  clear h hx
  have d0 : decide (0 ≤ i) = true := decide_eq_true hi0
  have d1 : decide (i < (n0 : Int)) = true := decide_eq_true hi
  clear ha
  go_enter Try.func29, Try.ntmps29
  go_wp2_with (go_at_call 37; refine (push_c g a m HM.out.1 HM.out.2 1 1 (.inl rfl) false _ (HH.out.alloc _)).mono ?_)
  rintro e w1 ⟨rfl, ⟨C1, hb1, hC1⟩, hg1⟩
  have hs := pushA_same a 1 1 false
  have HG := Aside0.mk (grown_then (grown_alloc W (.cells #[.slice (some ad) n0 c0, .slice A1 n1 c1] 40) (some g)) hg1)
  have HE : Aside0 (∀ a1 b, pushA a 1 1 false = (a1, b) → embA a 1 1 = if b = false ∧ a1.iso = 0 then { a1 with emb := a1.emb + 1 } else a1) := ⟨fun a1 b h => by unfold embA; rw [h]⟩
  clear hg1
  generalize hp : pushA a 1 1 false = p at *
  obtain ⟨a1, b⟩ := p
  replace HE := Aside0.mk (HE.out a1 b rfl)
  obtain ⟨s1, s2, s3⟩ := hs
  simp only at s1 s2 s3 hC1
  have hC2 := hC1
  obtain ⟨k0, k1, k2, k3, k4, k5, k6⟩ := hC2
  have x2 := (blk_cell hb1 382).trans k3
  have x3 := (blk_cell hb1 383).trans k4
  have f3 := blk_frozen hb1 383
  have b0 : a1.emb + 1 ≤ 9223372036854775807 := by omega
  have b2 : -9223372036854775808 ≤ a1.emb + 1 := by omega
  have HB := Aside0.mk (And.intro hb1 (And.intro hC1 (hC1.emb (a1.emb + 1))))
  clear hb1 hC1 k0 k1 k2 k3 k4 k5 k6 hp s1 s2 s3
  cases b with
  | true =>
    rw [if_neg (fun q => Bool.noConfusion q.1)] at HE
    go_wp2
    go_end0
    exact ⟨rfl, ⟨C1, HB.out.1, by rw [HE.out]; exact HB.out.2.1⟩, HG.out⟩
  | false =>
    by_cases hz : a1.iso = 0
    · have hzb : (a1.iso == 0) = true := by rw [hz]; rfl
      rw [if_pos ⟨rfl, hz⟩] at HE
      clear hz
      generalize a1.iso = ai at x2 hzb
      generalize hq : a1.emb = ae at x3 b0 b2 HB HE
      clear hq
      go_wp2
      go_end0
      exact ⟨rfl, ⟨_, blk_set HB.out.1 _ _, by rw [HE.out]; exact HB.out.2.2⟩, grown_more HG.out _ _⟩
    · have hzb : (a1.iso == 0) = false := by simpa using hz
      rw [if_neg (fun q => hz q.2)] at HE
      clear hz
      generalize a1.iso = ai at x2 hzb
      go_wp2
      go_end0
      exact ⟨rfl, ⟨C1, HB.out.1, by rw [HE.out]; exact HB.out.2.1⟩, HG.out⟩
set_option maxHeartbeats 2000000 in
set_option maxRecDepth 100000 in
theorem take_c20 (g : Nat) (a : Sk) (m : Int) (hm : m ≤ 1000000) (ha : Wf a m) (W : World) (h : Holds W g a) (ad : Addr) (n0 c0 n1 c1 : Nat) (A1 : Option Addr) (i : Int) (hi0 : 0 ≤ i) (hi : i < n0)
    (hx : W.cell? (ad.add i.toNat) = some (.int .u8 20)) {Ch : Array Value} (h127 : RepC Ch a) :
    Calls Try.prog 29 #[.pointer (some ⟨g, 0, none⟩), .agg #[.slice (some ad) n0 c0, .slice A1 n1 c1], .int .i64 i] W fun e w' => Ret0 e (Holds w' g (isoA a 1) ∧ W.grownBy w' (some g)) := by
  have hx1 : (W.alloc (.cells #[.slice (some ad) n0 c0, .slice A1 n1 c1] 40)).cell? (ad.add i.toNat) = some (.int .u8 20) := (((Below.refl _ _).alloc (Nat.le_refl _) _).cell (World.block_lt_of_cell? W _ hx)).trans hx
  have HH := Aside0.mk h
  have HM := Aside0.mk (And.intro hm ha)
  have e0 := ha.e0
  have e1 := ha.e1
  have i0 := ha.i0
  have i1 := ha.i1
  have hu40 := Try.underlying40
  clear h hx
  have d0 : decide (0 ≤ i) = true := decide_eq_true hi0
  have d1 : decide (i < (n0 : Int)) = true := decide_eq_true hi
  have hvl := ha.vl
  have hv0 := isoN_nonneg a.es
  have hv1 := isoN_le a.es
  have hlen : a.es.length ≤ 127 := h127.2.1
  clear ha h127
  go_enter Try.func29, Try.ntmps29
  go_wp2
  go_quiet (fail)
  go_wp2_with (go_at_call 37; refine (push_c g a m HM.out.1 HM.out.2 1 0 (.inl rfl) true _ (((HH.out.alloc _).drewN _))).mono ?_)
  rintro e w1 ⟨rfl, ⟨C1, hb1, hC1⟩, hg1⟩
  have hs := pushA_same a 1 0 true
  have HG := Aside0.mk (grown_then (grown_alloc W (.cells #[.slice (some ad) n0 c0, .slice A1 n1 c1] 40) (some g)) (grown_drewN hg1))
  have HE : Aside0 (∀ a1 b, pushA a 1 0 true = (a1, b) → isoA a 1 = if b = true then { a1 with val := a1.val + 1 } else { a1 with iso := a1.iso + 1 }) := ⟨fun a1 b h => by unfold isoA; rw [h]⟩
  clear hg1
  generalize hp : pushA a 1 0 true = p at *
  obtain ⟨a1, b⟩ := p
  replace HE := Aside0.mk (HE.out a1 b rfl)
  obtain ⟨s1, s2, s3⟩ := hs
  simp only at s1 s2 s3 hC1
  have hC2 := hC1
  obtain ⟨k0, k1, k2, k3, k4, k5, k6⟩ := hC2
  have x2 := (blk_cell hb1 382).trans k3
  have x4 := (blk_cell hb1 384).trans k5
  have f2 := blk_frozen hb1 382
  have f4 := blk_frozen hb1 384
  have b0 : a1.iso + 1 ≤ 9223372036854775807 := by omega
  have b1 : a1.val + 1 ≤ 9223372036854775807 := by omega
  have b2 : -9223372036854775808 ≤ a1.iso + 1 := by omega
  have b3 : -9223372036854775808 ≤ a1.val + 1 := by omega
  have HB := Aside0.mk (And.intro hb1 (And.intro (hC1.iso (a1.iso + 1)) (hC1.val (a1.val + 1))))
  clear hb1 hC1 k0 k1 k2 k3 k4 k5 k6 hp s1 s2 s3 hvl hv0 hv1
  cases b with
  | true =>
    rw [if_pos rfl] at HE
    generalize hq : a1.val = av at x4 b1 b3 HB HE
    clear hq
    go_wp2
    go_end0
    exact ⟨rfl, ⟨_, blk_set HB.out.1 _ _, by rw [HE.out]; exact HB.out.2.2⟩, grown_more HG.out _ _⟩
  | false =>
    rw [if_neg (fun q => Bool.noConfusion q)] at HE
    generalize hq : a1.iso = ai at x2 b0 b2 HB HE
    clear hq
    go_wp2
    go_end0
    exact ⟨rfl, ⟨_, blk_set HB.out.1 _ _, by rw [HE.out]; exact HB.out.2.1⟩, grown_more HG.out _ _⟩
set_option maxHeartbeats 2000000 in
set_option maxRecDepth 100000 in
theorem take_c21 (g : Nat) (a : Sk) (m : Int) (hm : m ≤ 1000000) (ha : Wf a m) (W : World) (h : Holds W g a) (ad : Addr) (n0 c0 n1 c1 : Nat) (A1 : Option Addr) (i : Int) (hi0 : 0 ≤ i) (hi : i < n0)
    (hx : W.cell? (ad.add i.toNat) = some (.int .u8 21)) {Ch : Array Value} (h127 : RepC Ch a) :
    Calls Try.prog 29 #[.pointer (some ⟨g, 0, none⟩), .agg #[.slice (some ad) n0 c0, .slice A1 n1 c1], .int .i64 i] W fun e w' => Ret0 e (Holds w' g (isoA a 2) ∧ W.grownBy w' (some g)) := by
  have hx1 : (W.alloc (.cells #[.slice (some ad) n0 c0, .slice A1 n1 c1] 40)).cell? (ad.add i.toNat) = some (.int .u8 21) := (((Below.refl _ _).alloc (Nat.le_refl _) _).cell (World.block_lt_of_cell? W _ hx)).trans hx
  have HH := Aside0.mk h
  have HM := Aside0.mk (And.intro hm ha)
  have e0 := ha.e0
  have e1 := ha.e1
  have i0 := ha.i0
  have i1 := ha.i1
  have hu40 := Try.underlying40
  clear h hx
  have d0 : decide (0 ≤ i) = true := decide_eq_true hi0
  have d1 : decide (i < (n0 : Int)) = true := decide_eq_true hi
  have hvl := ha.vl
  have hv0 := isoN_nonneg a.es
  have hv1 := isoN_le a.es
  have hlen : a.es.length ≤ 127 := h127.2.1
  clear ha h127
  go_enter Try.func29, Try.ntmps29
  go_wp2
  go_quiet (fail)
  go_wp2_with (go_at_call 37; refine (push_c g a m HM.out.1 HM.out.2 2 0 (.inr rfl) true _ (((HH.out.alloc _).drewN _))).mono ?_)
  rintro e w1 ⟨rfl, ⟨C1, hb1, hC1⟩, hg1⟩
  have hs := pushA_same a 2 0 true
  have HG := Aside0.mk (grown_then (grown_alloc W (.cells #[.slice (some ad) n0 c0, .slice A1 n1 c1] 40) (some g)) (grown_drewN hg1))
  have HE : Aside0 (∀ a1 b, pushA a 2 0 true = (a1, b) → isoA a 2 = if b = true then { a1 with val := a1.val + 1 } else { a1 with iso := a1.iso + 1 }) := ⟨fun a1 b h => by unfold isoA; rw [h]⟩
  clear hg1
  generalize hp : pushA a 2 0 true = p at *
  obtain ⟨a1, b⟩ := p
  replace HE := Aside0.mk (HE.out a1 b rfl)
  obtain ⟨s1, s2, s3⟩ := hs
  simp only at s1 s2 s3 hC1
  have hC2 := hC1
  obtain ⟨k0, k1, k2, k3, k4, k5, k6⟩ := hC2
  have x2 := (blk_cell hb1 382).trans k3
  have x4 := (blk_cell hb1 384).trans k5
  have f2 := blk_frozen hb1 382
  have f4 := blk_frozen hb1 384
  have b0 : a1.iso + 1 ≤ 9223372036854775807 := by omega
  have b1 : a1.val + 1 ≤ 9223372036854775807 := by omega
  have b2 : -9223372036854775808 ≤ a1.iso + 1 := by omega
  have b3 : -9223372036854775808 ≤ a1.val + 1 := by omega
  have HB := Aside0.mk (And.intro hb1 (And.intro (hC1.iso (a1.iso + 1)) (hC1.val (a1.val + 1))))
  clear hb1 hC1 k0 k1 k2 k3 k4 k5 k6 hp s1 s2 s3 hvl hv0 hv1
  cases b with
  | true =>
    rw [if_pos rfl] at HE
    generalize hq : a1.val = av at x4 b1 b3 HB HE
    clear hq
    go_wp2
    go_end0
    exact ⟨rfl, ⟨_, blk_set HB.out.1 _ _, by rw [HE.out]; exact HB.out.2.2⟩, grown_more HG.out _ _⟩
  | false =>
    rw [if_neg (fun q => Bool.noConfusion q)] at HE
    generalize hq : a1.iso = ai at x2 b0 b2 HB HE
    clear hq
    go_wp2
    go_end0
    exact ⟨rfl, ⟨_, blk_set HB.out.1 _ _, by rw [HE.out]; exact HB.out.2.1⟩, grown_more HG.out _ _⟩
set_option maxHeartbeats 2000000 in
set_option maxRecDepth 100000 in
theorem take_c19 (g : Nat) (a : Sk) (m : Int) (hm : m ≤ 1000000) (ha : Wf a m) (W : World) (h : Holds W g a) (ad : Addr) (n0 c0 n1 c1 : Nat) (A1 : Option Addr) (i : Int) (hi0 : 0 ≤ i) (hi : i < n0)
    (hx : W.cell? (ad.add i.toNat) = some (.int .u8 19)) :
    Calls Try.prog 29 #[.pointer (some ⟨g, 0, none⟩), .agg #[.slice (some ad) n0 c0, .slice A1 n1 c1], .int .i64 i] W fun e w' => Ret0 e (Holds w' g (pdfA a) ∧ W.grownBy w' (some g)) := by
  have hx1 : (W.alloc (.cells #[.slice (some ad) n0 c0, .slice A1 n1 c1] 40)).cell? (ad.add i.toNat) = some (.int .u8 19) := (((Below.refl _ _).alloc (Nat.le_refl _) _).cell (World.block_lt_of_cell? W _ hx)).trans hx
  have HH := Aside0.mk h
  have HM := Aside0.mk (And.intro hm ha)
  have e0 := ha.e0
  have e1 := ha.e1
  have i0 := ha.i0
  have i1 := ha.i1
  have hu40 := Try.underlying40
  clear h hx
  have d0 : decide (0 ≤ i) = true := decide_eq_true hi0
  have d1 : decide (i < (n0 : Int)) = true := decide_eq_true hi
  clear ha
  go_enter Try.func29, Try.ntmps29
  go_wp2_with (go_at_call 39; refine (pdf_c2 g a m HM.out.1 HM.out.2 _ (HH.out.alloc _)).mono ?_)
  rintro e w1 ⟨rfl, hH, hg1⟩
  have HG := Aside0.mk (And.intro hH (grown_then (grown_alloc W (.cells #[.slice (some ad) n0 c0, .slice A1 n1 c1] 40) (some g)) hg1))
  clear hH hg1
  go_wp2
  go_end0
  exact ⟨rfl, HG.out⟩
set_option maxHeartbeats 2000000 in
set_option maxRecDepth 100000 in
theorem take_none (g : Nat) (a : Sk) (m : Int) (hm : m ≤ 1000000) (ha : Wf a m) (W : World) (h : Holds W g a) (ad : Addr) (n0 c0 n1 c1 : Nat) (A1 : Option Addr) (i c : Int) (hi0 : 0 ≤ i) (hi : i < n0)
    (hx : W.cell? (ad.add i.toNat) = some (.int .u8 c)) (hc : (c == 15) = false ∧ (c == 16) = false ∧ (c == 17) = false ∧ (c == 18) = false ∧ (c == 19) = false ∧ (c == 20) = false ∧ (c == 21) = false ∧ (c == 22) = false) :
    Calls Try.prog 29 #[.pointer (some ⟨g, 0, none⟩), .agg #[.slice (some ad) n0 c0, .slice A1 n1 c1], .int .i64 i] W fun e w' => Ret0 e (Holds w' g (a) ∧ W.grownBy w' (some g)) := by
  have hx1 : (W.alloc (.cells #[.slice (some ad) n0 c0, .slice A1 n1 c1] 40)).cell? (ad.add i.toNat) = some (.int .u8 c) := (((Below.refl _ _).alloc (Nat.le_refl _) _).cell (World.block_lt_of_cell? W _ hx)).trans hx
  have HH := Aside0.mk h
  have HM := Aside0.mk (And.intro hm ha)
  have e0 := ha.e0
  have e1 := ha.e1
  have i0 := ha.i0
  have i1 := ha.i1
  have hu40 := Try.underlying40
  clear h hx
  have d0 : decide (0 ≤ i) = true := decide_eq_true hi0
  have d1 : decide (i < (n0 : Int)) = true := decide_eq_true hi
  clear ha
  obtain ⟨q1, q2, q3, q4, q5, q6, q7, q8⟩ := hc
  go_enter Try.func29, Try.ntmps29
  go_wp2
  go_end0
  exact ⟨rfl, HH.out.alloc _, grown_alloc _ _ _⟩
set_option maxHeartbeats 2000000 in
set_option maxRecDepth 100000 in
theorem take_c22 (g : Nat) (a : Sk) (m : Int) (hm : m ≤ 1000000) (ha : Wf a m) (W : World) (h : Holds W g a) (ad : Addr) (c0 c1 : Nat) (A1 : Option Addr) (l mt : List Int) (i : Int) (hi0 : 0 ≤ i) (hi : i < l.length)
    (hx : W.cell? (ad.add i.toNat) = some (.int .u8 22))
    (hr0 : Kd.C (Kd.int .u8) W (some ad) l.length l) (hc0 : l.length ≤ c0) (hr1 : Kd.C (Kd.int .i64) W A1 mt.length mt) (hc1 : mt.length ≤ c1) (k : Nat) (en d : Int) (hfe : explicit_text_end.f l mt i = some en) (hff : explicit_text_first.f k l mt (i + 1) en = some d) (hd : d = 1 ∨ d = 2) {Ch : Array Value} (h127 : RepC Ch a) :
    Calls Try.prog 29 #[.pointer (some ⟨g, 0, none⟩), .agg #[.slice (some ad) l.length c0, .slice A1 mt.length c1], .int .i64 i] W fun e w' => Ret0 e (Holds w' g (isoA a d) ∧ W.grownBy w' (some g)) := by
  have hx1 : (W.alloc (.cells #[.slice (some ad) l.length c0, .slice A1 mt.length c1] 40)).cell? (ad.add i.toNat) = some (.int .u8 22) := (((Below.refl _ _).alloc (Nat.le_refl _) _).cell (World.block_lt_of_cell? W _ hx)).trans hx
  have HH := Aside0.mk h
  have HM := Aside0.mk (And.intro hm ha)
  have e0 := ha.e0
  have e1 := ha.e1
  have i0 := ha.i0
  have i1 := ha.i1
  have hu40 := Try.underlying40
  clear h hx
  have d0 : decide (0 ≤ i) = true := decide_eq_true hi0
  have d1 : decide (i < (l.length : Int)) = true := decide_eq_true hi
  have hvl := ha.vl
  have hv0 := isoN_nonneg a.es
  have hv1 := isoN_le a.es
  have hlen : a.es.length ≤ 127 := h127.2.1
  have hmax := Kd.C_max hr0
  have HR0 := Aside0.mk (And.intro (Kd.C_alloc hr0 (.cells #[.slice (some ad) l.length c0, .slice A1 mt.length c1] 40)) hc0)
  have HR1 := Aside0.mk (And.intro (Kd.C_alloc hr1 (.cells #[.slice (some ad) l.length c0, .slice A1 mt.length c1] 40)) hc1)
  have HF := Aside0.mk (And.intro hfe hff)
  have HS0 : Aside0 ((W.alloc (.cells #[.slice (some ad) l.length c0, .slice A1 mt.length c1] 40)).cell? ⟨W.heap.size, 0, none⟩ = some (.slice (some ad) l.length c0) ∧ (W.alloc (.cells #[.slice (some ad) l.length c0, .slice A1 mt.length c1] 40)).cell? ⟨W.heap.size, 1, none⟩ = some (.slice A1 mt.length c1)) := ⟨blk_cell (heap_alloc_new W _) 0, blk_cell (heap_alloc_new W _) 1⟩
  have HS1 : Aside0 (∀ w1, Below (W.alloc (.cells #[.slice (some ad) l.length c0, .slice A1 mt.length c1] 40)).heap.size (W.alloc (.cells #[.slice (some ad) l.length c0, .slice A1 mt.length c1] 40)) w1 → w1.cell? ⟨W.heap.size, 0, none⟩ = some (.slice (some ad) l.length c0) ∧ w1.cell? ⟨W.heap.size, 1, none⟩ = some (.slice A1 mt.length c1)) :=
    ⟨fun w1 hb => ⟨(hb.cell (World.block_lt_of_cell? _ _ HS0.out.1)).trans HS0.out.1, (hb.cell (World.block_lt_of_cell? _ _ HS0.out.2)).trans HS0.out.2⟩⟩
  have hsum : IntKind.i64.wrap (i + 1) = i + 1 := Go.IntWalk.i64_in _ (by omega)
  have hsum1 : i + 1 ≤ 9223372036854775807 := by omega
  clear ha h127 hr0 hr1 hc0 hc1 hfe hff
  rcases hd with rfl | rfl
  · go_enter Try.func29, Try.ntmps29
    go_wp2
    go_region_held3 (fun w' => w'.cell? ⟨W.heap.size, 0, none⟩ = some (.slice (some ad) l.length c0) ∧ w'.cell? ⟨W.heap.size, 1, none⟩ = some (.slice A1 mt.length c1)) (first | exact HS0.out | exact HS1.out _ HW.out | exact HS1.out _ HW2.out) (first | (go_at_call 38; refine (explicit_text_end.calls (some ad) c0 l A1 c1 mt i en _ (Kd.C_drew HR0.out.1) HR0.out.2 (Kd.C_drew HR1.out.1) HR1.out.2 HF.out.1).mono ?_; rintro e w1 ⟨rfl, hb⟩; have HW := Aside0.mk (below_undrew hb); clear hb) | (go_at_call 23; refine (explicit_text_first.calls k (some ad) c0 l A1 c1 mt (i + 1) en _ _ (Kd.C_below HR0.out.1 HW.out) HR0.out.2 (Kd.C_below HR1.out.1 HW.out) HR1.out.2 HF.out.2).mono ?_; rintro e w2 ⟨rfl, hb⟩; have HW2 := Aside0.mk (below_step HW.out hb); clear hb))
    go_wp2_with (go_at_call 37; refine (push_c g a m HM.out.1 HM.out.2 1 0 (.inl rfl) true _ (((HH.out.alloc _).below HW2.out))).mono ?_)
    rintro e w1 ⟨rfl, ⟨C1, hb1, hC1⟩, hg1⟩
    have hs := pushA_same a 1 0 true
    have HG := Aside0.mk (grown_then (grown_alloc W (.cells #[.slice (some ad) l.length c0, .slice A1 mt.length c1] 40) (some g)) (grown_then (grown_below HW2.out (some g)) hg1))
    have HE : Aside0 (∀ a1 b, pushA a 1 0 true = (a1, b) → isoA a 1 = if b = true then { a1 with val := a1.val + 1 } else { a1 with iso := a1.iso + 1 }) := ⟨fun a1 b h => by unfold isoA; rw [h]⟩
    clear hg1
    generalize hp : pushA a 1 0 true = p at *
    obtain ⟨a1, b⟩ := p
    replace HE := Aside0.mk (HE.out a1 b rfl)
    obtain ⟨s1, s2, s3⟩ := hs
    simp only at s1 s2 s3 hC1
    have hC2 := hC1
    obtain ⟨k0, k1, k2, k3, k4, k5, k6⟩ := hC2
    have x2 := (blk_cell hb1 382).trans k3
    have x4 := (blk_cell hb1 384).trans k5
    have f2 := blk_frozen hb1 382
    have f4 := blk_frozen hb1 384
    have b0 : a1.iso + 1 ≤ 9223372036854775807 := by omega
    have b1 : a1.val + 1 ≤ 9223372036854775807 := by omega
    have b2 : -9223372036854775808 ≤ a1.iso + 1 := by omega
    have b3 : -9223372036854775808 ≤ a1.val + 1 := by omega
    have HB := Aside0.mk (And.intro hb1 (And.intro (hC1.iso (a1.iso + 1)) (hC1.val (a1.val + 1))))
    clear hb1 hC1 k0 k1 k2 k3 k4 k5 k6 hp s1 s2 s3 hvl hv0 hv1
    cases b with
    | true =>
      rw [if_pos rfl] at HE
      generalize hq : a1.val = av at x4 b1 b3 HB HE
      clear hq
      go_wp2
      go_end0
      exact ⟨rfl, ⟨_, blk_set HB.out.1 _ _, by rw [HE.out]; exact HB.out.2.2⟩, grown_more HG.out _ _⟩
    | false =>
      rw [if_neg (fun q => Bool.noConfusion q)] at HE
      generalize hq : a1.iso = ai at x2 b0 b2 HB HE
      clear hq
      go_wp2
      go_end0
      exact ⟨rfl, ⟨_, blk_set HB.out.1 _ _, by rw [HE.out]; exact HB.out.2.1⟩, grown_more HG.out _ _⟩
  · go_enter Try.func29, Try.ntmps29
    go_wp2
    go_region_held3 (fun w' => w'.cell? ⟨W.heap.size, 0, none⟩ = some (.slice (some ad) l.length c0) ∧ w'.cell? ⟨W.heap.size, 1, none⟩ = some (.slice A1 mt.length c1)) (first | exact HS0.out | exact HS1.out _ HW.out | exact HS1.out _ HW2.out) (first | (go_at_call 38; refine (explicit_text_end.calls (some ad) c0 l A1 c1 mt i en _ (Kd.C_drew HR0.out.1) HR0.out.2 (Kd.C_drew HR1.out.1) HR1.out.2 HF.out.1).mono ?_; rintro e w1 ⟨rfl, hb⟩; have HW := Aside0.mk (below_undrew hb); clear hb) | (go_at_call 23; refine (explicit_text_first.calls k (some ad) c0 l A1 c1 mt (i + 1) en _ _ (Kd.C_below HR0.out.1 HW.out) HR0.out.2 (Kd.C_below HR1.out.1 HW.out) HR1.out.2 HF.out.2).mono ?_; rintro e w2 ⟨rfl, hb⟩; have HW2 := Aside0.mk (below_step HW.out hb); clear hb))
    go_wp2_with (go_at_call 37; refine (push_c g a m HM.out.1 HM.out.2 2 0 (.inr rfl) true _ (((HH.out.alloc _).below HW2.out))).mono ?_)
    rintro e w1 ⟨rfl, ⟨C1, hb1, hC1⟩, hg1⟩
    have hs := pushA_same a 2 0 true
    have HG := Aside0.mk (grown_then (grown_alloc W (.cells #[.slice (some ad) l.length c0, .slice A1 mt.length c1] 40) (some g)) (grown_then (grown_below HW2.out (some g)) hg1))
    have HE : Aside0 (∀ a1 b, pushA a 2 0 true = (a1, b) → isoA a 2 = if b = true then { a1 with val := a1.val + 1 } else { a1 with iso := a1.iso + 1 }) := ⟨fun a1 b h => by unfold isoA; rw [h]⟩
    clear hg1
    generalize hp : pushA a 2 0 true = p at *
    obtain ⟨a1, b⟩ := p
    replace HE := Aside0.mk (HE.out a1 b rfl)
    obtain ⟨s1, s2, s3⟩ := hs
    simp only at s1 s2 s3 hC1
    have hC2 := hC1
    obtain ⟨k0, k1, k2, k3, k4, k5, k6⟩ := hC2
    have x2 := (blk_cell hb1 382).trans k3
    have x4 := (blk_cell hb1 384).trans k5
    have f2 := blk_frozen hb1 382
    have f4 := blk_frozen hb1 384
    have b0 : a1.iso + 1 ≤ 9223372036854775807 := by omega
    have b1 : a1.val + 1 ≤ 9223372036854775807 := by omega
    have b2 : -9223372036854775808 ≤ a1.iso + 1 := by omega
    have b3 : -9223372036854775808 ≤ a1.val + 1 := by omega
    have HB := Aside0.mk (And.intro hb1 (And.intro (hC1.iso (a1.iso + 1)) (hC1.val (a1.val + 1))))
    clear hb1 hC1 k0 k1 k2 k3 k4 k5 k6 hp s1 s2 s3 hvl hv0 hv1
    cases b with
    | true =>
      rw [if_pos rfl] at HE
      generalize hq : a1.val = av at x4 b1 b3 HB HE
      clear hq
      go_wp2
      go_end0
      exact ⟨rfl, ⟨_, blk_set HB.out.1 _ _, by rw [HE.out]; exact HB.out.2.2⟩, grown_more HG.out _ _⟩
    | false =>
      rw [if_neg (fun q => Bool.noConfusion q)] at HE
      generalize hq : a1.iso = ai at x2 b0 b2 HB HE
      clear hq
      go_wp2
      go_end0
      exact ⟨rfl, ⟨_, blk_set HB.out.1 _ _, by rw [HE.out]; exact HB.out.2.1⟩, grown_more HG.out _ _⟩
end Go.Proofs.Ytdkbkecnhebanaa.X
