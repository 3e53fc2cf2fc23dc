import Derived.Test.YtofiflhjlohakaaX8
import Derived.Test.YtofiflhjlohakaaD
namespace Go.Proofs.Ytofiflhjlohakaa.Pure
open Go.RowKit Go.Proofs.Ytofiflhjlohakaa.X Go.Proofs.Ytofiflhjlohakaa Go.Proofs.YtofiflhjlohakaaW.PrintWords Go.Proofs.YtofiflhjlohakaaW.PrintLast
set_option linter.unusedVariables false
set_option linter.unusedSimpArgs false
theorem T36_map (g : S36 → S36) (S : List S36) (i : Nat) (h : i < S.length) : rd_T36 (S.map g) (i : Int) = g (rd_T36 S i) := by simp [rd_T36, h]
theorem T36_mem (S : List S36) (i : Nat) (h : i < S.length) : rd_T36 S (i : Int) ∈ S := by
  have : rd_T36 S (i : Int) = S[i] := by simp [rd_T36, h]
  rw [this]
  exact List.getElem_mem h
theorem rd_mapI (f : Int → Int) (a : List Int) (k : Nat) (h : k < a.length) : rd (a.map f) (k : Int) = f (rd a k) := by simp [rd, h]
section
variable (old : List Int) (B A : List S36) (hA : A = B.map (ren old)) (hB : B.length ≤ 100000) (hpl : ∀ s ∈ B, s.f0.length ≤ 100000 ∧ ∀ p ∈ s.f0, 0 ≤ p ∧ p < old.length ∧ 0 ≤ rd old p)
include hA hB hpl
theorem wo_l3 (i : Nat) (hi : i < B.length) (hl2 : Ev (fun k => selvedgelaw15_RunsWithout.l2 k old A B ((i : Int) + 1)) true) : ∀ t j : Nat, j + t = (rd_T36 B i).f0.length → Ev (fun k => selvedgelaw15_RunsWithout.l3 k old A B (i : Int) (j : Int)) true := by
  intro t
  have hla : A.length = B.length := by rw [hA, List.length_map]
  have he : rd_T36 A (i : Int) = ren old (rd_T36 B i) := by rw [hA]; exact T36_map _ _ _ hi
  have hf : (rd_T36 A (i : Int)).f0 = (rd_T36 B i).f0.map (fun p => rd old p) := by rw [he]; rfl
  have hm := hpl _ (T36_mem B i hi)
  have w1 : wrap64 ((i : Int) + 1) = (i : Int) + 1 := E.w64 (by omega) (by omega)
  have hfl : ((rd_T36 A (i : Int)).f0.length : Int) = ((rd_T36 B i).f0.length : Int) := by rw [hf, List.length_map]
  induction t with
  | zero =>
    intro j hj
    refine E.succ (E.pos (by omega) (E.pos (by omega) (E.neg (by omega) ?_)))
    rw [w1]
    exact hl2
  | succ t ih =>
    intro j hj
    have w : wrap64 ((j : Int) + 1) = ((j + 1 : Nat) : Int) := by rw [E.w64 (by omega) (by omega)]; omega
    have IH := ih (j + 1) (by omega)
    rw [← w] at IH
    have hp := hm.2 (rd (rd_T36 B i).f0 j) (E.rd_mem (by omega) (by omega))
    refine E.succ (E.pos (by omega) (E.pos (by omega) (E.pos (by omega) (E.pos (by omega) (E.pos (by omega) (E.pos (by omega) (E.neg (by omega) (E.neg (by omega) (E.pos (by omega) (E.pos (by omega) (E.pos ?_ IH)))))))))))
    rw [hf, rd_mapI _ _ _ (by omega)]
theorem wo_l2 : ∀ t i : Nat, i + t = B.length → Ev (fun k => selvedgelaw15_RunsWithout.l2 k old A B (i : Int)) true := by
  intro t
  have hla : A.length = B.length := by rw [hA, List.length_map]
  induction t with
  | zero => intro i hi; exact E.succ (E.neg (by omega) (E.bnd works_ev (E.ret rfl)))
  | succ t ih =>
    intro i hi
    have he : rd_T36 A (i : Int) = ren old (rd_T36 B i) := by rw [hA]; exact T36_map _ _ _ (by omega)
    have IH := ih (i + 1) (by omega)
    have h3 : ((rd_T36 A (i : Int)).f3 != (rd_T36 B (i : Int)).f3) = false := by rw [he]; simp [ren]
    have hj5 : ∀ b : Bool, b = false → Ev (fun k => selvedgelaw15_RunsWithout.j5 k old A B (i : Int) b) true := fun b hb =>
      E.succ (E.neg (by rw [hb]; decide) (wo_l3 old B A hA hB hpl i (by omega) (by rw [show (i : Int) + 1 = ((i + 1 : Nat) : Int) by omega]; exact IH) (rd_T36 B i).f0.length 0 (by omega)))
    exact E.succ (E.pos (by omega) (E.pos (by omega) (E.pos (by omega) (E.pos (by rw [he]; simp [ren]) (E.pos (by rw [he]; rfl) (E.pos (by rw [he]; rfl) (hj5 _ h3)))))))
end
section
variable (l lev at_ : List Int) (base : Int) (hl : l.length ≤ 1000) (hlv : lev.length = l.length) (ha : at_.length ≤ 100) (hau : ∀ x ∈ at_, 0 ≤ x ∧ x ≤ 65535) (hb : 0 ≤ base ∧ base ≤ 255) (hu : ∀ x ∈ lev, 0 ≤ x ∧ x ≤ 255)
include hl hlv ha hau hb hu
omit ha hau in
theorem wo_end (c nn old : List Int) (h : Emb l lev c nn old l.length) (hc : c.length ≤ 1200) (hnn : ∀ x ∈ nn, 0 ≤ x ∧ x ≤ 255) : Ev (fun k => selvedgelaw15_RunsWithout.l0 k l lev base at_ c nn old ((l.length : Int) + 1)) true := by
  have h1 := seq_f l lev base hb (List.all_eq_true.mpr (fun x hx => decide_eq_true (hu x hx))) (by omega) hlv
  have h2 := seq_f c nn base hb (List.all_eq_true.mpr (fun x hx => decide_eq_true (hnn x hx))) (by omega) (by rw [h.hn, h.hc])
  obtain ⟨h3, h4⟩ := h.answer base
  have hok := sqAt_ok c nn (mtOf c) (ahF c nn base) c.length
  refine E.succ (E.neg (by omega) (E.bno h1 (E.bno h2 (E.pos rfl (E.pos rfl ?_)))))
  have hpl : ∀ s ∈ (sqAt c nn (mtOf c) (ahF c nn base) c.length).all.map (sqEos c nn (mtOf c) (beF c nn base) base), s.f0.length ≤ 100000 ∧ ∀ p ∈ s.f0, 0 ≤ p ∧ p < old.length ∧ 0 ≤ rd old p := by
    intro s hs
    obtain ⟨s0, hs0, rfl⟩ := List.mem_map.mp hs
    obtain ⟨i, hi⟩ := List.mem_iff_getElem?.mp hs0
    have := (hok.pl i s0 hi).1
    exact ⟨by show s0.f0.length ≤ _; omega, h4 s0 hs0⟩
  have hlen : ((sqAt c nn (mtOf c) (ahF c nn base) c.length).all.map (sqEos c nn (mtOf c) (beF c nn base) base)).length ≤ 100000 := by
    have := hok.al
    rw [List.length_map]
    omega
  have key : ∀ (A B : List S36) (b : Bool), A = B.map (ren old) → B.length ≤ 100000 → (∀ s ∈ B, s.f0.length ≤ 100000 ∧ ∀ p ∈ s.f0, 0 ≤ p ∧ p < old.length ∧ 0 ≤ rd old p) → b = false → Ev (fun k => selvedgelaw15_RunsWithout.j3 k old A B b) true := fun A B b e1 e2 e3 e4 =>
    E.succ (E.neg (by rw [e4]; decide) (wo_l2 old B A e1 e2 e3 B.length 0 (by omega)))
  exact key _ _ _ h3 hlen hpl (by
    show (((List.map _ _).length : Int) != ((List.map _ _).length : Int)) = false
    rw [h3, List.length_map]
    simp)
def cLt (i : Nat) : Nat := at_.countP (fun a => decide (a % ((l.length : Int) + 1) < i))
def cEq (i k : Nat) : Nat := (at_.take k).countP (fun a => decide (a % ((l.length : Int) + 1) = i))
omit hl hlv ha hau hb hu in
theorem c_next (i : Nat) : cLt l at_ i + cEq l at_ i at_.length = cLt l at_ (i + 1) := by
  unfold cLt cEq
  rw [List.take_length]
  induction at_ with
  | nil => rfl
  | cons a t ih =>
    simp only [List.countP_cons]
    rcases Int.lt_trichotomy (a % ((l.length : Int) + 1)) i with q | q | q
    · rw [if_pos (decide_eq_true q), if_neg (by simp; omega), if_pos (by simp; omega)]
      omega
    · rw [if_neg (by simp; omega), if_pos (decide_eq_true q), if_pos (by simp; omega)]
      omega
    · rw [if_neg (by simp; omega), if_neg (by simp; omega), if_neg (by simp; omega)]
      omega
omit hl hlv ha hau hb hu in
theorem c_step (i k : Nat) (hk : k < at_.length) : cEq l at_ i (k + 1) = cEq l at_ i k + if rd at_ k % ((l.length : Int) + 1) = i then 1 else 0 := by
  unfold cEq
  rw [List.take_succ_eq_append_getElem hk, List.countP_append, ← E.rd_get hk]
  simp [List.countP_cons]
omit hb in
set_option maxHeartbeats 4000000 in
theorem wo_l1 (i : Nat) (hi : i ≤ l.length) (u u1 : Nat) (v : Nat → Nat) (hcl2 : u1 ≤ 100) (hcl : u ≤ 100) (hce0 : ∀ k, v k ≤ 100) (hend : u + v at_.length = u1) (hstep : ∀ k, k < at_.length → v (k + 1) = v k + if rd at_ k % ((l.length : Int) + 1) = i then 1 else 0)
    (ih : ∀ (c nn old : List Int), Emb l lev c nn old (min (i + 1) l.length) → c.length ≤ i + 1 + u1 → (∀ x ∈ nn, 0 ≤ x ∧ x ≤ 255) → Ev (fun k => selvedgelaw15_RunsWithout.l0 k l lev base at_ c nn old ((i + 1 : Nat) : Int)) true) :
    ∀ (t k : Nat) (c nn old : List Int), k + t = at_.length → Emb l lev c nn old i → c.length ≤ i + u + v k → (∀ x ∈ nn, 0 ≤ x ∧ x ≤ 255) → Ev (fun n => selvedgelaw15_RunsWithout.l1 n l lev base at_ c nn old (i : Int) (k : Int)) true := by
  have w1 : Aside0 (wrap64 ((i : Int) + 1) = ((i + 1 : Nat) : Int)) := ⟨by rw [E.w64 (by omega) (by omega)]; omega⟩
  have w2 : Aside0 (wrap64 ((l.length : Int) + 1) = (l.length : Int) + 1) := ⟨E.w64 (by omega) (by omega)⟩
  intro t
  induction t with
  | zero =>
    intro k c nn old hk hE hc hnn
    have hk : k = at_.length := by omega
    rw [hk, Nat.add_assoc, hend] at hc
    have hc2 := hE.hc
    have hn2 := hE.hn
    refine E.succ ?_
    unfold selvedgelaw15_RunsWithout.l1
    refine E.neg (by omega) ?_
    rw [w1.out]
    by_cases q : i < l.length
    · have hE2 := hE.put
      refine E.pos (by omega) (E.pos (by omega) (E.pos (by omega) (E.pos (by omega) (E.pos (by omega) (E.pos (by omega) (ih _ _ _ (by rw [Nat.min_eq_left (by omega)]; exact hE2) (by simp; omega) (fun x hx => ?_)))))))
      rcases List.mem_append.mp hx with hx | hx
      · exact hnn x hx
      · rw [List.mem_singleton.mp hx]
        exact hu _ (E.rd_mem (by omega) (by omega))
    · refine E.neg (by omega) (ih _ _ _ ?_ (by omega) hnn)
      rw [Nat.min_eq_right (by omega), show l.length = i by omega]
      exact hE
  | succ t iht =>
    intro k c nn old hk hE hc hnn
    have w : Aside0 (wrap64 ((k : Int) + 1) = ((k + 1 : Nat) : Int)) := ⟨by rw [E.w64 (by omega) (by omega)]; omega⟩
    have hx : 0 ≤ rd at_ (k : Int) ∧ rd at_ (k : Int) ≤ 65535 := hau (rd at_ (k : Int)) (E.rd_mem (l := at_) (i := (k : Int)) (by omega) (by omega))
    obtain ⟨a, haa⟩ : ∃ a, rd at_ k = a := ⟨_, rfl⟩
    have hs := hstep k (by omega)
    have hce := hce0 k
    have hc2 := hE.hc
    have hn2 := hE.hn
    rw [haa] at hx hs
    have w3 : wrap64 a = a := E.w64 (by omega) (by omega)
    have w4 : Int.tmod a ((l.length : Int) + 1) = a % ((l.length : Int) + 1) := Int.tmod_eq_emod_of_nonneg hx.1
    have w5 : Int.tdiv a 7 = a / 7 := Int.tdiv_eq_ediv_of_nonneg hx.1
    have w6 : IntKind.u16.wrap (a / 7) = a / 7 := by simp [IntKind.wrap, IntKind.signed, IntKind.bits]; omega
    have w7 : Int.tmod (a / 7) 4 = (a / 7) % 4 := Int.tmod_eq_emod_of_nonneg (by omega)
    have IH := fun c nn old => iht (k + 1) c nn old (by omega)
    rw [← w.out] at IH
    refine E.succ ?_
    unfold selvedgelaw15_RunsWithout.l1
    refine E.pos (by omega) (E.pos (by omega) (E.neg (by rw [w2.out]; omega) ?_))
    rw [haa, w2.out, w3, w4, w5, w6, w7]
    by_cases q : a % ((l.length : Int) + 1) = (i : Int)
    · rw [if_pos q] at hs
      have hr : remC (rd [10, 19, 16, 17] (a / 7 % 4)) = true := by
        have : a / 7 % 4 = 0 ∨ a / 7 % 4 = 1 ∨ a / 7 % 4 = 2 ∨ a / 7 % 4 = 3 := by omega
        rcases this with e | e | e | e <;> rw [e] <;> decide
      refine E.pos q (E.bno rfl (E.pos (by omega) (E.pos (by show _ < ((4 : Nat) : Int); omega) (E.pos (by omega) (E.pos (by omega) (E.pos (by omega) (IH _ _ _ (hE.ins _ _ hr) (by simp; omega) (fun x hx2 => ?_))))))))
      rcases List.mem_append.mp hx2 with hx2 | hx2
      · exact hnn x hx2
      · rw [List.mem_singleton.mp hx2]
        omega
    · rw [if_neg q] at hs
      exact E.neg q (IH _ _ _ hE (by omega) hnn)
set_option maxHeartbeats 4000000 in
theorem wo_l0 : ∀ (t i : Nat) (c nn old : List Int), i + t = l.length + 1 → Emb l lev c nn old (min i l.length) → c.length ≤ i + cLt l at_ i → (∀ x ∈ nn, 0 ≤ x ∧ x ≤ 255) → Ev (fun k => selvedgelaw15_RunsWithout.l0 k l lev base at_ c nn old (i : Int)) true := by
  intro t
  induction t with
  | zero =>
    intro i c nn old hi hE hc hnn
    have hcl : c.length ≤ i + 100 := Nat.le_trans hc (Nat.add_le_add_left (Nat.le_trans List.countP_le_length ha) i)
    clear hc
    have hi : i = l.length + 1 := by omega
    rw [hi, Nat.min_eq_right (by omega)] at hE
    have := wo_end l lev at_ base hl hlv hb hu c nn old hE (by omega) hnn
    rw [hi]
    exact this
  | succ t ih =>
    intro i c nn old hi hE hc hnn
    have hle : i ≤ l.length := by clear hc; omega
    rw [Nat.min_eq_left hle] at hE
    refine E.succ (E.pos (by clear hc; omega) ?_)
    have hit : i + 1 + t = l.length + 1 := by clear hc; omega
    exact wo_l1 l lev at_ base hl hlv ha hau hu i hle (cLt l at_ i) (cLt l at_ (i + 1)) (cEq l at_ i) (Nat.le_trans List.countP_le_length ha) (Nat.le_trans List.countP_le_length ha) (fun k => Nat.le_trans List.countP_le_length (by rw [List.length_take]; omega)) (c_next l at_ i) (c_step l at_ i) (fun c nn old => ih (i + 1) c nn old hit) at_.length 0 c nn old (Nat.zero_add _) hE (by simp [cEq]; exact hc) hnn
end
theorem u16_lo {x : Int} (h : (Lit.int .u16 x).wf = true) : 0 ≤ x ∧ x ≤ 65535 := by
  simp [Lit.wf, IntKind.min, IntKind.max, IntKind.signed, IntKind.bits] at h
  omega
set_option maxHeartbeats 4000000 in
theorem RunsWithout : selvedgelaw15_RunsWithout.Pure := by
  intro l lev base at_ _ _ hlw _ _ hvw hbw _ _ haw
  have hb := E.u8_lo hbw
  have hj : ∀ b : Bool, (b = false → l.length ≤ 1000 ∧ at_.length ≤ 100 ∧ lev.length = l.length) → Ev (fun k => selvedgelaw15_RunsWithout.j0 k l lev base at_ b) true := by
    intro b hq
    by_cases hb2 : b = true
    · exact E.succ (E.pos hb2 (E.bnd works_ev (E.ret rfl)))
    · obtain ⟨h1, h2, h3⟩ := hq (eq_false_of_ne_true hb2)
      exact E.succ (E.neg hb2 (wo_l0 l lev at_ base h1 h3 h2 (fun x hx => u16_lo (haw x hx)) hb (fun x hx => E.u8_lo (hvw x hx)) (l.length + 1) 0 [] [] [] (by omega) (by rw [Nat.zero_min]; exact Emb.nil l lev) (by simp) (fun x hx => by cases hx)))
  refine E.out (g := fun k => selvedgelaw15_RunsWithout.f k l lev base at_) ?_
  by_cases h : (l.length : Int) > 1000
  · exact E.pos h (hj true (fun h => by cases h))
  · refine E.neg h ?_
    by_cases h2 : (at_.length : Int) > 100
    · exact E.pos h2 (hj true (fun h => by cases h))
    · exact E.neg h2 (hj _ (fun h3 => ⟨by omega, by omega, by have := bne_eq_false_iff_eq.mp h3; omega⟩))
end Go.Proofs.Ytofiflhjlohakaa.Pure
