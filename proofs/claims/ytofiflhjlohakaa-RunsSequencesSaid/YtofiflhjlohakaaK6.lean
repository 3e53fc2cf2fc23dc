import Derived.Test.YtofiflhjlohakaaK5
/-! The document's sequences are the program's. -/
namespace Go.Proofs.Ytofiflhjlohakaa.X
open Go.RowKit Go.Proofs.YtofiflhjlohakaaW.PrintWords Go.Proofs.YtofiflhjlohakaaW.PrintLast Go.Proofs.YtofiflhjlohakaaW.PrintMore
set_option linter.unusedVariables false
set_option linter.unusedSimpArgs false
theorem take_rg (P : List Rn) (r : Nat) (h : r < P.length) : P.take (r + 1) = P.take r ++ [rg P r] := by
  rw [List.take_succ_eq_append_getElem h, rg_get P r h]
theorem split_rg (P : List Rn) (r : Nat) (h : r < P.length) : P = P.take r ++ rg P r :: P.drop (r + 1) := by
  rw [rg_get P r h, ← List.drop_eq_getElem_cons h, List.take_append_drop]
theorem mem_take_rg {P : List Rn} {r : Nat} (hr : r ≤ P.length) {q : Rn} (h : q ∈ P.take r) : ∃ j : Nat, j < r ∧ rg P j = q := by
  obtain ⟨j, hj, e⟩ := List.mem_take_iff_getElem.mp h
  exact ⟨j, by omega, by rw [rg_get P j (by omega)]; exact e⟩
theorem rg_take {P : List Rn} {r j : Nat} (hj : j < r) (hr : r ≤ P.length) : rg P j ∈ P.take r := by
  rw [rg_get P j (by omega)]
  exact List.mem_take_iff_getElem.mpr ⟨j, by omega, rfl⟩
theorem nfr_mono (P : List Rn) (a b : Nat) (h : a ≤ b) : nfr (P.take a) ≤ nfr (P.take b) := by
  have e : P.take b = P.take a ++ (P.take b).drop a := by
    have := (List.take_append_drop a (P.take b)).symm
    rw [List.take_take, Nat.min_eq_left h] at this
    exact this
  unfold nfr
  rw [e, List.countP_append]
  omega
theorem cat_len (P : List Rn) (s : Nat) : (cat P s).length ≤ (P.flatMap (·.pl)).length := by
  unfold cat
  induction P with
  | nil => simp
  | cons c P ih =>
    rw [List.filter_cons]
    split
    · simp only [List.flatMap_cons, List.length_append]; omega
    · simp only [List.flatMap_cons, List.length_append]; omega
theorem cat_mem {P : List Rn} {s : Nat} {x : Int} (h : x ∈ cat P s) : x ∈ P.flatMap (·.pl) := by
  obtain ⟨c, hc, hx⟩ := List.mem_flatMap.mp h
  exact List.mem_flatMap.mpr ⟨c, (List.mem_filter.mp hc).1, hx⟩
section
variable {l lev ah : List Int} {st : SqSt} {P : List Rn} (hj : J l lev (mtOf l) ah l.length st P) (h : Rk l (mtOf l) P) (hl : l.length ≤ 2000)
include hj
theorem asg_at {r : Nat} (hr : r < P.length) : Asg1 l (mtOf l) (P.take r) (rg P r) := hj.asg _ _ _ (split_rg P r hr)
theorem sq_lt : ∀ (b r : Nat), r < b → r < P.length → (rg P r).sq < nfr (P.take (r + 1)) := by
  intro b
  induction b with
  | zero => intro r hb; omega
  | succ b ih =>
    intro r hb hr
    rcases asg_at hj hr with ⟨g1, q, hq, _, g2⟩ | ⟨g1, _, g2⟩
    · obtain ⟨j, hjr, rfl⟩ := mem_take_rg (by omega) hq
      have := ih j (by omega) (by omega)
      have := nfr_mono P (j + 1) (r + 1) (by omega)
      omega
    · rw [g2, take_rg P r hr, nfr_snoc, if_pos g1]
      omega
include h
omit hj in
theorem first_last {j : Nat} (hjl : j < P.length) : rd (rg P j).pl 0 ≤ lastP (rg P j).pl := by
  have hne := List.length_pos_iff.mpr (h.ne _ (rg_mem P j hjl))
  have hi : (rg P j).pl.Pairwise (· < ·) := by
    have hi := h.inc
    rw [split_rg P j hjl, List.flatMap_append, List.flatMap_cons] at hi
    exact (List.pairwise_append.mp (List.pairwise_append.mp hi).2.1).1
  rcases Nat.lt_or_ge 1 (rg P j).pl.length with q | q
  · have : rd (rg P j).pl ((0 : Nat) : Int) < rd (rg P j).pl (((rg P j).pl.length - 1 : Nat) : Int) := by
      rw [E.rd_get (by omega), E.rd_get (by omega)]
      exact List.pairwise_iff_getElem.mp hi 0 _ (by omega) (by omega) (by omega)
    unfold lastP
    rw [show ((rg P j).pl.length : Int) - 1 = (((rg P j).pl.length - 1 : Nat) : Int) by omega]
    exact Int.le_of_lt this
  · unfold lastP
    rw [show ((rg P j).pl.length : Int) - 1 = 0 by omega]
    exact Int.le_refl _
omit hj in
theorem lk_lt {x t : Nat} (hx : x < P.length) (ht : t < P.length) (hk : Lk l (mtOf l) (rg P x) (rg P t)) : x < t := by
  have hla := h.last hx
  have hgt := mt_gt l _ hla.1 hla.2 hk.1 hk.2.1
  rw [hk.2.2] at hgt
  have hne := List.length_pos_iff.mpr (h.ne _ (rg_mem P t ht))
  rcases Nat.lt_trichotomy x t with q | q | q
  · exact q
  · subst q
    have := first_last h hx
    omega
  · have := h.apart q hx (E.rd_mem (l := (rg P t).pl) (i := 0) (by omega) (by omega)) (lastP_mem _ (h.ne _ (rg_mem P x hx)))
    omega
theorem lk_sq {x t : Nat} (hx : x < P.length) (ht : t < P.length) (hk : Lk l (mtOf l) (rg P x) (rg P t)) : (rg P t).fr = false ∧ (rg P t).sq = (rg P x).sq := by
  have hlt := lk_lt h hx ht hk
  rcases asg_at hj ht with ⟨g1, q, hq, g2, g3⟩ | ⟨g1, g2, g3⟩
  · obtain ⟨j, hjt, rfl⟩ := mem_take_rg (by omega) hq
    have h1 := h.last hx
    have h2 := h.last (j := j) (by omega)
    have e := mt_inj l _ _ h1.1 h1.2 h2.1 h2.2 hk.2.1 (by rw [hk.2.2, g2.2.2])
    have m1 := lastP_mem _ (h.ne _ (rg_mem P x hx))
    have m2 := lastP_mem _ (h.ne _ (rg_mem P j (by omega)))
    have : x = j := by
      rcases Nat.lt_trichotomy x j with q | q | q
      · have := h.apart q (by omega) m1 m2; omega
      · exact q
      · have := h.apart q hx m2 m1; omega
    subst this
    exact ⟨g1, g3⟩
  · exact absurd hk (g2 _ (rg_take hlt (by omega)))
/-- The chain so far: each of the sequence's runs ahead of x leads to one that is at most x. -/
def Vis (l : List Int) (P : List Rn) (s x : Nat) : Prop := ∀ r, r < x → (rg P r).sq = s → ∃ t : Nat, t ≤ x ∧ toF l (mtOf l) P r = t
theorem gap {s x : Nat} (hx : x < P.length) (hs : (rg P x).sq = s) (hv : Vis l P s x) (u : Nat) (hu : u ≤ P.length) (hto : toF l (mtOf l) P x = -1 ∨ toF l (mtOf l) P x = u) : ∀ (b r : Nat), r < b → x < r → r < u → (rg P r).sq ≠ s := by
  intro b
  induction b with
  | zero => intro r hb; omega
  | succ b ih =>
    intro r hb hxr hru hsr
    rcases asg_at hj (r := r) (by omega) with ⟨g1, q, hq, g2, g3⟩ | ⟨g1, g2, g3⟩
    · obtain ⟨j, hjr, rfl⟩ := mem_take_rg (by omega) hq
      have htj := (h.to_iff (j := j) (t := r) (by omega) (by omega)).mpr g2
      have hsj : (rg P j).sq = s := by rw [← g3, hsr]
      rcases Nat.lt_trichotomy j x with w | w | w
      · obtain ⟨t, ht1, ht2⟩ := hv j w hsj
        omega
      · subst w
        omega
      · exact ih j (by omega) w (by omega) hsj
    · have h1 := sq_lt hj (x + 1) x (by omega) hx
      have h2 := nfr_mono P (x + 1) r (by omega)
      omega
omit hj h in
theorem cat_gap (s : Nat) (a : Nat) : ∀ b, a ≤ b → b ≤ P.length → (∀ r, a ≤ r → r < b → (rg P r).sq ≠ s) → cat (P.take b) s = cat (P.take a) s := by
  intro b
  induction b with
  | zero => intro hab _ _; rw [Nat.le_zero.mp hab]
  | succ b ih =>
    intro hab hb hr
    rcases Nat.lt_or_ge b a with q | q
    · rw [show a = b + 1 by omega]
    · rw [take_rg P b (by omega), cat_snoc, if_neg (hr b q (by omega)), List.append_nil]
      exact ih q (by omega) (fun r h1 h2 => hr r h1 (by omega))
theorem fresh_iff {k : Nat} (hk : k < P.length) : (frF l (mtOf l) P P.length k = -1 ∧ (rg P k).fr = true) ∨ (0 ≤ frF l (mtOf l) P P.length k ∧ (rg P k).fr = false) := by
  rcases frF_spec (l := l) (m := mtOf l) (P := P) k P.length with ⟨g1, g2⟩ | ⟨g1, q, g2, g3⟩
  · refine .inl ⟨g1, ?_⟩
    rcases asg_at hj hk with ⟨k1, q, hq, k2, k3⟩ | ⟨k1, _, _⟩
    · obtain ⟨j, hjr, rfl⟩ := mem_take_rg (by omega) hq
      exact absurd ((h.to_iff (j := j) (t := k) (by omega) hk).mpr k2) (g2 j (by omega))
    · exact k1
  · exact .inr ⟨g1, (lk_sq hj h g2 hk ((h.to_iff g2 hk).mp g3)).1⟩
end
/-- A sequence, as both tell it. -/
def seqB (lev ah : List Int) (P : List Rn) (s : Nat) : S36 := ⟨cat P s, rd lev (rd (cat P s) 0), sideV (mx (rd lev (rd (cat P s) 0)) (rd ah (rd (cat P s) 0))), 0⟩
def to56 (x : S36) : S56 := ⟨x.f0, x.f1, x.f2, x.f3⟩
section
variable {l lev : List Int} {base : Int} {st : SqSt} {P : List Rn} (hj : J l lev (mtOf l) (ahF l lev base) l.length st P) (h : Rk l (mtOf l) P) (hl : l.length ≤ 2000) (hv : lev.length = l.length) (hb : 0 ≤ base ∧ base ≤ 255) (hu : ∀ x ∈ lev, 0 ≤ x ∧ x ≤ 255)
def seqW (l lev : List Int) (base : Int) (P : List Rn) (s : Nat) : S56 := to56 (sqEos l lev (mtOf l) (beF l lev base) base (seqB lev (ahF l lev base) P s))
include hj h hl hv hb hu
theorem ref_fin (res : List S56 × Int) (s : Nat) (hs : s < nfr P) (k : Nat) (hk : k < P.length) (out : List S56) (ho : out.length ≤ 2000)
    (hN : Ev (fun n => selvedgeref15_Sequences.l0 n l lev base (xL l (mtOf l) P P.length) (mtOf l) (ahF l lev base) (beF l lev base) (out ++ [seqW l lev base P s]) ((k : Int) + 1)) res) :
    Ev (fun n => selvedgeref15_Sequences.l1 n l lev base (xL l (mtOf l) P P.length) (mtOf l) (ahF l lev base) (beF l lev base) out (k : Int) (-1) (cat P s) 0 0 0) res := by
  have hne := hj.cne s hs
  have hpos := List.length_pos_iff.mpr hne
  have hlen : (cat P s).length ≤ 2000 := by
    have h1 := cat_len P s
    have h2 := inc_len _ h.inc l.length h.bd
    omega
  have hbd : ∀ x ∈ cat P s, 0 ≤ x ∧ x < (l.length : Int) := fun x hx => h.bd x (cat_mem hx)
  have hP := (h.plen hl hk).2
  have w1 : wrap64 (((cat P s).length : Int) - 1) = ((cat P s).length : Int) - 1 := E.w64 (by omega) (by omega)
  have w2 : wrap64 ((k : Int) + 1) = (k : Int) + 1 := E.w64 (by omega) (by omega)
  have hf := hbd _ (E.rd_mem (l := cat P s) (i := 0) (by omega) (by omega))
  have hla : 0 ≤ lastP (cat P s) ∧ lastP (cat P s) < (l.length : Int) := hbd _ (lastP_mem _ hne)
  have hah := ahF_ok l lev base hb hu hv
  have hbe := beF_ok l lev base hb hu hv
  have hml := (mtOf_ok l).1
  have hlf := hu _ (E.rd_mem (l := lev) (i := rd (cat P s) 0) hf.1 (by omega))
  have hll := hu _ (E.rd_mem (l := lev) (i := lastP (cat P s)) hla.1 (by omega))
  have haf := hah.2 _ (E.rd_mem (l := ahF l lev base) (i := rd (cat P s) 0) hf.1 (by omega))
  have hbl := hbe.2 _ (E.rd_mem (l := beF l lev base) (i := lastP (cat P s)) hla.1 (by omega))
  have hmx : ∀ a b : Int, 0 ≤ a → 0 ≤ b → 0 ≤ mx a b := fun a b h1 h2 => by unfold mx; split <;> omega
  have e1 : seqW l lev base P s = ⟨cat P s, rd lev (rd (cat P s) 0), sideV (mx (rd lev (rd (cat P s) 0)) (rd (ahF l lev base) (rd (cat P s) 0))), sideV (mx (rd lev (lastP (cat P s))) (if iniC (rd l (lastP (cat P s))) = true ∧ rd (mtOf l) (lastP (cat P s)) < 0 then base else rd (beF l lev base) (lastP (cat P s))))⟩ := rfl
  rw [e1] at hN
  refine E.succ ?_
  unfold selvedgeref15_Sequences.l1
  simp only [w1, w2]
  have e2 : rd (cat P s) (((cat P s).length : Int) - 1) = lastP (cat P s) := rfl
  simp only [e2]
  obtain ⟨la, hlaq⟩ : ∃ la, lastP (cat P s) = la := ⟨_, rfl⟩
  obtain ⟨fi, hfi⟩ : ∃ fi, rd (cat P s) 0 = fi := ⟨_, rfl⟩
  simp only [hlaq, hfi] at hN hla hf hlf hll haf hbl ⊢
  refine E.neg (by omega) (E.pos (by omega) (E.pos (by omega) (E.pos (by omega) (E.pos hf.1 (E.pos (by omega) (E.pos (by omega) (E.bno (side15 _ (hmx _ _ hlf.1 haf.1)) (E.pos hla.1 (E.pos (by omega) (E.pos hla.2 (E.bno (initiator14 _) ?_)))))))))))
  by_cases q1 : iniC (rd l la) = true
  · have q1' : decide (20 ≤ rd l la ∧ rd l la ≤ 22) = true := q1
    refine E.pos q1' (E.pos (by omega) ?_)
    by_cases q2 : rd (mtOf l) la < 0
    · rw [if_pos ⟨q1, q2⟩] at hN
      exact E.pos q2 (E.pos (by omega) (E.bno (side15 _ (hmx _ _ hll.1 hb.1)) (E.pos (by omega) hN)))
    · rw [if_neg (fun e => q2 e.2)] at hN
      exact E.neg q2 (E.pos (by omega) (E.bno (side15 _ (hmx _ _ hll.1 hbl.1)) (E.pos (by omega) hN)))
  · have q1' : ¬ decide (20 ≤ rd l la ∧ rd l la ≤ 22) = true := q1
    rw [if_neg (fun e => q1 e.1)] at hN
    exact E.neg q1' (E.pos (by omega) (E.bno (side15 _ (hmx _ _ hll.1 hbl.1)) (E.pos (by omega) hN)))
theorem ref_chain (res : List S56 × Int) (s : Nat) (hs : s < nfr P) (k : Nat) (hk : k < P.length) (out : List S56) (ho : out.length ≤ 2000)
    (hN : Ev (fun n => selvedgeref15_Sequences.l0 n l lev base (xL l (mtOf l) P P.length) (mtOf l) (ahF l lev base) (beF l lev base) (out ++ [seqW l lev base P s]) ((k : Int) + 1)) res) :
    ∀ (b x : Nat), P.length - x < b → x < P.length → (rg P x).sq = s → Vis l P s x → Ev (fun n => selvedgeref15_Sequences.l1 n l lev base (xL l (mtOf l) P P.length) (mtOf l) (ahF l lev base) (beF l lev base) out (k : Int) (x : Int) (cat (P.take x) s) 0 0 0) res := by
  intro b
  induction b with
  | zero => intro x hb2; omega
  | succ b ih =>
    intro x hb2 hx hsx hvis
    have hat := xL_at l (mtOf l) P P.length x hx
    have hcl : (cat (P.take x) s).length ≤ 2000 := by
      have h1 := cat_len (P.take x) s
      have h2 := inc_len _ h.inc l.length h.bd
      have h3 : ((P.take x).flatMap (·.pl)).length ≤ (P.flatMap (·.pl)).length := by
        have e := (List.take_append_drop x P).symm
        have := congrArg (fun L => (L.flatMap (fun c : Rn => c.pl)).length) e
        simp only [List.flatMap_append, List.length_append] at this
        omega
      omega
    have hpl := (h.plen hl hx).1
    have hcat : cat (P.take x) s ++ (rg P x).pl = cat (P.take (x + 1)) s := by rw [take_rg P x hx, cat_snoc, if_pos hsx]
    have hstep : ∀ z : Int, toF l (mtOf l) P x = z → Ev (fun n => selvedgeref15_Sequences.l1 n l lev base (xL l (mtOf l) P P.length) (mtOf l) (ahF l lev base) (beF l lev base) out (k : Int) z (cat (P.take (x + 1)) s) 0 0 0) res → Ev (fun n => selvedgeref15_Sequences.l1 n l lev base (xL l (mtOf l) P P.length) (mtOf l) (ahF l lev base) (beF l lev base) out (k : Int) (x : Int) (cat (P.take x) s) 0 0 0) res := by
      intro z hz hE
      refine E.succ ?_
      unfold selvedgeref15_Sequences.l1
      simp only [hat]
      simp only [xF, if_pos hx, hz, hcat]
      exact E.pos (by omega) (E.pos (by omega) (E.pos (by rw [xL_len]; omega) (E.pos (by omega) hE)))
    rcases h.to_lt hx with hto | ⟨t, ht, hto⟩
    · refine hstep (-1) hto ?_
      have hg := gap hj h hx hsx hvis P.length (Nat.le_refl _) (.inl hto) P.length
      have e := cat_gap (P := P) s (x + 1) P.length (by omega) (Nat.le_refl _) (fun r h1 h2 => hg r h2 (by omega) h2)
      rw [← e, List.take_length]
      exact ref_fin hj h hl hv hb hu res s hs k hk out ho hN
    · refine hstep t hto ?_
      have hk2 := (h.to_iff hx ht).mp hto
      have hlt := lk_lt h hx ht hk2
      have hg := gap hj h hx hsx hvis t (by omega) (.inr hto) t
      have e := cat_gap (P := P) s (x + 1) t (by omega) (by omega) (fun r h1 h2 => hg r h2 (by omega) h2)
      rw [← e]
      refine ih t (by omega) ht (by rw [(lk_sq hj h hx ht hk2).2]; exact hsx) (fun r hr hsr => ?_)
      rcases Nat.lt_trichotomy r x with w | w | w
      · obtain ⟨t', g1, g2⟩ := hvis r w hsr
        exact ⟨t', by omega, g2⟩
      · rw [w]
        exact ⟨t, Nat.le_refl _, hto⟩
      · exact absurd hsr (hg r hr w hr)
theorem ref_seqs : ∀ (t k : Nat), k + t = P.length → Ev (fun n => selvedgeref15_Sequences.l0 n l lev base (xL l (mtOf l) P P.length) (mtOf l) (ahF l lev base) (beF l lev base) ((List.range (nfr (P.take k))).map (seqW l lev base P)) (k : Int)) ((List.range (nfr P)).map (seqW l lev base P), 0) := by
  intro t
  induction t with
  | zero =>
    intro k hk
    have e : k = P.length := by omega
    rw [e, List.take_length]
    exact E.succ (E.neg (by rw [xL_len]; omega) (E.ret rfl))
  | succ t ih =>
    intro k hk
    have hkl : k < P.length := by omega
    have hP := (h.plen hl hkl).2
    have IH := ih (k + 1) (by omega)
    have w : wrap64 ((k : Int) + 1) = (k : Int) + 1 := E.w64 (by omega) (by omega)
    have w2 : ((k + 1 : Nat) : Int) = (k : Int) + 1 := by omega
    have hat := xL_at l (mtOf l) P P.length k hkl
    rw [w2] at IH
    refine E.succ ?_
    unfold selvedgeref15_Sequences.l0
    simp only [hat]
    simp only [xF, w]
    refine E.pos (by rw [xL_len]; omega) (E.pos (by omega) ?_)
    rcases fresh_iff hj h hkl with ⟨g1, g2⟩ | ⟨g1, g2⟩
    · rw [take_rg P k hkl, nfr_snoc, if_pos g2, List.range_succ, List.map_append] at IH
      have hsq : (rg P k).sq = nfr (P.take k) := by
        rcases asg_at hj hkl with ⟨g, _⟩ | ⟨_, _, g⟩
        · rw [g2] at g; cases g
        · exact g
      have hlt : ∀ r, r < k → (rg P r).sq < nfr (P.take k) := fun r hr => Nat.lt_of_lt_of_le (sq_lt hj (r + 1) r (by omega) (by omega)) (nfr_mono P (r + 1) k (by omega))
      have hc0 : cat (P.take k) (nfr (P.take k)) = [] := cat_none _ _ (fun c hc => by
        obtain ⟨r, hr, rfl⟩ := mem_take_rg (by omega) hc
        exact hlt r hr)
      have hnl : nfr (P.take k) ≤ k := by
        unfold nfr
        refine Nat.le_trans List.countP_le_length ?_
        rw [List.length_take]
        omega
      have hsl : nfr (P.take k) < nfr P := by
        have := nfr_mono P (k + 1) P.length (by omega)
        rw [List.take_length, take_rg P k hkl, nfr_snoc, if_pos g2] at this
        omega
      have hch := ref_chain hj h hl hv hb hu _ (nfr (P.take k)) hsl k hkl _ (by rw [List.length_map, List.length_range]; omega) IH (P.length + 1) k (by omega) hkl hsq (fun r hr hsr => by have := hlt r hr; omega)
      rw [hc0] at hch
      exact E.neg (by omega) hch
    · rw [take_rg P k hkl, nfr_snoc, if_neg (by rw [g2]; decide), Nat.add_zero] at IH
      exact E.pos (by omega) IH
end
/-- What the document answers, and the program. -/
theorem ref_answer (l lev : List Int) (base : Int) (hb : 0 ≤ base ∧ base ≤ 255) (hu : ∀ x ∈ lev, 0 ≤ x ∧ x ≤ 255) (hl : l.length ≤ 2000) (hv : lev.length = l.length) :
    ∃ got : List S36, runs_Sequences.f l lev base = some (got, 0) ∧ Ev (fun k => selvedgeref15_Sequences.f k l lev base) (got.map to56, 0) ∧ got.length ≤ 2000 ∧ ∀ s ∈ got, s.f0.length ≤ 2000 := by
  obtain ⟨P, hj⟩ := j_at l lev (ahF l lev base) l.length (Nat.le_refl _)
  obtain ⟨h, hr⟩ := ref_runs l lev _ hl hv hj
  have hs := seq_f l lev base hb (List.all_eq_true.mpr (fun x hx => decide_eq_true (hu x hx))) (by omega) hv
  have hok := sqAt_ok l lev (mtOf l) (ahF l lev base) l.length
  have hall : (sqAt l lev (mtOf l) (ahF l lev base) l.length).all = (List.range (nfr P)).map (seqB lev (ahF l lev base) P) := by
    apply List.ext_getElem (by rw [hj.nf]; simp)
    intro i h1 h2
    have := hj.sqs i _ (List.getElem?_eq_getElem h1)
    rw [this]
    simp [seqB]
  refine ⟨_, hs, ?_, by rw [List.length_map]; have := hok.al; omega, fun s hsm => ?_⟩
  · refine E.neg (by omega) (E.pos (by omega) (E.bnd hr (E.bnd (ref14_Match_ev l (by omega)) (E.bnd (around_ev l lev base (by omega) hv) ?_))))
    have := ref_seqs hj h hl hv hb hu P.length 0 (by omega)
    have e : ((sqAt l lev (mtOf l) (ahF l lev base) l.length).all.map (sqEos l lev (mtOf l) (beF l lev base) base)).map to56 = (List.range (nfr P)).map (seqW l lev base P) := by
      rw [hall, List.map_map, List.map_map]
      rfl
    rw [e]
    exact this
  · obtain ⟨s0, hs0, rfl⟩ := List.mem_map.mp hsm
    obtain ⟨i, hi⟩ := List.mem_iff_getElem?.mp hs0
    have := (hok.pl i s0 hi).1
    show s0.f0.length ≤ 2000
    omega
end Go.Proofs.Ytofiflhjlohakaa.X
