import Derived.Test.YtofiflhjlohakaaK
import Derived.Test.YtofiflhjlohakaaF
/-! The runs, and which sequence each belongs to: the program's way. -/
namespace Go.Proofs.Ytofiflhjlohakaa.X
open Go.RowKit Go.Proofs.YtofiflhjlohakaaW.PrintWords Go.Proofs.YtofiflhjlohakaaW.PrintLast Go.Proofs.YtofiflhjlohakaaW.PrintMore
set_option linter.unusedVariables false
set_option linter.unusedSimpArgs false
/-- A run: its places, its sequence, whether a sequence begins with it. -/
structure Rn where
  pl : List Int
  sq : Nat
  fr : Bool
def cat (P : List Rn) (s : Nat) : List Int := (P.filter (fun c => c.sq == s)).flatMap (·.pl)
theorem cat_snoc (P : List Rn) (c : Rn) (s : Nat) : cat (P ++ [c]) s = cat P s ++ (if c.sq = s then c.pl else []) := by
  unfold cat
  rw [List.filter_append, List.flatMap_append]
  congr 1
  by_cases e : c.sq = s
  · simp [e]
  · have : (c.sq == s) = false := beq_eq_false_iff_ne.mpr e
    simp [this, e]
def nfr (P : List Rn) : Nat := P.countP (·.fr)
theorem nfr_snoc (P : List Rn) (c : Rn) : nfr (P ++ [c]) = nfr P + if c.fr = true then 1 else 0 := by
  unfold nfr
  rw [List.countP_append]
  simp [List.countP_cons]
/-- The run q leads to c. -/
def Lk (l m : List Int) (q c : Rn) : Prop := iniC (rd l (lastP q.pl)) = true ∧ 0 ≤ rd m (lastP q.pl) ∧ rd m (lastP q.pl) = rd c.pl 0
def Asg1 (l m : List Int) (Q : List Rn) (c : Rn) : Prop := (c.fr = false ∧ ∃ q ∈ Q, Lk l m q c ∧ c.sq = q.sq) ∨ (c.fr = true ∧ (∀ q ∈ Q, ¬ Lk l m q c) ∧ c.sq = nfr Q)
theorem snoc_split {Q0 : List Rn} {c0 : Rn} {Q T : List Rn} {c : Rn} (h : Q0 ++ [c0] = Q ++ c :: T) : (T = [] ∧ Q = Q0 ∧ c = c0) ∨ ∃ T', T = T' ++ [c0] ∧ Q0 = Q ++ c :: T' := by
  rcases List.eq_nil_or_concat T with rfl | ⟨T', d, rfl⟩
  · have := List.append_inj' h rfl
    exact .inl ⟨rfl, this.1.symm, by injection this.2 with h1 _; exact h1.symm⟩
  · rw [List.concat_eq_append, ← List.cons_append, ← List.append_assoc] at h
    have := List.append_inj' h rfl
    injection this.2 with h1 _
    exact .inr ⟨T', by rw [List.concat_eq_append, h1], this.1⟩
/-- The document's runs. -/
def rPut (lev : List Int) (i : Nat) (R : List (List Int)) : List (List Int) := match R.getLast? with
  | some c => if rd lev (rd c 0) = rd lev i then R.dropLast ++ [c ++ [(i : Int)]] else R ++ [[(i : Int)]]
  | none => [[(i : Int)]]
def rAt (l lev : List Int) : Nat → List (List Int)
  | 0 => []
  | i + 1 => if remC (rd l i) = true then rAt l lev i else rPut lev i (rAt l lev i)
structure J (l lev m ah : List Int) (i : Nat) (st : SqSt) (P : List Rn) : Prop where
  ne : ∀ c ∈ P, c.pl ≠ []
  lv : ∀ c ∈ P, ∀ x ∈ c.pl, rd lev x = rd lev (rd c.pl 0)
  inc : (P.flatMap (·.pl)).Pairwise (· < ·)
  bd : ∀ x ∈ P.flatMap (·.pl), 0 ≤ x ∧ x < (i : Int)
  nf : st.all.length = nfr P
  sl : ∀ c ∈ P, c.sq < nfr P
  sqs : ∀ (s : Nat) (x : S36), st.all[s]? = some x → x = ⟨cat P s, rd lev (rd (cat P s) 0), sideV (mx (rd lev (rd (cat P s) 0)) (rd ah (rd (cat P s) 0))), 0⟩
  cne : ∀ s, s < nfr P → cat P s ≠ []
  ls : (P = [] ∧ st.last = -1) ∨ ∃ Q c, P = Q ++ [c] ∧ st.now = c.sq ∧ st.last = lastP c.pl
  wt : ∀ (p : Int) (s : Nat), (i : Int) ≤ p → (st.wt p = some s ↔ ∃ c ∈ P.dropLast, iniC (rd l (lastP c.pl)) = true ∧ rd m (lastP c.pl) = p ∧ c.sq = s)
  asg : ∀ Q c T, P = Q ++ c :: T → Asg1 l m Q c
  rn : rAt l lev i = P.map (·.pl)
theorem flat_snoc (P : List Rn) (c : Rn) : (P ++ [c]).flatMap (·.pl) = P.flatMap (·.pl) ++ c.pl := by simp
theorem J.zero (l lev m ah : List Int) : J l lev m ah 0 sq0 [] :=
  ⟨fun c h => (by cases h), fun c h => (by cases h), List.Pairwise.nil, fun x h => (by cases h), rfl, fun c h => (by cases h), fun s x h => by simp [sq0] at h, fun s h => absurd h (Nat.not_lt_zero s), .inl ⟨rfl, rfl⟩,
   fun p s h => ⟨fun h => (by cases h), fun ⟨c, h, _⟩ => (by cases h)⟩, fun Q c T h => (by cases Q <;> cases h), rfl⟩
theorem J.rem {l lev m ah : List Int} {i : Nat} {st : SqSt} {P : List Rn} (h : J l lev m ah i st P) (hr : remC (rd l i) = true) : J l lev m ah (i + 1) st P :=
  ⟨h.ne, h.lv, h.inc, fun x hx => by have := h.bd x hx; omega, h.nf, h.sl, h.sqs, h.cne, h.ls, fun p s hp => h.wt p s (by omega), h.asg, by
    show (if remC (rd l i) = true then _ else _) = _
    rw [if_pos hr]
    exact h.rn⟩
theorem rd_snoc0 (p : List Int) (x : Int) (h : p ≠ []) : rd (p ++ [x]) 0 = rd p 0 := by
  have := List.length_pos_iff.mpr h
  exact E.rd_append_left (by omega) (by omega)
theorem J.mem_last {l lev m ah : List Int} {i : Nat} {st : SqSt} {P : List Rn} (h : J l lev m ah i st P) {c : Rn} (hc : c ∈ P) : 0 ≤ lastP c.pl ∧ lastP c.pl < i :=
  h.bd _ (List.mem_flatMap.mpr ⟨c, hc, lastP_mem _ (h.ne c hc)⟩)
/-- A place is put to the sequences: how the row of sequences turns. -/
theorem J.sqs_put {l lev m ah : List Int} {i : Nat} {st : SqSt} {P P' : List Rn} (h : J l lev m ah i st P) (s0 : Nat) (hs0 : s0 < nfr P) (hcat : ∀ s, cat P' s = cat P s ++ if s0 = s then [(i : Int)] else []) :
    ∀ (s : Nat) (x : S36), (st.all.modify s0 (fun s => { s with f0 := s.f0 ++ [(i : Int)] }))[s]? = some x → x = ⟨cat P' s, rd lev (rd (cat P' s) 0), sideV (mx (rd lev (rd (cat P' s) 0)) (rd ah (rd (cat P' s) 0))), 0⟩ := by
  intro s x hx
  obtain ⟨z, hz, rfl⟩ := get_modify hx
  have hsl : s < nfr P := by have := (List.getElem?_eq_some_iff.mp hz).1; rw [h.nf] at this; exact this
  have hq := h.sqs s z hz
  have hne := h.cne s hsl
  rw [hcat s]
  by_cases e : s0 = s
  · rw [if_pos e, if_pos e, rd_snoc0 _ _ hne, hq]
  · rw [if_neg e, if_neg e, List.append_nil]
    exact hq
/-- The run goes on. -/
theorem J.more {l lev m ah : List Int} {i : Nat} {st : SqSt} {Q : List Rn} {c : Rn} (h : J l lev m ah i st (Q ++ [c])) (hnow : st.now = c.sq) (hr : remC (rd l i) = false) (hlev : rd lev (lastP c.pl) = rd lev i) :
    J l lev m ah (i + 1) (sqPut i st) (Q ++ [⟨c.pl ++ [(i : Int)], c.sq, c.fr⟩]) := by
  have hcm : c ∈ Q ++ [c] := by simp
  have hcne := h.ne c hcm
  have hl1 := h.lv c hcm (lastP c.pl) (lastP_mem _ hcne)
  have hcat : ∀ s, cat (Q ++ [⟨c.pl ++ [(i : Int)], c.sq, c.fr⟩]) s = cat (Q ++ [c]) s ++ if c.sq = s then [(i : Int)] else [] := by
    intro s
    rw [cat_snoc, cat_snoc]
    by_cases e : c.sq = s
    · simp [e]
    · simp [e]
  have hnf : nfr (Q ++ [⟨c.pl ++ [(i : Int)], c.sq, c.fr⟩]) = nfr (Q ++ [c]) := by rw [nfr_snoc, nfr_snoc]
  have hfl : (Q ++ [(⟨c.pl ++ [(i : Int)], c.sq, c.fr⟩ : Rn)]).flatMap (·.pl) = (Q ++ [c]).flatMap (·.pl) ++ [(i : Int)] := by
    rw [flat_snoc, flat_snoc, List.append_assoc]
  refine ⟨fun d hd => ?_, fun d hd x hx => ?_, ?_, fun x hx => ?_, ?_, fun d hd => ?_, ?_, fun s hs => ?_, .inr ⟨Q, _, rfl, hnow, (lastP_snoc _ _).symm⟩, fun p s hp => ?_, fun Q' c' T he => ?_, ?_⟩
  · rcases List.mem_append.mp hd with hd | hd
    · exact h.ne d (List.mem_append_left _ hd)
    · rw [List.mem_singleton.mp hd]; simp
  · rcases List.mem_append.mp hd with hd | hd
    · exact h.lv d (List.mem_append_left _ hd) x hx
    · rw [List.mem_singleton.mp hd] at hx ⊢
      show rd lev x = rd lev (rd (c.pl ++ [(i : Int)]) 0)
      rw [rd_snoc0 _ _ hcne]
      rcases List.mem_append.mp hx with hx | hx
      · exact h.lv c hcm x hx
      · rw [List.mem_singleton.mp hx, ← hlev, hl1]
  · rw [hfl]
    exact List.pairwise_append.mpr ⟨h.inc, by simp, fun a ha b hb => by rw [List.mem_singleton.mp hb]; exact (h.bd a ha).2⟩
  · rw [hfl] at hx
    rcases List.mem_append.mp hx with hx | hx
    · have := h.bd x hx; omega
    · rw [List.mem_singleton.mp hx]; omega
  · show (st.all.modify _ _).length = _
    rw [List.length_modify, hnf]
    exact h.nf
  · rw [hnf]
    rcases List.mem_append.mp hd with hd | hd
    · exact h.sl d (List.mem_append_left _ hd)
    · rw [List.mem_singleton.mp hd]; exact h.sl c hcm
  · show ∀ (s : Nat) (x : S36), (st.all.modify st.now _)[s]? = some x → _
    rw [hnow]
    exact h.sqs_put c.sq (h.sl c hcm) hcat
  · rw [hnf] at hs
    rw [hcat]
    have := h.cne s hs
    intro e
    exact this (List.append_eq_nil_iff.mp e).1
  · rw [List.dropLast_concat]
    have := h.wt p s (by omega)
    rw [List.dropLast_concat] at this
    exact this
  · rcases snoc_split he with ⟨rfl, rfl, rfl⟩ | ⟨T', rfl, hQ⟩
    · have hA := h.asg Q' c [] rfl
      have hf : rd (c.pl ++ [(i : Int)]) 0 = rd c.pl 0 := rd_snoc0 _ _ hcne
      rcases hA with ⟨g1, q, hq, ⟨k1, k2, k3⟩, k4⟩ | ⟨g1, g2, g3⟩
      · exact .inl ⟨g1, q, hq, ⟨k1, k2, k3.trans hf.symm⟩, k4⟩
      · exact .inr ⟨g1, fun q hq hk => g2 q hq ⟨hk.1, hk.2.1, hk.2.2.trans hf⟩, g3⟩
    · exact h.asg Q' c' (T' ++ [c]) (by rw [hQ]; simp)
  · show (if remC (rd l i) = true then _ else rPut lev i (rAt l lev i)) = _
    rw [if_neg (by rw [hr]; decide), h.rn]
    unfold rPut
    have e1 : ((Q ++ [c]).map (·.pl)).getLast? = some c.pl := by simp
    rw [e1]
    show (if rd lev (rd c.pl 0) = rd lev i then _ else _) = _
    rw [if_pos (by rw [← hl1, hlev])]
    simp
/-- What waits, when a run has ended. -/
theorem J.wait {l lev ah : List Int} {i : Nat} (hi : i < l.length) {st : SqSt} {P : List Rn} (h : J l lev (mtOf l) ah i st P) : ∀ (p : Int) (s : Nat), (i : Int) ≤ p → (sqWait l (mtOf l) st p = some s ↔ ∃ c ∈ P, iniC (rd l (lastP c.pl)) = true ∧ rd (mtOf l) (lastP c.pl) = p ∧ c.sq = s) := by
  intro p s hp
  have hw := h.wt p s hp
  unfold sqWait
  rcases h.ls with ⟨rfl, hl⟩ | ⟨Q, c, rfl, hnow, hl⟩
  · rw [if_neg (by omega)]
    exact hw
  · rw [List.dropLast_concat] at hw
    have hcm : c ∈ Q ++ [c] := by simp
    have hcl := h.mem_last hcm
    by_cases hc : 0 ≤ st.last ∧ iniC (rd l st.last) = true ∧ 0 ≤ rd (mtOf l) st.last
    · rw [if_pos hc]
      unfold upW
      by_cases e : p = rd (mtOf l) st.last
      · rw [if_pos e]
        constructor
        · intro h1
          injection h1 with h1
          exact ⟨c, hcm, by rw [← hl]; exact hc.2.1, by rw [← hl]; exact e.symm, by rw [← hnow]; exact h1⟩
        · rintro ⟨d, hd, h1, h2, h3⟩
          have hdl := h.mem_last hd
          have hin := mt_inj l (lastP d.pl) (lastP c.pl) hdl.1 (by omega) hcl.1 (by omega) (by omega) (by rw [h2, ← hl]; exact e)
          rcases List.mem_append.mp hd with hd | hd
          · exfalso
            have hpw := h.inc
            rw [flat_snoc] at hpw
            have := (List.pairwise_append.mp hpw).2.2 (lastP d.pl) (List.mem_flatMap.mpr ⟨d, hd, lastP_mem _ (h.ne d (List.mem_append_left _ hd))⟩) (lastP c.pl) (lastP_mem _ (h.ne c hcm))
            omega
          · rw [List.mem_singleton.mp hd] at h3
            rw [hnow, h3]
      · rw [if_neg e, hw]
        constructor
        · rintro ⟨d, hd, h1⟩
          exact ⟨d, List.mem_append_left _ hd, h1⟩
        · rintro ⟨d, hd, h1, h2, h3⟩
          rcases List.mem_append.mp hd with hd | hd
          · exact ⟨d, hd, h1, h2, h3⟩
          · rw [List.mem_singleton.mp hd, ← hl] at h2
            exact absurd h2.symm e
    · rw [if_neg hc, hw]
      constructor
      · rintro ⟨d, hd, h1⟩
        exact ⟨d, List.mem_append_left _ hd, h1⟩
      · rintro ⟨d, hd, h1, h2, h3⟩
        rcases List.mem_append.mp hd with hd | hd
        · exact ⟨d, hd, h1, h2, h3⟩
        · rw [List.mem_singleton.mp hd, ← hl] at h1 h2
          exact absurd ⟨by rw [hl]; exact hcl.1, h1, by omega⟩ hc
theorem cat_none (P : List Rn) (s : Nat) (h : ∀ c ∈ P, c.sq < s) : cat P s = [] := by
  unfold cat
  have : P.filter (fun c => c.sq == s) = [] := List.filter_eq_nil_iff.mpr (fun c hc => by have := h c hc; simp; omega)
  rw [this]
  rfl
/-- A run begins. -/
theorem J.begin {l lev ah : List Int} {i : Nat} (hi : i < l.length) {st : SqSt} {P : List Rn} (h : J l lev (mtOf l) ah i st P) (hr : remC (rd l i) = false) (hlev : st.last < 0 ∨ rd lev st.last ≠ rd lev i) :
    ∃ c, J l lev (mtOf l) ah (i + 1) (sqPut i (sqTurn l lev (mtOf l) ah i st)) (P ++ [c]) := by
  have hw := h.wait hi
  have hrn : ∀ (s : Nat) (f : Bool), rAt l lev (i + 1) = (P ++ [(⟨[(i : Int)], s, f⟩ : Rn)]).map (·.pl) := by
    intro s f
    show (if remC (rd l i) = true then _ else rPut lev i (rAt l lev i)) = _
    rw [if_neg (by rw [hr]; decide), h.rn]
    unfold rPut
    rcases h.ls with ⟨rfl, hl⟩ | ⟨Q, c, rfl, hnow, hl⟩
    · rfl
    · have hcm : c ∈ Q ++ [c] := by simp
      have e1 : ((Q ++ [c]).map (·.pl)).getLast? = some c.pl := by simp
      have hl1 := h.lv c hcm (lastP c.pl) (lastP_mem _ (h.ne c hcm))
      have hcl := h.mem_last hcm
      rw [e1]
      show (if rd lev (rd c.pl 0) = rd lev i then _ else _) = _
      have hne : ¬ rd lev (rd c.pl 0) = rd lev i := by
        rw [← hl1, ← hl]
        rcases hlev with q | q
        · omega
        · exact q
      rw [if_neg hne]
      simp
  -- what all new runs share
  have base : ∀ (s : Nat) (f : Bool) (st' : SqSt), st'.all.length = nfr (P ++ [(⟨[(i : Int)], s, f⟩ : Rn)]) → (∀ c ∈ P ++ [(⟨[(i : Int)], s, f⟩ : Rn)], c.sq < nfr (P ++ [(⟨[(i : Int)], s, f⟩ : Rn)])) →
      (∀ (t : Nat) (x : S36), st'.all[t]? = some x → x = ⟨cat (P ++ [⟨[(i : Int)], s, f⟩]) t, rd lev (rd (cat (P ++ [⟨[(i : Int)], s, f⟩]) t) 0), sideV (mx (rd lev (rd (cat (P ++ [⟨[(i : Int)], s, f⟩]) t) 0)) (rd ah (rd (cat (P ++ [⟨[(i : Int)], s, f⟩]) t) 0))), 0⟩) →
      (∀ t, t < nfr (P ++ [(⟨[(i : Int)], s, f⟩ : Rn)]) → cat (P ++ [⟨[(i : Int)], s, f⟩]) t ≠ []) → st'.now = s → st'.last = i → (st'.wt = upW (sqWait l (mtOf l) st) i none) → Asg1 l (mtOf l) P ⟨[(i : Int)], s, f⟩ →
      J l lev (mtOf l) ah (i + 1) st' (P ++ [⟨[(i : Int)], s, f⟩]) := by
    intro s f st' h1 h2 h3 h4 h5 h6 h7 h8
    refine ⟨fun d hd => ?_, fun d hd x hx => ?_, ?_, fun x hx => ?_, h1, h2, h3, h4, .inr ⟨P, _, rfl, h5, h6⟩, fun p t hp => ?_, fun Q' c' T he => ?_, hrn s f⟩
    · rcases List.mem_append.mp hd with hd | hd
      · exact h.ne d hd
      · rw [List.mem_singleton.mp hd]; simp
    · rcases List.mem_append.mp hd with hd | hd
      · exact h.lv d hd x hx
      · rw [List.mem_singleton.mp hd] at hx ⊢
        rw [List.mem_singleton.mp hx]
        rfl
    · rw [flat_snoc]
      exact List.pairwise_append.mpr ⟨h.inc, by simp, fun a ha b hb => by rw [List.mem_singleton.mp hb]; exact (h.bd a ha).2⟩
    · rw [flat_snoc] at hx
      rcases List.mem_append.mp hx with hx | hx
      · have := h.bd x hx; omega
      · rw [List.mem_singleton.mp hx]; omega
    · rw [List.dropLast_concat, h7, ← hw p t (by omega)]
      unfold upW
      rw [if_neg (by omega)]
    · rcases snoc_split he with ⟨rfl, rfl, rfl⟩ | ⟨T', rfl, hQ⟩
      · exact h8
      · exact h.asg Q' c' T' hQ
  unfold sqTurn
  cases hs : sqWait l (mtOf l) st i with
  | some s =>
    obtain ⟨c0, hc0, g1, g2, g3⟩ := (hw i s (by omega)).mp hs
    have hsl : s < nfr P := by rw [← g3]; exact h.sl c0 hc0
    have hnf : nfr (P ++ [(⟨[(i : Int)], s, false⟩ : Rn)]) = nfr P := by rw [nfr_snoc]; simp
    have hcat : ∀ t, cat (P ++ [(⟨[(i : Int)], s, false⟩ : Rn)]) t = cat P t ++ if s = t then [(i : Int)] else [] := fun t => cat_snoc _ _ _
    refine ⟨⟨[(i : Int)], s, false⟩, base s false _ ?_ (fun d hd => ?_) (h.sqs_put s hsl hcat) (fun t ht => ?_) rfl rfl rfl (.inl ⟨rfl, c0, hc0, ⟨g1, by omega, g2⟩, g3.symm⟩)⟩
    · show (st.all.modify _ _).length = _
      rw [List.length_modify, hnf]
      exact h.nf
    · rw [hnf]
      rcases List.mem_append.mp hd with hd | hd
      · exact h.sl d hd
      · rw [List.mem_singleton.mp hd]; exact hsl
    · rw [hnf] at ht
      rw [hcat]
      intro e
      exact h.cne t ht (List.append_eq_nil_iff.mp e).1
  | none =>
    have hnf : nfr (P ++ [(⟨[(i : Int)], st.all.length, true⟩ : Rn)]) = nfr P + 1 := by rw [nfr_snoc]; simp
    have hcat : ∀ t, cat (P ++ [(⟨[(i : Int)], st.all.length, true⟩ : Rn)]) t = cat P t ++ if st.all.length = t then [(i : Int)] else [] := fun t => cat_snoc _ _ _
    have hz : cat P st.all.length = [] := cat_none P _ (fun c hc => by rw [h.nf]; exact h.sl c hc)
    refine ⟨⟨[(i : Int)], st.all.length, true⟩, base st.all.length true _ ?_ (fun d hd => ?_) (fun t x hx => ?_) (fun t ht => ?_) rfl rfl rfl (.inr ⟨rfl, fun q hq hk => ?_, h.nf⟩)⟩
    · show ((st.all ++ [_]).modify _ _).length = _
      rw [List.length_modify, hnf, List.length_append, h.nf]
      rfl
    · rw [hnf]
      rcases List.mem_append.mp hd with hd | hd
      · have := h.sl d hd; omega
      · rw [List.mem_singleton.mp hd]
        show st.all.length < _
        rw [h.nf]
        omega
    · have hx : ((st.all ++ [(⟨[], rd lev i, sideV (mx (rd lev i) (rd ah i)), 0⟩ : S36)]).modify st.all.length (fun s => { s with f0 := s.f0 ++ [(i : Int)] }))[t]? = some x := hx
      obtain ⟨z, hz2, rfl⟩ := get_modify hx
      rw [hcat]
      rcases get_snoc hz2 with ⟨q, hz3⟩ | ⟨q, rfl⟩
      · rw [if_neg (by omega), if_neg (by omega), List.append_nil]
        exact h.sqs t z hz3
      · rw [if_pos q.symm, if_pos q.symm, q, hz]
        rfl
    · rw [hnf] at ht
      rw [hcat]
      by_cases e : st.all.length = t
      · rw [if_pos e]; simp
      · rw [if_neg e, List.append_nil]
        exact h.cne t (by rw [h.nf] at e; omega)
    · have hk2 : rd (mtOf l) (lastP q.pl) = (i : Int) := hk.2.2
      have := (hw i q.sq (by omega)).mpr ⟨q, hq, hk.1, hk2, rfl⟩
      rw [hs] at this
      cases this
theorem j_at (l lev ah : List Int) : ∀ i, i ≤ l.length → ∃ P, J l lev (mtOf l) ah i (sqAt l lev (mtOf l) ah i) P := by
  intro i
  induction i with
  | zero => intro _; exact ⟨[], J.zero _ _ _ _⟩
  | succ i ih =>
    intro hi
    obtain ⟨P, h⟩ := ih (by omega)
    show ∃ P, J l lev (mtOf l) ah (i + 1) (sqStep l lev (mtOf l) ah i (sqAt l lev (mtOf l) ah i)) P
    unfold sqStep
    by_cases hr : remC (rd l i) = true
    · rw [if_pos hr]
      exact ⟨P, h.rem hr⟩
    · rw [if_neg hr]
      have hr := eq_false_of_ne_true hr
      by_cases q : (sqAt l lev (mtOf l) ah i).last < 0 ∨ rd lev (sqAt l lev (mtOf l) ah i).last ≠ rd lev i
      · rw [if_pos q]
        obtain ⟨c, hc⟩ := h.begin (by omega) hr q
        exact ⟨_, hc⟩
      · rw [if_neg q]
        rcases h.ls with ⟨_, hl⟩ | ⟨Q, c, rfl, hnow, hl⟩
        · exact absurd (.inl (by omega)) q
        · refine ⟨_, h.more hnow hr ?_⟩
          rw [← hl]
          exact Decidable.byContradiction (fun e => q (.inr e))
/-- Rising places below i are at most i. -/
theorem inc_len : ∀ (x : List Int), x.Pairwise (· < ·) → ∀ i : Nat, (∀ p ∈ x, 0 ≤ p ∧ p < (i : Int)) → x.length ≤ i := by
  intro x hx i hb
  have key : ∀ k : Nat, k < x.length → (k : Int) ≤ rd x k := by
    intro k
    induction k with
    | zero => intro hk; exact (hb _ (E.rd_mem (by omega) (by omega))).1
    | succ k ih =>
      intro hk
      have h1 := ih (by omega)
      have h2 : rd x (k : Int) < rd x ((k + 1 : Nat) : Int) := by
        rw [E.rd_get (by omega), E.rd_get hk]
        exact List.pairwise_iff_getElem.mp hx k (k + 1) (by omega) hk (by omega)
      omega
  rcases Nat.eq_zero_or_pos x.length with q | q
  · omega
  · have h1 := key (x.length - 1) (by omega)
    have h2 := (hb _ (E.rd_mem (l := x) (i := ((x.length - 1 : Nat) : Int)) (by omega) (by omega))).2
    omega
end Go.Proofs.Ytofiflhjlohakaa.X
