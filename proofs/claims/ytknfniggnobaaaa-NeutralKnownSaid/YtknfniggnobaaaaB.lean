import Derived.Test.YtknfniggnobaaaaA
/-! The document's Resolve of chapter 18 comes to nRes. -/
namespace Go.Proofs.Ytknfniggnobaaaa.A
open Go.RowKit Go.Proofs.Ytknfniggnobaaaa.X Go.Proofs.YtknfniggnobaaaaW.PrintWords Go.Proofs.YtknfniggnobaaaaW.PrintLast Go.Proofs.Ytknfniggnobaaaa
set_option linter.unusedVariables false
set_option linter.unusedSimpArgs false

theorem refNeutral (c : Int) : selvedgeref18_Neutral.f c = some (nIs c) := neutral_is_some c
theorem refEnds (c : Int) : selvedgeref18_ends.f c = some (nEdge c) := by
  unfold selvedgeref18_ends.f nEdge
  split <;> rfl
theorem refDirection (c : Int) : selvedgeref18_direction.f c = some (nDir c) := by
  unfold selvedgeref18_direction.f nDir
  by_cases h1 : c = 1
  · simp [h1]
  by_cases h2 : c = 2
  · simp [h2]
  by_cases h4 : c = 4
  · simp [h4]
  by_cases h7 : c = 7
  · simp [h7]
  simp [h1, h2, h4, h7]
def row (l : List Int) : List Int := l.filter fun c => c ≠ 10
theorem row_cons_ten (l : List Int) : row (10 :: l) = row l := by simp [row]
theorem row_cons {c : Int} (h : c ≠ 10) (l : List Int) : row (c :: l) = c :: row l := by simp [row, h]
theorem row_length_le (l : List Int) : (row l).length ≤ l.length := List.length_filter_le _ _
theorem behind_row (e : Int) (l : List Int) : nBehind e (row l) = nBehind e l := by
  induction l with
  | nil => rfl
  | cons c l ih =>
    by_cases h : c = 10
    · subst h
      rw [row_cons_ten, ih, nBehind, nStep, if_pos rfl]
    · rw [row_cons h, nBehind, nBehind, ih]
/-- BN go back to where they were. -/
def mg : List Int → List Int → List Int
  | [], _ => []
  | c :: l, r => if c = 10 then 10 :: mg l r else r.headD 0 :: mg l r.tail
theorem mg_row (s e : Int) (l : List Int) : ∀ d, mg l (nRes s e d (row l)) = nRes s e d l := by
  induction l with
  | nil => intro d; rfl
  | cons c l ih =>
    intro d
    by_cases h : c = 10
    · subst h
      rw [row_cons_ten, mg, if_pos rfl, ih, nRes, if_pos rfl]
    · rw [row_cons h, mg, if_neg h, nRes, nRes, if_neg h, if_neg h, behind_row]
      by_cases hi : nIs c = true
      · rw [if_pos hi, if_pos hi, List.headD_cons, List.tail_cons, ih]
      · rw [if_neg hi, if_neg hi, List.headD_cons, List.tail_cons, ih]
theorem nRes_length (s e : Int) (l : List Int) : ∀ d, (nRes s e d l).length = l.length := by
  induction l with
  | nil => intro d; rfl
  | cons c l ih => intro d; rw [nRes]; split; · simp [ih]
                   split <;> simp [ih]
section
variable {l : List Int} (hl : l.length ≤ 140737488351232)
include hl
theorem ref_l4 (rest : List Int) : ∀ (dn out rd1 rr : List Int), l = dn ++ rest → out.length = dn.length → rr.length = (row rest).length → rd1.length ≤ dn.length → Ev (fun k => selvedgeref18_Resolve.l4 k l (rd1 ++ rr) out rd1.length dn.length) (out ++ mg rest rr) := by
  induction rest with
  | nil =>
    intro dn out rd1 rr h ho hr hd
    refine E.succ ?_
    simp only [selvedgeref18_Resolve.l4]
    refine E.neg (by rw [h]; simp) (E.ret (by simp [mg]))
  | cons c rest ih =>
    intro dn out rd1 rr h ho hr hd
    have hlen : (dn.length : Int) < l.length := by rw [h, List.length_append, List.length_cons]; omega
    have hc : rd l dn.length = c := by rw [h]; exact E.rd_mid _ _ _
    refine E.succ ?_
    simp only [selvedgeref18_Resolve.l4]
    refine E.pos hlen (E.pos (by omega) ?_)
    rw [hc]
    rw [E.w64 (x := (dn.length : Int) + 1) (by omega) (by omega)]
    by_cases h10 : c = 10
    · subst h10
      refine E.pos rfl (E.pos (by omega) ?_)
      have := ih (dn ++ [10]) (out ++ [10]) rd1 rr (by rw [h]; simp) (by simp [ho]) (by rw [hr, row_cons_ten]) (by simp; omega)
      rw [List.length_append, List.length_singleton] at this
      simpa [mg] using this
    · rw [row_cons h10] at hr
      cases rr with
      | nil => simp at hr
      | cons x rr =>
        refine E.neg h10 (E.pos (by omega) (E.pos (by rw [List.length_append, List.length_cons]; omega) (E.pos (by omega) ?_)))
        rw [E.rd_mid, E.w64 (x := (rd1.length : Int) + 1) (by omega) (by omega)]
        have := ih (dn ++ [c]) (out ++ [x]) (rd1 ++ [x]) rr (by rw [h]; simp) (by simp [ho]) (by simpa using hr) (by simp; omega)
        rw [List.length_append, List.length_singleton, List.length_append, List.length_singleton] at this
        simpa [mg, h10] using this
theorem ref_l3 (s e side : Int) (v : Int) (r : List Int) (ns : List Int) : ∀ (dn rest : List Int), (dn ++ ns ++ rest).length ≤ l.length → Ev (fun k => selvedgeref18_Resolve.l1 k l s e (dn ++ List.replicate ns.length v ++ rest) side (dn.length + ns.length)) r →
    Ev (fun k => selvedgeref18_Resolve.l3 k l s e (dn ++ ns ++ rest) side dn.length (dn.length + ns.length) v) r := by
  induction ns with
  | nil =>
    intro dn rest hn h
    refine E.succ ?_
    simp only [selvedgeref18_Resolve.l3]
    refine E.neg (by simp) ?_
    simpa using h
  | cons c ns ih =>
    intro dn rest hn h
    simp only [List.length_append, List.length_cons] at hn
    refine E.succ ?_
    simp only [selvedgeref18_Resolve.l3]
    refine E.pos (by rw [List.length_cons]; omega) (E.pos (by omega) (E.pos (by simp; omega) ?_))
    rw [E.w64 (by omega) (by omega), List.append_assoc, List.cons_append, E.set_mid' rfl]
    have := ih (dn ++ [v]) rest (by simp; omega) (by
      rw [show ((dn ++ [v]).length : Int) + ns.length = dn.length + (c :: ns).length by simp; omega]
      simpa [List.replicate_succ] using h)
    rw [show ((dn ++ [v]).length : Int) + ns.length = dn.length + (c :: ns).length by simp; omega] at this
    rw [List.length_append, List.length_singleton] at this
    simpa using this
theorem ref_l2 (s e side : Int) (r : List Int) (ns : List Int) : ∀ (dn rest : List Int) (i : Int), (dn ++ ns ++ rest).length ≤ l.length → (∀ c ∈ ns, nIs c = true) → (∀ c t, rest = c :: t → nIs c = false) → Ev (fun k => selvedgeref18_Resolve.j4 k l s e (dn ++ ns ++ rest) side i (dn.length + ns.length)) r →
    Ev (fun k => selvedgeref18_Resolve.l2 k l s e (dn ++ ns ++ rest) side i dn.length) r := by
  induction ns with
  | nil =>
    intro dn rest i hn hns hr h
    simp only [List.length_append] at hn
    refine E.succ ?_
    simp only [selvedgeref18_Resolve.l2]
    cases rest with
    | nil =>
      refine E.neg (by simp) ?_
      simpa using h
    | cons c t =>
      refine E.pos (by simp; omega) (E.pos (by omega) (E.bno (refNeutral _) ?_))
      rw [List.append_nil, E.rd_mid, hr c t rfl]
      refine E.neg (by simp) ?_
      simpa using h
  | cons c ns ih =>
    intro dn rest i hn hns hr h
    simp only [List.length_append, List.length_cons] at hn
    refine E.succ ?_
    simp only [selvedgeref18_Resolve.l2]
    refine E.pos (by simp; omega) (E.pos (by omega) (E.bno (refNeutral _) ?_))
    rw [List.append_assoc, List.cons_append, E.rd_mid, hns c List.mem_cons_self]
    refine E.pos rfl ?_
    rw [E.w64 (by omega) (by omega)]
    have := ih (dn ++ [c]) rest i (by simp; omega) (fun c' hc' => hns c' (List.mem_cons_of_mem _ hc')) hr (by
      rw [show ((dn ++ [c]).length : Int) + ns.length = dn.length + (c :: ns).length by simp; omega]
      simpa using h)
    rw [List.length_append, List.length_singleton] at this
    simpa using this
end
/-- Neutral ones that stand together. -/
theorem nRes_run (s e d : Int) (rest : List Int) (ns : List Int) (hns : ∀ c ∈ ns, nIs c = true) (h10 : ∀ c ∈ ns, c ≠ 10) : nRes s e d (ns ++ rest) = List.replicate ns.length (if d = nBehind e rest ∧ d ≠ 0 then d else s) ++ nRes s e d rest := by
  induction ns with
  | nil => rfl
  | cons c ns ih =>
    have hb : ∀ ms : List Int, (∀ c ∈ ms, nIs c = true) → (∀ c ∈ ms, c ≠ 10) → nBehind e (ms ++ rest) = nBehind e rest := by
      intro ms
      induction ms with
      | nil => intro _ _; rfl
      | cons x ms ihm =>
        intro h1 h2
        rw [List.cons_append, nBehind, nStep, if_neg (h2 x List.mem_cons_self), if_pos (h1 x List.mem_cons_self)]
        exact ihm (fun c hc => h1 c (List.mem_cons_of_mem _ hc)) (fun c hc => h2 c (List.mem_cons_of_mem _ hc))
    rw [List.cons_append, nRes, if_neg (h10 c List.mem_cons_self), if_pos (hns c List.mem_cons_self), hb ns (fun c hc => hns c (List.mem_cons_of_mem _ hc)) (fun c hc => h10 c (List.mem_cons_of_mem _ hc)), ih (fun c hc => hns c (List.mem_cons_of_mem _ hc)) (fun c hc => h10 c (List.mem_cons_of_mem _ hc))]
    simp [List.replicate_succ]
theorem mem_takeWhile {l : List Int} {x : Int} (h : x ∈ l.takeWhile nIs) : nIs x = true := by
  induction l with
  | nil => simp at h
  | cons y l ih =>
    rw [List.takeWhile_cons] at h
    split at h
    · rename_i hy
      rcases List.mem_cons.1 h with h | h
      · rw [h]; exact hy
      · exact ih h
    · simp at h
theorem head_dropWhile {l : List Int} {c : Int} {t : List Int} (h : l.dropWhile nIs = c :: t) : nIs c = false := by
  induction l with
  | nil => simp at h
  | cons x l ih =>
    rw [List.dropWhile_cons] at h
    split at h
    · exact ih h
    · rename_i hx
      injection h with h1 h2
      subst h1
      simpa using hx
theorem ref_l1 {l : List Int} (hl : l.length ≤ 140737488351232) (s e side : Int) (r : List Int) (m : Nat) : ∀ (dn rest : List Int) (d : Int), rest.length = m → (dn ++ rest).length ≤ l.length → (∀ c ∈ rest, c ≠ 10) → (dn = [] → d = nEdge s) → (∀ x c t, dn.getLast? = some x → rest = c :: t → nIs c = true → d = nDir x) →
    Ev (fun k => selvedgeref18_Resolve.l4 k l (dn ++ nRes side (nEdge e) d rest) [] 0 0) r → Ev (fun k => selvedgeref18_Resolve.l1 k l s e (dn ++ rest) side dn.length) r := by
  induction m using Nat.strongRecOn with
  | _ m ih =>
    intro dn rest d hm hn h10 hd0 hd1 h
    have hn' := hn
    simp only [List.length_append] at hn'
    refine E.succ ?_
    simp only [selvedgeref18_Resolve.l1]
    cases rest with
    | nil =>
      refine E.neg (by simp) ?_
      simpa [nRes] using h
    | cons c t =>
      rw [List.length_cons] at hn' hm
      refine E.pos (by simp; omega) ?_
      by_cases hi : nIs c = true
      · -- a row of neutral ones
        have hsplit : c :: t = (c :: t).takeWhile nIs ++ (c :: t).dropWhile nIs := (List.takeWhile_append_dropWhile).symm
        obtain ⟨ns, hns⟩ : ∃ ns, ns = (c :: t).takeWhile nIs := ⟨_, rfl⟩
        obtain ⟨rs, hrs⟩ : ∃ rs, rs = (c :: t).dropWhile nIs := ⟨_, rfl⟩
        rw [← hns, ← hrs] at hsplit
        have hnsa : ∀ x ∈ ns, nIs x = true := fun x hx => mem_takeWhile (hns ▸ hx)
        have hrsa : ∀ x q, rs = x :: q → nIs x = false := fun x q hx => head_dropWhile (hrs ▸ hx)
        have hne : ns ≠ [] := by rw [hns, List.takeWhile_cons, if_pos hi]; simp
        have hns10 : ∀ x ∈ ns, x ≠ 10 := fun x hx => h10 x (by rw [hsplit]; exact List.mem_append_left _ hx)
        have hlens : ns.length + rs.length = t.length + 1 := by have := congrArg List.length hsplit; simp at this; omega
        have hnpos : 0 < ns.length := by cases ns with | nil => exact absurd rfl hne | cons => simp
        rw [hsplit, ← List.append_assoc]
        rw [hsplit] at h hd1 h10
        refine ref_l2 hl s e side r ns dn rs _ (by simp; omega) hnsa hrsa ?_
        refine E.succ ?_
        simp only [selvedgeref18_Resolve.j4]
        refine E.neg (by omega) (E.bno (refEnds _) (E.bno (refEnds _) ?_))
        have hj5 : Ev (fun k => selvedgeref18_Resolve.j5 k l s e (dn ++ ns ++ rs) side dn.length (dn.length + ns.length) d (nEdge e)) r := by
          have hj6 : ∀ b, b = nBehind (nEdge e) rs → Ev (fun k => selvedgeref18_Resolve.j6 k l s e (dn ++ ns ++ rs) side dn.length (dn.length + ns.length) d b) r := by
            intro b hb
            obtain ⟨v, hv⟩ : ∃ v, v = if d = nBehind (nEdge e) rs ∧ d ≠ 0 then d else side := ⟨_, rfl⟩
            rw [nRes_run _ _ _ _ _ hnsa hns10, ← hv] at h
            have hl1 : Ev (fun k => selvedgeref18_Resolve.l1 k l s e (dn ++ List.replicate ns.length v ++ rs) side (dn.length + ns.length)) r := by
              have := ih rs.length (by omega) (dn ++ List.replicate ns.length v) rs d rfl (by simp; omega) (fun x hx => h10 x (List.mem_append_right _ hx)) (fun hq => by have := congrArg List.length hq; rw [List.length_append, List.length_replicate, List.length_nil] at this; omega) (fun x y q _ hq hq2 => by rw [hrsa y q hq] at hq2; cases hq2) (by rw [List.append_assoc]; exact h)
              rw [show ((dn ++ List.replicate ns.length v).length : Int) = dn.length + ns.length by simp] at this
              exact this
            have hj8 : Ev (fun k => selvedgeref18_Resolve.j8 k l s e (dn ++ ns ++ rs) side dn.length (dn.length + ns.length) v) r := by
              refine E.succ ?_
              simp only [selvedgeref18_Resolve.j8]
              exact ref_l3 hl s e side v r ns dn rs (by simp; omega) hl1
            have hj7 : ∀ q : Bool, q = decide (d = nBehind (nEdge e) rs ∧ d ≠ 0) → Ev (fun k => selvedgeref18_Resolve.j7 k l s e (dn ++ ns ++ rs) side dn.length (dn.length + ns.length) d side q) r := by
              intro q hq
              refine E.succ ?_
              simp only [selvedgeref18_Resolve.j7]
              by_cases hc : d = nBehind (nEdge e) rs ∧ d ≠ 0
              · rw [if_pos hc] at hv
                rw [hv] at hj8
                exact E.pos (by rw [hq]; simpa using hc) hj8
              · rw [if_neg hc] at hv
                rw [hv] at hj8
                exact E.neg (by rw [hq]; simpa using hc) hj8
            refine E.succ ?_
            simp only [selvedgeref18_Resolve.j6]
            by_cases hdb : d = b
            · refine E.pos hdb (hj7 _ ?_)
              rw [hb] at hdb
              by_cases h0 : d = 0 <;> simp [h0, ← hdb]
            · refine E.neg hdb (hj7 _ ?_)
              rw [hb] at hdb
              simp [hdb]
          refine E.succ ?_
          simp only [selvedgeref18_Resolve.j5]
          cases hrs2 : rs with
          | nil =>
            refine E.neg (by simp) ?_
            rw [← hrs2]
            exact hj6 _ (by rw [hrs2]; rfl)
          | cons x q =>
            refine E.pos (by simp; omega) (E.pos (by omega) (E.bno (refDirection _) ?_))
            rw [E.rd_mid' (by simp), ← hrs2]
            exact hj6 _ (by rw [hrs2, nBehind, nStep, if_neg (h10 x (by rw [hrs2]; simp)), if_neg (by rw [hrsa x q hrs2]; simp)])
        by_cases hz : dn = []
        · have h0 := hd0 hz
          rw [← h0]
          refine E.neg (by rw [hz]; simp) hj5
        · have hpos : 0 < dn.length := List.length_pos_iff.2 hz
          refine E.pos (by omega) ?_
          rw [E.w64 (by omega) (by omega)]
          refine E.pos (by omega) (E.pos (by simp; omega) (E.bno (refDirection _) ?_))
          have hlast : dn.getLast? = some (dn.getLast hz) := List.getLast?_eq_some_getLast hz
          have hrd : rd (dn ++ ns ++ rs) ((dn.length : Int) - 1) = dn.getLast hz := by
            rw [List.append_assoc, E.rd_append_left (by omega) (by omega)]
            rw [show ((dn.length : Int) - 1) = ((dn.length - 1 : Nat) : Int) by omega, E.rd_get (by omega)]
            rw [List.getLast_eq_getElem]
          rw [hrd]
          cases hns2 : ns with
          | nil => exact absurd hns2 hne
          | cons y q =>
            have := hd1 _ y (q ++ rs) hlast (by rw [hns2]; rfl) (hnsa y (by rw [hns2]; simp))
            rw [← this, ← hns2]
            exact hj5
      · -- a class of its own
        have hi : nIs c = false := by simpa using hi
        have hc10 := h10 c List.mem_cons_self
        have e2 := ref_l2 hl s e side r [] dn (c :: t) dn.length (by simpa using hn) (by simp) (fun x q hq => by injection hq with hq _; subst hq; exact hi)
        rw [List.append_nil] at e2
        refine e2 ?_
        refine E.succ ?_
        simp only [selvedgeref18_Resolve.j4]
        refine E.pos (by simp) ?_
        rw [E.w64 (by omega) (by omega)]
        have := ih t.length (by omega) (dn ++ [c]) t (nDir c) rfl (by simp; omega) (fun x hx => h10 x (List.mem_cons_of_mem _ hx)) (fun hq => by simp at hq) (fun x y q hx _ _ => by simp at hx; rw [← hx]) (by
          rw [nRes, if_neg hc10, hi] at h
          simpa using h)
        rw [List.length_append, List.length_singleton] at this
        simpa using this
theorem refResolve (l : List Int) (a s e : Int) (h0 : 0 ≤ a) (h1 : a ≤ 255) (hl : l.length ≤ 140737488351232) : Ev (fun k => selvedgeref18_Resolve.f k l a s e) (nRes (if a % 2 = 1 then 2 else 1) (nEdge e) (nEdge s) l) := by
  unfold selvedgeref18_Resolve.f
  suffices h : ∀ (rest dn : List Int), l = dn ++ rest → Ev (fun k => selvedgeref18_Resolve.l0 k l a s e (row dn) dn.length) (nRes (if a % 2 = 1 then 2 else 1) (nEdge e) (nEdge s) l) from h l [] rfl
  intro rest
  induction rest with
  | nil =>
    intro dn h
    have he : l = dn := by simpa using h
    refine E.succ ?_
    simp only [selvedgeref18_Resolve.l0]
    refine E.neg (by rw [he]; simp) ?_
    rw [tmod2 a h0, ← he]
    have hj : ∀ side, side = (if a % 2 = 1 then 2 else 1) → Ev (fun k => selvedgeref18_Resolve.j1 k l s e (row l) side) (nRes (if a % 2 = 1 then 2 else 1) (nEdge e) (nEdge s) l) := by
      intro side hside
      rw [← hside]
      refine E.succ ?_
      simp only [selvedgeref18_Resolve.j1]
      have := ref_l1 hl s e side (nRes side (nEdge e) (nEdge s) l) _ [] (row l) (nEdge s) rfl (by simpa using row_length_le l) (fun c hc => by simp [row] at hc; exact hc.2) (fun _ => rfl) (fun x c t hx => by simp at hx) (by
        have := ref_l4 hl l [] [] [] (nRes side (nEdge e) (nEdge s) (row l)) rfl rfl (nRes_length _ _ _ _) (by simp)
        rw [mg_row] at this
        simpa using this)
      simpa using this
    by_cases hm : a % 2 = 1
    · exact E.pos hm (hj 2 (by rw [if_pos hm]))
    · exact E.neg hm (hj 1 (by rw [if_neg hm]))
  | cons c rest ih =>
    intro dn h
    have hlen : (dn.length : Int) < l.length := by rw [h, List.length_append, List.length_cons]; omega
    have hc : rd l dn.length = c := by rw [h]; exact E.rd_mid _ _ _
    have hrl := row_length_le dn
    refine E.succ ?_
    simp only [selvedgeref18_Resolve.l0]
    refine E.pos hlen (E.pos (by omega) ?_)
    rw [hc, E.w64 (by omega) (by omega)]
    have := ih (dn ++ [c]) (by rw [h]; simp)
    rw [List.length_append, List.length_singleton] at this
    by_cases h10 : c = 10
    · refine E.pos h10 ?_
      simpa [row, h10] using this
    · refine E.neg h10 (E.pos (by omega) ?_)
      simpa [row, h10] using this
end Go.Proofs.Ytknfniggnobaaaa.A
