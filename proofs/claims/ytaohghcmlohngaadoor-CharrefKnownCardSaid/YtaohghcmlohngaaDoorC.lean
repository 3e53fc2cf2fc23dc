import Derived.Test.YtaohghcmlohngaaDoorB
/-! The reference's Find: the same. -/
namespace Go.Proofs.YtaohghcmlohngaaDoor.Pure
open Go.RowKit Go.Proofs.YtaohghcmlohngaaDoor.X Go.Proofs.YtaohghcmlohngaaDoorW.PrintWords Go.Proofs.YtaohghcmlohngaaDoorW.PrintLast Go.Proofs.YtaohghcmlohngaaDoorW.PrintMore
set_option linter.unusedVariables false
set_option linter.unusedSimpArgs false
set_option maxRecDepth 100000
/-! ### A number -/
def repT : List S73 := (selvedgeref03_replaced.f).getD []
theorem rep_f : selvedgeref03_replaced.f = some repT := rfl
theorem rep_l1 (at_ : Int) (v : Int) (L : List S73) (hL : L.length ≤ 1000) : ∀ (b a : List S73), L = a ++ b →
    Ev (fun k => selvedgeref03_number.l1 k at_ v L (a.length : Int)) (match b.find? (fun e => decide (e.f0 = v)) with | some e => (e.f1, at_, true) | none => (v, at_, true)) := by
  intro b
  induction b with
  | nil =>
    intro a ha
    refine E.succ ?_
    simp only [selvedgeref03_number.l1]
    have : a.length = L.length := by rw [ha]; simp
    exact E.neg (by omega) (E.ret rfl)
  | cons e b ih =>
    intro a ha
    have hl : a.length + (b.length + 1) = L.length := by rw [ha]; simp
    have hr : rd_T73 L (a.length : Int) = e := by
      unfold rd_T73
      rw [Int.toNat_natCast, List.getD_eq_getElem?_getD, ha, List.getElem?_append_right (Nat.le_refl _)]
      simp
    refine E.succ ?_
    simp only [selvedgeref03_number.l1, hr]
    refine E.pos (by omega) (E.pos (by omega) ?_)
    rw [List.find?_cons]
    by_cases h : e.f0 = v
    · rw [decide_eq_true h]
      exact E.pos h (E.ret rfl)
    · rw [decide_eq_false h]
      refine E.neg h ?_
      have := ih (a ++ [e]) (by rw [ha]; simp)
      rw [List.length_append, List.length_singleton] at this
      rw [E.w64 (by omega) (by omega)]
      exact this
theorem rep_none : repT.all (fun e => decide (128 ≤ e.f0 ∧ e.f0 ≤ 159)) = true := by decide +kernel
theorem rep_in : ∀ n : Fin 32, (match repT.find? (fun e => decide (e.f0 = (128 + n.val : Int))) with | some e => e.f1 | none => (128 + n.val : Int)) = (if rd othT (n.val : Int) ≠ 0 then rd othT (n.val : Int) else (128 + n.val : Int)) := by decide +kernel
theorem rep_fix (n : Nat) : (match repT.find? (fun e => decide (e.f0 = (n : Int))) with | some e => e.f1 | none => (n : Int)) = (if 128 ≤ n ∧ n ≤ 159 ∧ rd othT ((n : Int) - 128) ≠ 0 then rd othT ((n : Int) - 128) else (n : Int)) := by
  by_cases h : 128 ≤ n ∧ n ≤ 159
  · have := rep_in ⟨n - 128, by omega⟩
    dsimp only at this
    have e : (128 + ((n - 128 : Nat) : Int)) = (n : Int) := by omega
    have e2 : ((n - 128 : Nat) : Int) = (n : Int) - 128 := by omega
    rw [e, e2] at this
    rw [this]
    by_cases q : rd othT ((n : Int) - 128) ≠ 0
    · rw [if_pos q, if_pos ⟨h.1, h.2, q⟩]
    · rw [if_neg q, if_neg (fun z => q z.2.2)]
  · rw [if_neg (fun z => h ⟨z.1, z.2.1⟩)]
    have : repT.find? (fun e => decide (e.f0 = (n : Int))) = none := by
      rw [List.find?_eq_none]
      intro e he q
      have h1 := of_decide_eq_true (List.all_eq_true.1 rep_none e he)
      have h2 := of_decide_eq_true q
      omega
    rw [this]
theorem rnum_j7 (at_ n : Nat) : Ev (fun k => selvedgeref03_number.j7 k (at_ : Int) (n : Int)) ((if 128 ≤ n ∧ n ≤ 159 ∧ rd othT ((n : Int) - 128) ≠ 0 then rd othT ((n : Int) - 128) else (n : Int)), (at_ : Int), true) := by
  refine E.succ ?_
  simp only [selvedgeref03_number.j7]
  refine E.bno rep_f ?_
  have h1 := rep_l1 (at_ : Int) (n : Int) repT (by decide) repT [] rfl
  have h2 := rep_fix n
  refine E.same h1 ?_
  rw [← h2]
  cases repT.find? (fun e => decide (e.f0 = (n : Int))) <;> rfl
theorem rnum_j5 (at_ v : Nat) : Ev (fun k => selvedgeref03_number.j5 k (at_ : Int) (v : Int)) (fixC v, (at_ : Int), true) := by
  have hb : Ev (fun k => selvedgeref03_number.j6 k (at_ : Int) (v : Int) (decide (v = 0 ∨ 1114111 < v ∨ (55296 ≤ v ∧ v ≤ 57343)))) (fixC v, (at_ : Int), true) := by
    refine E.succ ?_
    simp only [selvedgeref03_number.j6]
    unfold fixC
    by_cases q : v = 0 ∨ 1114111 < v ∨ (55296 ≤ v ∧ v ≤ 57343)
    · rw [if_pos q]
      refine E.pos (decide_eq_true q) ?_
      have := rnum_j7 at_ 65533
      rw [if_neg (by omega)] at this
      exact this
    · rw [if_neg q]
      exact E.neg (by simpa using q) (rnum_j7 at_ v)
  refine E.succ ?_
  simp only [selvedgeref03_number.j5]
  by_cases h0 : v = 0
  · rw [decide_eq_true (.inl h0)] at hb
    exact E.pos (by omega) hb
  refine E.neg (by omega) ?_
  by_cases h1 : 1114111 < v
  · rw [decide_eq_true (.inr (.inl h1))] at hb
    exact E.pos (by omega) hb
  refine E.neg (by omega) ?_
  by_cases h2 : 55296 ≤ v
  · refine E.pos (by omega) ?_
    have e : decide ((v : Int) ≤ 57343) = decide (v = 0 ∨ 1114111 < v ∨ (55296 ≤ v ∧ v ≤ 57343)) := by
      by_cases q : (v : Int) ≤ 57343
      · rw [decide_eq_true q, decide_eq_true (by omega)]
      · rw [decide_eq_false q, decide_eq_false (by omega)]
    rw [e]
    exact hb
  · rw [decide_eq_false (by omega)] at hb
    exact E.neg (by omega) hb
theorem rnum_j3 (l : List UInt8) (hl : l.length ≤ 281474976710656) (x cnt v : Nat) (h : x + cnt ≤ l.length) :
    Ev (fun k => selvedgeref03_number.j3 k (mk l) ((x + cnt : Nat) : Int) (x : Int) (v : Int)) (if cnt = 0 then (0, 0, false) else (fixC v, ((x + cnt + semi (l.drop (x + cnt)) : Nat) : Int), true)) := by
  refine E.succ ?_
  simp only [selvedgeref03_number.j3, mk_size]
  by_cases h0 : cnt = 0
  · rw [if_pos h0]
    exact E.pos (by omega) (E.ret rfl)
  rw [if_neg h0]
  refine E.neg (by omega) ?_
  by_cases hlt : x + cnt < l.length
  · refine E.pos (by omega) (E.pos (by omega) (E.succ ?_))
    rw [get_bt hlt]
    simp only [selvedgeref03_number.j4]
    have hs : semi (l.drop (x + cnt)) = if l[x + cnt] = 59 then 1 else 0 := by
      unfold semi
      rw [List.head?_drop, List.getElem?_eq_getElem hlt]
      simp
    rw [hs]
    by_cases q : l[x + cnt] = 59
    · rw [if_pos q]
      refine E.pos (by rw [q]; rfl) ?_
      rw [E.w64 (by omega) (by omega)]
      have e : (((x + cnt : Nat) : Int) + 1) = ((x + cnt + 1 : Nat) : Int) := by omega
      rw [e]
      exact rnum_j5 (x + cnt + 1) v
    · rw [if_neg q]
      refine E.neg ?_ (rnum_j5 (x + cnt) v)
      intro z
      have z2 : ((l[x + cnt]).toNat : Int) = 59 := by simpa using z
      exact q ((byte_eq _ 59 (by omega)).1 z2)
  · refine E.neg (by omega) (E.succ ?_)
    simp only [selvedgeref03_number.j4]
    have hs : semi (l.drop (x + cnt)) = 0 := by
      rw [List.drop_of_length_le (by omega)]
      rfl
    rw [hs]
    exact E.neg (by decide) (rnum_j5 (x + cnt) v)
theorem rnum_l0 (l : List UInt8) (hl : l.length ≤ 281474976710656) (x base : Nat) (hb : base ≤ 16) (p rest : List UInt8) (hp : l = p ++ rest) (hx : p.length = x) : ∀ (b a : List UInt8) (n : Nat), rest = a ++ b → n ≤ 1114112 →
    Ev (fun k => selvedgeref03_number.l0 k (mk l) (base : Int) ((x + a.length : Nat) : Int) (x : Int) (n : Int)) (if a.length + (tw base b).length = 0 then (0, 0, false) else (fixC (valF base (tw base b) n), ((x + (a.length + (tw base b).length) + semi (l.drop (x + (a.length + (tw base b).length))) : Nat) : Int), true)) := by
  intro b
  induction b with
  | nil =>
    intro a n ha hn
    refine E.succ ?_
    simp only [selvedgeref03_number.l0, mk_size]
    have hal : x + a.length = l.length := by rw [hp, ha, ← hx]; simp
    exact E.neg (by omega) (rnum_j3 l hl x a.length n (by omega))
  | cons c b ih =>
    intro a n ha hn
    refine E.succ ?_
    simp only [selvedgeref03_number.l0, mk_size]
    have hal : x + (a.length + (b.length + 1)) = l.length := by rw [hp, ha, ← hx]; simp
    have hbt : bt (mk l) ((x + a.length : Nat) : Int) = (c.toNat : Int) := by
      rw [mk_bt, hp, ha, ← hx, ← List.append_assoc, ← List.length_append, List.getD_eq_getElem?_getD, List.getElem?_append_right (Nat.le_refl _)]
      simp
    refine E.pos (by omega) (E.pos (by omega) ?_)
    rw [hbt]
    by_cases hd : dg c < base
    · rw [tw_cons_pos hd]
      have h16 : dg c ≠ 16 := by omega
      have hde := rdigit_ev c
      rw [if_neg h16] at hde
      refine E.bnd hde (E.pos (by omega) (E.bnd hde (E.pos (by omega) (E.bnd hde ?_))))
      rw [mn_nat n base (dg c) hn hb (dg_le c), E.w64 (by omega) (by omega)]
      have := ih (a ++ [c]) (min (n * base + dg c) 1114112) (by rw [ha]; simp) (by omega)
      rw [List.length_append, List.length_singleton] at this
      have e : (((x + a.length : Nat) : Int) + 1) = ((x + (a.length + 1) : Nat) : Int) := by omega
      rw [e]
      have e2 : a.length + (c :: tw base b).length = a.length + 1 + (tw base b).length := by rw [List.length_cons]; omega
      rw [e2]
      exact this
    · rw [tw_cons_neg hd]
      have key := rnum_j3 l hl x a.length n (by omega)
      by_cases h16 : dg c = 16
      · have hde := rdigit_ev c
        rw [if_pos h16] at hde
        exact E.bnd hde (E.neg (by decide) key)
      · have hde := rdigit_ev c
        rw [if_neg h16] at hde
        exact E.bnd hde (E.pos (by omega) (E.bnd hde (E.neg (by omega) key)))
theorem rnumber_ev (l : List UInt8) (hl : l.length ≤ 281474976710656) : Ev (fun k => selvedgeref03_number.f k (mk l)) (asT (numF l)) := by
  have j1 : ∀ (x base : Nat) (p rest : List UInt8), base ≤ 16 → l = p ++ rest → p.length = x → Ev (fun k => selvedgeref03_number.j1 k (mk l) (base : Int) (x : Int)) (asT (numB base x rest)) := by
    intro x base p rest hb hp hx
    refine E.succ ?_
    simp only [selvedgeref03_number.j1]
    have := rnum_l0 l hl x base hb p rest hp hx rest [] 0 rfl (by omega)
    rw [List.length_nil, Nat.zero_add, Nat.add_zero] at this
    refine E.same this ?_
    unfold numB
    by_cases h : (tw base rest).length = 0
    · rw [if_pos h, if_pos h]; rfl
    · rw [if_neg h, if_neg h]
      have : l.drop (x + (tw base rest).length) = rest.drop (tw base rest).length := by
        rw [hp, ← hx, ← List.drop_drop, List.drop_left]
      rw [this]
      rfl
  unfold selvedgeref03_number.f
  have h0 := rbegins_f l [120]
  have h1 := rbegins_f l [88]
  refine E.bno h0 ?_
  cases l with
  | nil =>
    refine E.neg (by decide) (E.bno h1 (E.succ ?_))
    simp only [selvedgeref03_number.j0]
    exact E.neg (by decide) (j1 0 10 [] [] (by omega) rfl rfl)
  | cons c t =>
    show Ev _ (asT (if c = 120 ∨ c = 88 then numB 16 1 t else numB 10 0 (c :: t)))
    have b1 : ∀ x, begins (c :: t) [x] = decide (c = x) := by
      intro x
      by_cases q : c = x
      · rw [decide_eq_true q]; exact begins_iff.2 ⟨t, by rw [q]; rfl⟩
      · rw [decide_eq_false q]
        cases hz : begins (c :: t) [x] with
        | false => rfl
        | true =>
          obtain ⟨r, hr⟩ := begins_iff.1 hz
          simp at hr
          exact absurd hr.1 q
    rw [b1] at h1 ⊢
    by_cases q1 : c = 120
    · rw [if_pos (.inl q1)]
      refine E.pos (decide_eq_true q1) (E.succ ?_)
      simp only [selvedgeref03_number.j0]
      exact E.pos trivial (j1 1 16 [c] t (by omega) rfl rfl)
    · refine E.neg (by simpa using q1) (E.bno h1 (E.succ ?_))
      simp only [selvedgeref03_number.j0]
      by_cases q2 : c = 88
      · rw [if_pos (.inr q2)]
        exact E.pos (decide_eq_true q2) (j1 1 16 [c] t (by omega) rfl rfl)
      · rw [if_neg (fun z => z.elim q1 q2)]
        exact E.neg (by simpa using q2) (j1 0 10 [] (c :: t) (by omega) rfl rfl)
/-! ### By name -/
def RT : List S26 := (selvedgeref03_Names.f).getD []
theorem RT_f : selvedgeref03_Names.f = some RT := rfl
theorem RT_len : RT.length = 59 := rfl
def nm (e : S26) : List UInt8 := e.f0.data.toList
theorem mk_nm (e : S26) : e.f0 = mk (nm e) := mk_of e.f0
theorem RT_all : RT.all (fun e => decide (look (nm e) = some (e.f1, e.f2)) && (nm e).all isAl && decide (1 ≤ (nm e).length) && decide ((nm e).length ≤ 6)) = true := by decide +kernel
theorem RT_look {e : S26} (he : e ∈ RT) : look (nm e) = some (e.f1, e.f2) ∧ (nm e).all isAl = true ∧ 1 ≤ (nm e).length ∧ (nm e).length ≤ 6 := by
  have := List.all_eq_true.1 RT_all e he
  simp only [Bool.and_eq_true, decide_eq_true_eq] at this
  exact ⟨this.1.1.1, this.1.1.2, this.1.2, this.2⟩
theorem RT_every : ∀ p : Fin 59, RT.any (fun e => decide (nm e = nameOf p)) = true := by decide +kernel
theorem look_RT {w : List UInt8} {x : Int × Bool} (h : look w = some x) : ∃ e ∈ RT, nm e = w ∧ x = (e.f1, e.f2) := by
  unfold look at h
  obtain ⟨n, hn, rfl⟩ := Option.map_eq_some_iff.1 h
  have hm := List.mem_of_find?_eq_some hn
  have hw := List.find?_some hn
  have hw : n.1.data.toList = w := by simpa using hw
  obtain ⟨p, hp, e⟩ := List.mem_iff_getElem.1 hm
  have hno : nameOf p = w := by
    unfold nameOf nmAt
    rw [List.getD_eq_getElem?_getD, List.getElem?_eq_getElem hp, Option.getD_some, e]
    exact hw
  obtain ⟨e', he', hq⟩ := List.any_eq_true.1 (RT_every ⟨p, hp⟩)
  have hq : nm e' = nameOf p := of_decide_eq_true hq
  refine ⟨e', he', hq.trans hno, ?_⟩
  have h1 := (RT_look he').1
  have h2 : look w = some n.2 := by unfold look; rw [hn]; rfl
  rw [hq.trans hno, h2] at h1
  exact Option.some.inj h1
/-- How long a reference the name is at t's head; 0: none. -/
def cand (t : List UInt8) (e : S26) : Nat := if begins t (nm e) = true then (if t[(nm e).length]? = some 59 then (nm e).length + 2 else if e.f2 = true then (nm e).length + 1 else 0) else 0
def stepR (t : List UInt8) (st : List UInt8 × Int) (e : S26) : List UInt8 × Int := if cand t e > st.1.length then ((38 :: t).take (cand t e), e.f1) else st
theorem cand_le {t : List UInt8} {e : S26} : cand t e ≤ t.length + 1 := by
  unfold cand
  split
  · next h =>
    obtain ⟨r, rfl⟩ := begins_iff.1 h
    split
    · next h2 =>
      have : (nm e).length < (nm e ++ r).length := by
        rcases Nat.lt_or_ge (nm e).length (nm e ++ r).length with q | q
        · exact q
        · rw [List.getElem?_eq_none q] at h2; cases h2
      omega
    · split
      · rw [List.length_append]; omega
      · omega
  · omega
def InvR (t : List UInt8) (es : List S26) (st : List UInt8 × Int) : Prop := (st = ([], 0) ∧ ∀ e ∈ es, cand t e = 0) ∨ (∃ e ∈ es, 0 < cand t e ∧ st = ((38 :: t).take (cand t e), e.f1) ∧ ∀ e' ∈ es, cand t e' ≤ cand t e)
theorem InvR.snoc {t : List UInt8} {es : List S26} {st : List UInt8 × Int} (h : InvR t es st) (e : S26) : InvR t (es ++ [e]) (stepR t st e) := by
  unfold stepR
  rcases h with ⟨rfl, h⟩ | ⟨e0, h0, h1, rfl, h2⟩
  · by_cases q : cand t e > ([] : List UInt8).length
    · rw [if_pos q]
      refine .inr ⟨e, by simp, q, rfl, ?_⟩
      intro e' he'
      rcases List.mem_append.1 he' with z | z
      · rw [h e' z]; omega
      · rw [List.mem_singleton] at z; rw [z]; exact Nat.le_refl _
    · rw [if_neg q]
      refine .inl ⟨rfl, ?_⟩
      intro e' he'
      rcases List.mem_append.1 he' with z | z
      · exact h e' z
      · rw [List.mem_singleton] at z; rw [z]; rw [List.length_nil] at q; omega
  · have hl : ((38 :: t).take (cand t e0)).length = cand t e0 := by
      rw [List.length_take, List.length_cons]
      have := cand_le (t := t) (e := e0)
      omega
    by_cases q : cand t e > ((38 :: t).take (cand t e0)).length
    · rw [if_pos q]
      rw [hl] at q
      refine .inr ⟨e, by simp, by omega, rfl, ?_⟩
      intro e' he'
      rcases List.mem_append.1 he' with z | z
      · have := h2 e' z; omega
      · rw [List.mem_singleton] at z; rw [z]; exact Nat.le_refl _
    · rw [if_neg q]
      rw [hl] at q
      refine .inr ⟨e0, List.mem_append.2 (.inl h0), h1, rfl, ?_⟩
      intro e' he'
      rcases List.mem_append.1 he' with z | z
      · exact h2 e' z
      · rw [List.mem_singleton] at z; rw [z]; omega
/-- down, before the attribute's rule. -/
def hit (t : List UInt8) : Nat → Option (Int × Nat × Bool)
  | 0 => none
  | j + 1 =>
    match look (t.take (j + 1)) with
    | none => hit t j
    | some (r, al) => if t[j + 1]? = some 59 then some (r, j + 3, true) else if al = false then hit t j else some (r, j + 2, false)
def rule (t : List UInt8) (attr : Bool) : Option (Int × Nat × Bool) → Option (Int × Nat)
  | none => none
  | some (r, n, sm) => if sm = false ∧ attr = true ∧ barred t[n - 1]? = true then none else some (r, n)
theorem down_hit (t : List UInt8) (attr : Bool) : ∀ j, down t attr j = rule t attr (hit t j) := by
  intro j
  induction j with
  | zero => rfl
  | succ j ih =>
    rw [down, hit]
    cases look (t.take (j + 1)) with
    | none => exact ih
    | some x =>
      obtain ⟨r, al⟩ := x
      dsimp only
      by_cases h59 : t[j + 1]? = some 59
      · rw [if_pos h59, if_pos h59]
        rfl
      · rw [if_neg h59, if_neg h59]
        cases al with
        | false => rw [if_pos rfl, if_pos rfl]; exact ih
        | true =>
          rw [if_neg (show ¬ (true = false) by decide), if_neg (show ¬ (true = false) by decide)]
          unfold rule
          dsimp only
          by_cases q : attr = true ∧ barred t[j + 1]? = true
          · rw [if_pos q, if_pos ⟨rfl, q⟩]
          · rw [if_neg q, if_neg (fun z => q z.2)]
/-- No reference whose name has j bytes. -/
def noAt (t : List UInt8) (j : Nat) : Prop := look (t.take j) = none ∨ ∃ r, look (t.take j) = some (r, false) ∧ t[j]? ≠ some 59
theorem hit_none (t : List UInt8) : ∀ j, hit t j = none → ∀ i, 1 ≤ i → i ≤ j → noAt t i := by
  intro j
  induction j with
  | zero => intro _ i h1 h2; omega
  | succ j ih =>
    intro h i h1 h2
    rw [hit] at h
    cases hl : look (t.take (j + 1)) with
    | none =>
      rw [hl] at h
      by_cases q : i = j + 1
      · subst q; exact .inl hl
      · exact ih h i h1 (by omega)
    | some x =>
      obtain ⟨r, al⟩ := x
      rw [hl] at h
      dsimp only at h
      by_cases h59 : t[j + 1]? = some 59
      · rw [if_pos h59] at h; cases h
      · rw [if_neg h59] at h
        cases al with
        | true => rw [if_neg (by decide)] at h; cases h
        | false =>
          rw [if_pos rfl] at h
          by_cases q : i = j + 1
          · subst q; exact .inr ⟨r, hl, h59⟩
          · exact ih h i h1 (by omega)
theorem hit_some (t : List UInt8) {r : Int} {n : Nat} {sm : Bool} : ∀ j, hit t j = some (r, n, sm) → ∃ j0 al, 1 ≤ j0 ∧ j0 ≤ j ∧ look (t.take j0) = some (r, al) ∧ ((sm = true ∧ t[j0]? = some 59 ∧ n = j0 + 2) ∨ (sm = false ∧ t[j0]? ≠ some 59 ∧ al = true ∧ n = j0 + 1)) ∧ ∀ i, j0 < i → i ≤ j → noAt t i := by
  intro j
  induction j with
  | zero => intro h; cases h
  | succ j ih =>
    intro h
    rw [hit] at h
    cases hl : look (t.take (j + 1)) with
    | none =>
      rw [hl] at h
      obtain ⟨j0, al, a, b, c, d, e⟩ := ih h
      refine ⟨j0, al, a, by omega, c, d, fun i h1 h2 => ?_⟩
      by_cases q : i = j + 1
      · subst q; exact .inl hl
      · exact e i h1 (by omega)
    | some x =>
      obtain ⟨r', al⟩ := x
      rw [hl] at h
      dsimp only at h
      by_cases h59 : t[j + 1]? = some 59
      · rw [if_pos h59] at h
        injection h with h
        injection h with h1 h2
        injection h2 with h2 h3
        subst h1 h2 h3
        exact ⟨j + 1, al, by omega, by omega, hl, .inl ⟨rfl, h59, rfl⟩, fun i h1 h2 => by omega⟩
      · rw [if_neg h59] at h
        cases al with
        | true =>
          rw [if_neg (by decide)] at h
          injection h with h
          injection h with h1 h2
          injection h2 with h2 h3
          subst h1 h2 h3
          exact ⟨j + 1, true, by omega, by omega, hl, .inr ⟨rfl, h59, rfl, rfl⟩, fun i h1 h2 => by omega⟩
        | false =>
          rw [if_pos rfl] at h
          obtain ⟨j0, al, a, b, c, d, e⟩ := ih h
          refine ⟨j0, al, a, by omega, c, d, fun i h1 h2 => ?_⟩
          by_cases q : i = j + 1
          · subst q; exact .inr ⟨r', hl, h59⟩
          · exact e i h1 (by omega)
theorem run_le (t : List UInt8) : run t ≤ t.length := (List.takeWhile_sublist _).length_le
theorem run_at : ∀ (t : List UInt8) (i : Nat), i < run t → ∃ c, t[i]? = some c ∧ isAl c = true
  | [], i, h => by exact absurd h (Nat.not_lt_zero _)
  | c :: t, i, h => by
    unfold run at h
    rw [List.takeWhile_cons] at h
    cases hc : isAl c with
    | false => rw [hc] at h; exact absurd h (Nat.not_lt_zero _)
    | true =>
      rw [hc] at h
      cases i with
      | zero => exact ⟨c, rfl, hc⟩
      | succ i =>
        rw [List.getElem?_cons_succ]
        exact run_at t i (by
          rw [if_pos rfl, List.length_cons] at h
          unfold run
          omega)
theorem run_ge : ∀ (w r : List UInt8), w.all isAl = true → w.length ≤ run (w ++ r)
  | [], _, _ => Nat.zero_le _
  | c :: w, r, h => by
    rw [List.all_cons, Bool.and_eq_true] at h
    unfold run
    rw [List.cons_append, List.takeWhile_cons, if_pos h.1, List.length_cons, List.length_cons]
    have := run_ge w r h.2
    unfold run at this
    omega
theorem cand_zero {t : List UInt8} {e : S26} (he : e ∈ RT) (h : noAt t (nm e).length) : cand t e = 0 := by
  unfold cand
  split
  · next hb =>
    obtain ⟨r, rfl⟩ := begins_iff.1 hb
    have hl := (RT_look he).1
    unfold noAt at h
    rw [List.take_left, hl] at h
    rcases h with h | ⟨r', h, h2⟩
    · cases h
    · injection h with h
      injection h with h3 h4
      rw [if_neg h2, if_neg (by rw [h4]; decide)]
  · rfl
/-- The best candidate is what the program comes to. -/
theorem best {t : List UInt8} {st : List UInt8 × Int} (h : InvR t RT st) : (match hit t (run t) with | none => st = ([], 0) | some (r, n, sm) => st = ((38 :: t).take n, r) ∧ 2 ≤ n ∧ n ≤ t.length + 1 ∧ ((38 :: t)[n - 1]? = some 59 ↔ sm = true)) := by
  have small : ∀ {e : S26}, e ∈ RT → 0 < cand t e → 1 ≤ (nm e).length ∧ (nm e).length ≤ run t ∧ t.take (nm e).length = nm e ∧ cand t e ≤ (nm e).length + 2 ∧ (t[(nm e).length]? ≠ some 59 → cand t e ≤ (nm e).length + 1) := by
    intro e he hc
    have hq := RT_look he
    unfold cand at hc ⊢
    split at hc
    · next hb =>
      obtain ⟨r, rfl⟩ := begins_iff.1 hb
      refine ⟨hq.2.2.1, run_ge _ _ hq.2.1, List.take_left, ?_, ?_⟩
      · rw [if_pos hb]
        split
        · omega
        · split <;> omega
      · intro hn
        rw [if_pos hb, if_neg hn]
        split <;> omega
    · omega
  cases hh : hit t (run t) with
  | none =>
    dsimp only
    rcases h with ⟨h, _⟩ | ⟨e, he, hc, _, _⟩
    · exact h
    · have hs := small he hc
      have := cand_zero he (hit_none t _ hh (nm e).length hs.1 hs.2.1)
      omega
  | some x =>
    obtain ⟨r, n, sm⟩ := x
    dsimp only
    obtain ⟨j0, al, h1, h2, h3, h4, h5⟩ := hit_some t _ hh
    obtain ⟨e0, he0, hn0, hx0⟩ := look_RT h3
    injection hx0 with hx1 hx2
    have hrl := run_le t
    have hlen0 : (nm e0).length = j0 := by rw [hn0, List.length_take]; omega
    have hb0 : begins t (nm e0) = true := begins_iff.2 ⟨t.drop j0, by rw [hn0, List.take_append_drop]⟩
    have hc0 : cand t e0 = n := by
      unfold cand
      rw [if_pos hb0, hlen0]
      rcases h4 with ⟨_, a, b⟩ | ⟨_, a, b, c⟩
      · rw [if_pos a, b]
      · rw [if_neg a, if_pos (by rw [← hx2]; exact b), c]
    have hnpos : 2 ≤ n := by rcases h4 with ⟨_, a, b⟩ | ⟨_, a, b, c⟩ <;> omega
    have hnle : n ≤ t.length + 1 := by rw [← hc0]; exact cand_le
    have hend : (38 :: t)[n - 1]? = some 59 ↔ sm = true := by
      rcases h4 with ⟨a, b, c⟩ | ⟨a, b, _, c⟩
      · rw [c, a]
        have : j0 + 2 - 1 = j0 + 1 := by omega
        rw [this, List.getElem?_cons_succ, b]
        simp
      · rw [c, a]
        obtain ⟨m, rfl⟩ : ∃ m, j0 = m + 1 := ⟨j0 - 1, by omega⟩
        have : m + 1 + 1 - 1 = m + 1 := by omega
        rw [this, List.getElem?_cons_succ]
        obtain ⟨c', hc', hal⟩ := run_at t m (by omega)
        rw [hc']
        constructor
        · intro z
          injection z with z
          rw [z] at hal
          exact absurd hal (by decide)
        · intro z; cases z
    refine ⟨?_, hnpos, hnle, hend⟩
    rcases h with ⟨_, h⟩ | ⟨e, he, hc, hst, hmax⟩
    · have := h e0 he0; omega
    · have hge := hmax e0 he0
      rw [hc0] at hge
      have hs := small he hc
      have hj : (nm e).length ≤ j0 := by
        rcases Nat.lt_or_ge j0 (nm e).length with q | q
        · have := cand_zero he (h5 _ q hs.2.1); omega
        · exact q
      have hjeq : (nm e).length = j0 := by
        rcases Nat.lt_or_ge (nm e).length j0 with q | q
        · obtain ⟨c', hc', hal⟩ := run_at t (nm e).length (by omega)
          have := hs.2.2.2.2 (by
            rw [hc']
            intro z
            injection z with z
            rw [z] at hal
            exact absurd hal (by decide))
          rcases h4 with ⟨_, a, b⟩ | ⟨_, a, b, c⟩ <;> omega
        · omega
      have hnm : nm e = nm e0 := by rw [← hs.2.2.1, hjeq, hn0]
      have hl1 := (RT_look he).1
      have hl0 := (RT_look he0).1
      rw [hnm, hl0] at hl1
      injection hl1 with hl1
      injection hl1 with hf1 hf2
      have hce : cand t e = n := by
        rw [← hc0]
        unfold cand
        rw [hnm, hf2]
      rw [hst, hce, hx1, hf1]
end Go.Proofs.YtaohghcmlohngaaDoor.Pure
