import Derived.Test.YtaohghcmlohngaaDoorA
/-! charref.Find, plainly. -/
namespace Go.Proofs.YtaohghcmlohngaaDoor.Pure
open Go.RowKit Go.Proofs.YtaohghcmlohngaaDoor.X Go.Proofs.YtaohghcmlohngaaDoorW.PrintWords Go.Proofs.YtaohghcmlohngaaDoorW.PrintLast Go.Proofs.YtaohghcmlohngaaDoorW.PrintMore
set_option linter.unusedVariables false
set_option linter.unusedSimpArgs false
def nameOf (i : Nat) : List UInt8 := (nmAt i).1.data.toList
def look (w : List UInt8) : Option (Int × Bool) := (nmT.find? fun n => n.1.data.toList == w).map (·.2)
set_option maxRecDepth 100000 in
theorem ord_all : ∀ i j : Fin 59, Lib.compareBytes (nameOf i) (nameOf j) = (if i.val < j.val then -1 else if i.val = j.val then 0 else 1) := by decide +kernel
set_option maxRecDepth 100000 in
theorem look_all : ∀ i : Fin 59, look (nameOf i) = some (nmAt i).2 := by decide +kernel
theorem cmp0 : ∀ (a b : List UInt8), Lib.compareBytes a b = 0 → a = b
  | [], [], _ => rfl
  | [], _ :: _, h => by simp [Lib.compareBytes] at h
  | _ :: _, [], h => by simp [Lib.compareBytes] at h
  | x :: a, y :: b, h => by
    unfold Lib.compareBytes at h
    split at h
    · cases h
    · split at h
      · cases h
      · next h1 h2 =>
        have : x = y := UInt8.le_antisymm (UInt8.not_lt.1 h2) (UInt8.not_lt.1 h1)
        rw [this, cmp0 a b h]
theorem bs_at (p : Nat) (hp : p < 59) : ∀ (f i j : Nat), i ≤ p → p ≤ j → j ≤ 59 → j - i ≤ f → bsF (mk (nameOf p)) f i j = p := by
  intro f
  induction f with
  | zero => intro i j h1 h2 h3 h4; show i = p; omega
  | succ f ih =>
    intro i j h1 h2 h3 h4
    show (if i < j then (if cmpN ((i + j) / 2) (mk (nameOf p)) < 0 then bsF (mk (nameOf p)) f ((i + j) / 2 + 1) j else bsF (mk (nameOf p)) f i ((i + j) / 2)) else i) = p
    by_cases hij : i < j
    · rw [if_pos hij]
      have ho := ord_all ⟨(i + j) / 2, by omega⟩ ⟨p, hp⟩
      have e : cmpN ((i + j) / 2) (mk (nameOf p)) = Lib.compareBytes (nameOf ((i + j) / 2)) (nameOf p) := rfl
      rw [e, ho]
      dsimp only
      by_cases q : (i + j) / 2 < p
      · rw [if_pos q, if_pos (by decide)]
        exact ih _ _ (by omega) h2 h3 (by omega)
      · rw [if_neg q]
        have : ¬ ((if (i + j) / 2 = p then (0 : Int) else 1) < 0) := by split <;> decide
        rw [if_neg this]
        exact ih _ _ h1 (by omega) (by omega) (by omega)
    · rw [if_neg hij]
      omega
theorem search_f (w : List UInt8) : (∃ p, p < 59 ∧ nameOf p = w ∧ charref_search.f (mk w) = some ((p : Int), true)) ∨ ((∀ p, p < 59 → nameOf p ≠ w) ∧ ∃ R, charref_search.f (mk w) = some (R, false)) := by
  by_cases h : ∃ p, p < 59 ∧ nameOf p = w
  · obtain ⟨p, hp, rfl⟩ := h
    refine .inl ⟨p, hp, rfl, ?_⟩
    unfold charref_search.f
    rw [bs_at p hp 59 0 59 (by omega) (by omega) (by omega) (by omega)]
    have ho := ord_all ⟨p, hp⟩ ⟨p, hp⟩
    have e : cmpN p (mk (nameOf p)) = 0 := by
      have e : cmpN p (mk (nameOf p)) = Lib.compareBytes (nameOf p) (nameOf p) := rfl
      rw [e, ho]
      simp
    simp [e, hp]
  · have h' : ∀ p, p < 59 → nameOf p ≠ w := fun p hp e => h ⟨p, hp, e⟩
    refine .inr ⟨h', ((bsF (mk w) 59 0 59 : Nat) : Int), ?_⟩
    unfold charref_search.f
    have : (decide (bsF (mk w) 59 0 59 < 59) && decide (cmpN (bsF (mk w) 59 0 59) (mk w) = 0)) = false := by
      rw [Bool.and_eq_false_iff]
      by_cases q : bsF (mk w) 59 0 59 < 59
      · exact .inr (decide_eq_false fun z => h' _ q (cmp0 _ _ z))
      · exact .inl (decide_eq_false q)
    rw [this]
theorem look_none {w : List UInt8} (h : ∀ p, p < 59 → nameOf p ≠ w) : look w = none := by
  unfold look
  rw [Option.map_eq_none_iff, List.find?_eq_none]
  intro x hx
  obtain ⟨p, hp, e⟩ := List.mem_iff_getElem.1 hx
  have hp' : p < 59 := hp
  have := h p hp'
  unfold nameOf nmAt at this
  rw [List.getD_eq_getElem?_getD, List.getElem?_eq_getElem hp, Option.getD_some, e] at this
  simpa using this
theorem look_at {p : Nat} (hp : p < 59) : look (nameOf p) = some (nmAt p).2 := look_all ⟨p, hp⟩
/-- May what follows make a name without ; none, in an attribute? -/
def barred (c : Option UInt8) : Bool := match c with | none => false | some c => c == 61 || isAl c
def down (t : List UInt8) (attr : Bool) : Nat → Option (Int × Nat)
  | 0 => none
  | j + 1 =>
    match look (t.take (j + 1)) with
    | none => down t attr j
    | some (r, al) => if t[j + 1]? = some 59 then some (r, j + 3) else if al = false then down t attr j else if attr = true ∧ barred t[j + 1]? = true then none else some (r, j + 2)
def run (t : List UInt8) : Nat := (t.takeWhile isAl).length
def findF (l : List UInt8) (attr : Bool) : Option (Int × Nat) :=
  match l with
  | [] => none
  | c :: t => if c = 38 then (if t.head? = some 35 then (numF (t.drop 1)).map fun x => (x.1, x.2 + 2) else down t attr (run t)) else none
theorem get_bt {l : List UInt8} {n : Nat} (h : n < l.length) : bt (mk l) (n : Int) = ((l[n]).toNat : Int) := by
  rw [mk_bt, List.getD_eq_getElem?_getD, List.getElem?_eq_getElem h]
  rfl
theorem byte_eq (c : UInt8) (n : Nat) (hn : n < 256) : ((c.toNat : Int) = (n : Int)) ↔ c = UInt8.ofNat n := by
  constructor
  · intro h
    have : c.toNat = n := by omega
    rw [← this]
    simp
  · intro h
    rw [h]
    simp
    omega
theorem find_l1 (t : List UInt8) (attr : Bool) (ht : t.length ≤ 281474976710655) : ∀ j, j ≤ t.length → Ev (fun k => charref_Find.l1 k (mk (38 :: t)) attr ((j + 1 : Nat) : Int)) (asT (down t attr j)) := by
  intro j
  induction j with
  | zero =>
    intro hj
    refine E.succ ?_
    simp only [charref_Find.l1]
    exact E.neg (by omega) (E.ret rfl)
  | succ j ih =>
    intro hj
    have ih := ih (by omega)
    refine E.succ ?_
    simp only [charref_Find.l1, mk_size]
    refine E.pos (by omega) (E.pos (by omega) (E.pos (by rw [List.length_cons]; omega) ?_))
    have ex : (mk (38 :: t)).extract 1 ((j + 1 + 1 : Nat) : Int).toNat = mk (t.take (j + 1)) := by
      rw [mk_ex]
      simp
      rfl
    rw [ex]
    have back : wrap64 (((j + 1 + 1 : Nat) : Int) - 1) = ((j + 1 : Nat) : Int) := by rw [E.w64 (by omega) (by omega)]; omega
    rw [back]
    rcases search_f (t.take (j + 1)) with ⟨p, hp, hn, hs⟩ | ⟨hn, R, hs⟩
    · refine E.bno hs (E.pos rfl ?_)
      have hl := look_at hp
      rw [hn] at hl
      have hR : charref_nameR.f (p : Int) = some (nmAt p).2.1 := by unfold charref_nameR.f; rw [if_pos (by omega)]; simp
      have hA : charref_nameAlone.f (p : Int) = some (nmAt p).2.2 := by unfold charref_nameAlone.f; rw [if_pos (by omega)]; simp
      have hd : down t attr (j + 1) = (if t[j + 1]? = some 59 then some ((nmAt p).2.1, j + 3) else if (nmAt p).2.2 = false then down t attr j else if attr = true ∧ barred t[j + 1]? = true then none else some ((nmAt p).2.1, j + 2)) := by
        rw [down, hl]
      generalize (nmAt p).2.1 = r at *
      generalize (nmAt p).2.2 = al at *
      by_cases hend : j + 1 < t.length
      · have hb : bt (mk (38 :: t)) ((j + 1 + 1 : Nat) : Int) = ((t[j + 1]).toNat : Int) := by
          rw [get_bt (by rw [List.length_cons]; omega)]
          rfl
        rw [List.getElem?_eq_getElem hend] at hd
        generalize t[j + 1] = c at *
        refine E.pos (by rw [List.length_cons]; omega) (E.pos (by omega) (E.succ ?_))
        simp only [charref_Find.j4, hb, mk_size, back]
        by_cases h59 : c = 59
        · subst h59
          rw [if_pos rfl] at hd
          rw [hd]
          refine E.pos rfl (E.bno hR (E.ret ?_))
          rw [E.w64 (by omega) (by omega)]
          rfl
        · rw [if_neg (show ¬ (some c = some 59) by simpa using h59)] at hd
          refine E.neg (by
            intro q
            have q2 : (c.toNat : Int) = 59 := by simpa using q
            exact h59 ((byte_eq c 59 (by omega)).1 q2)) (E.bno hA ?_)
          cases al with
          | false => rw [if_pos rfl] at hd; rw [hd]; exact E.neg (by decide) ih
          | true =>
            rw [if_neg (show ¬ (true = false) by decide)] at hd
            refine E.pos rfl ?_
            cases attr with
            | false =>
              rw [if_neg (show ¬ (false = true ∧ barred (some c) = true) by intro q; cases q.1)] at hd
              rw [hd]
              exact E.neg (by decide) (E.bno hR (E.ret rfl))
            | true =>
              refine E.pos rfl (E.pos (by rw [List.length_cons]; omega) (E.pos (by omega) ?_))
              by_cases h61 : c = 61
              · subst h61
                rw [if_pos ⟨rfl, rfl⟩] at hd
                rw [hd]
                exact E.pos (by decide) (E.ret rfl)
              · refine E.neg (by
                  intro q
                  exact h61 ((byte_eq c 61 (by omega)).1 q)) (E.bno (alnum_f c) ?_)
                have hbar : barred (some c) = isAl c := by
                  show (c == 61 || isAl c) = isAl c
                  simp [h61]
                rw [hbar] at hd
                cases hal : isAl c with
                | true => rw [hal, if_pos ⟨rfl, rfl⟩] at hd; rw [hd]; exact E.pos rfl (E.ret rfl)
                | false => rw [hal, if_neg (show ¬ (true = true ∧ false = true) by decide)] at hd; rw [hd]; exact E.neg (by decide) (E.bno hR (E.ret rfl))
      · rw [List.getElem?_eq_none (by omega), if_neg (show ¬ ((none : Option UInt8) = some 59) by decide)] at hd
        refine E.neg (by rw [List.length_cons]; omega) (E.succ ?_)
        simp only [charref_Find.j4, mk_size, back]
        refine E.neg (by decide) (E.bno hA ?_)
        cases al with
        | false => rw [if_pos rfl] at hd; rw [hd]; exact E.neg (by decide) ih
        | true =>
          rw [if_neg (show ¬ (true = false) by decide), if_neg (show ¬ (attr = true ∧ barred none = true) by intro q; cases q.2)] at hd
          rw [hd]
          refine E.pos rfl ?_
          cases attr with
          | false => exact E.neg (by decide) (E.bno hR (E.ret rfl))
          | true => exact E.pos rfl (E.neg (by rw [List.length_cons]; omega) (E.bno hR (E.ret rfl)))
    · refine E.bno hs (E.neg (show ¬ (false = true) by decide) ?_)
      have hd : down t attr (j + 1) = down t attr j := by rw [down, look_none hn]
      rw [hd]
      exact ih
theorem find_l0 (t : List UInt8) (attr : Bool) (ht : t.length ≤ 281474976710655) : ∀ (b a : List UInt8), t = a ++ b → Ev (fun k => charref_Find.l0 k (mk (38 :: t)) attr ((a.length + 1 : Nat) : Int)) (asT (down t attr (a.length + run b))) := by
  intro b
  have fin : ∀ j, j ≤ t.length → Ev (fun k => charref_Find.j2 k (mk (38 :: t)) attr ((j + 1 : Nat) : Int)) (asT (down t attr j)) := by
    intro j hj
    refine E.succ ?_
    simp only [charref_Find.j2]
    exact find_l1 t attr ht j hj
  induction b with
  | nil =>
    intro a ha
    have hal : a.length = t.length := by rw [ha]; simp
    refine E.succ ?_
    simp only [charref_Find.l0, mk_size]
    exact E.neg (by rw [List.length_cons]; omega) (fin a.length (by omega))
  | cons c b ih =>
    intro a ha
    have hal : a.length + (b.length + 1) = t.length := by rw [ha]; simp
    have hb : bt (mk (38 :: t)) ((a.length + 1 : Nat) : Int) = (c.toNat : Int) := by
      rw [mk_bt, ha]
      simp
    refine E.succ ?_
    simp only [charref_Find.l0, mk_size, hb]
    refine E.pos (by rw [List.length_cons]; omega) (E.pos (by omega) (E.bno (alnum_f c) ?_))
    cases hc : isAl c with
    | true =>
      refine E.pos rfl ?_
      have := ih (a ++ [c]) (by rw [ha]; simp)
      have e1 : wrap64 (((a.length + 1 : Nat) : Int) + 1) = (((a ++ [c]).length + 1 : Nat) : Int) := by rw [E.w64 (by omega) (by omega), List.length_append]; simp
      have e2 : a.length + run (c :: b) = (a ++ [c]).length + run b := by
        unfold run
        rw [List.takeWhile_cons, if_pos hc, List.length_append, List.length_cons]
        simp
        omega
      rw [e1, e2]
      exact this
    | false =>
      refine E.neg (by decide) ?_
      have e2 : run (c :: b) = 0 := by
        unfold run
        rw [List.takeWhile_cons, if_neg (by rw [hc]; decide)]
        rfl
      rw [e2]
      exact fin a.length (by omega)
theorem numF_le (l : List UInt8) {x : Int × Nat} (h : numF l = some x) : 0 < x.2 ∧ x.2 ≤ l.length := by
  have one : ∀ (base y : Nat) (r : List UInt8), numB base y r = some x → 0 < x.2 ∧ x.2 ≤ y + r.length := by
    intro base y r h
    unfold numB at h
    split at h
    · cases h
    · next hz =>
      injection h with h
      subst h
      have h1 : (tw base r).length ≤ r.length := by unfold tw; exact (List.takeWhile_sublist _).length_le
      have h2 : semi (r.drop (tw base r).length) ≤ r.length - (tw base r).length := by
        unfold semi
        split
        · next q =>
          cases hd : r.drop (tw base r).length with
          | nil => rw [hd] at q; cases q
          | cons a t =>
            have := congrArg List.length hd
            rw [List.length_drop, List.length_cons] at this
            omega
        · omega
      exact ⟨by show 0 < _; omega, by show _ ≤ _; omega⟩
  cases l with
  | nil => exact absurd (one 10 0 [] h).2 (by have := (one 10 0 [] h).1; simp; omega)
  | cons c t =>
    have h' : (if c = 120 ∨ c = 88 then numB 16 1 t else numB 10 0 (c :: t)) = some x := h
    split at h'
    · have := one _ _ _ h'; rw [List.length_cons]; omega
    · have := one _ _ _ h'; rw [List.length_cons] at *; omega
theorem find_ev (l : List UInt8) (attr : Bool) (hl : l.length ≤ 281474976710656) : Ev (fun k => charref_Find.f k (mk l) attr) (asT (findF l attr)) := by
  unfold charref_Find.f
  rw [mk_toList]
  cases l with
  | nil =>
    refine E.pos rfl (E.succ ?_)
    simp only [charref_Find.j0]
    exact E.pos trivial (E.ret rfl)
  | cons c t =>
    rw [List.length_cons] at hl
    have h0 : bt (mk (c :: t)) 0 = (c.toNat : Int) := mk_bt (c :: t) 0
    refine E.neg (by simp) (E.pos (by rw [mk_size, List.length_cons]; omega) (E.succ ?_))
    simp only [charref_Find.j0, h0]
    show Ev _ (asT (if c = 38 then (if t.head? = some 35 then (numF (t.drop 1)).map fun x => (x.1, x.2 + 2) else down t attr (run t)) else none))
    by_cases hc : c = 38
    · subst hc
      rw [if_pos rfl]
      refine E.neg (by decide) (E.bno (prefix_f (38 :: t) [38, 35]) ?_)
      by_cases h35 : t.head? = some 35
      · rw [if_pos h35]
        obtain ⟨u, rfl⟩ : ∃ u, t = 35 :: u := by
          cases t with
          | nil => cases h35
          | cons a u => simp at h35; exact ⟨u, by rw [h35]⟩
        refine E.pos (begins_iff.2 ⟨u, rfl⟩) (E.pos (by rw [mk_size, List.length_cons, List.length_cons]; omega) ?_)
        rw [mk_ex, mk_size]
        have e : ((38 :: 35 :: u : List UInt8).drop 2).take ((38 :: 35 :: u : List UInt8).length - 2) = u := by simp
        rw [e]
        rw [List.length_cons] at hl
        refine E.bnd (number_ev u (by omega)) ?_
        show Ev _ (asT ((numF u).map fun x => (x.1, x.2 + 2)))
        cases hn : numF u with
        | none => exact E.neg (by decide) (E.ret rfl)
        | some x =>
          refine E.pos rfl (E.ret ?_)
          have := numF_le u hn
          show (x.1, wrap64 ((x.2 : Int) + 2), true) = (x.1, ((x.2 + 2 : Nat) : Int), true)
          rw [E.w64 (by omega) (by omega)]
          simp
      · rw [if_neg h35]
        refine E.neg (by
          intro q
          obtain ⟨r, hr⟩ := begins_iff.1 q
          simp at hr
          rw [hr] at h35
          exact h35 rfl) ?_
        have := find_l0 t attr (by omega) t [] rfl
        rw [List.length_nil, Nat.zero_add, Nat.zero_add] at this
        exact this
    · rw [if_neg hc]
      refine E.pos ?_ (E.ret rfl)
      have : ¬ (c.toNat : Int) = 38 := fun q => hc ((byte_eq c 38 (by omega)).1 q)
      simpa using this
end Go.Proofs.YtaohghcmlohngaaDoor.Pure
