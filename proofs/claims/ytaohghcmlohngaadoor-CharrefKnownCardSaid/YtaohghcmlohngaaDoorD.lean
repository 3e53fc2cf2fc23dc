import Derived.Test.YtaohghcmlohngaaDoorC
import Derived.Test.YtaohghcmlohngaaDoorX7
/-! The reference's Find and both Decodes: the same. -/
namespace Go.Proofs.YtaohghcmlohngaaDoor.Pure
open Go.RowKit Go.Proofs.YtaohghcmlohngaaDoor.X Go.Proofs.YtaohghcmlohngaaDoorW.PrintWords Go.Proofs.YtaohghcmlohngaaDoorW.PrintLast Go.Proofs.YtaohghcmlohngaaDoorW.PrintMore
set_option linter.unusedVariables false
set_option linter.unusedSimpArgs false
set_option maxRecDepth 100000
theorem begins_cons (c : UInt8) (t w : List UInt8) : begins (c :: t) (c :: w) = begins t w := by
  unfold begins
  simp
theorem begins_semi (t w : List UInt8) : begins t (w ++ [59]) = (begins t w && decide (t[w.length]? = some 59)) := by
  cases h : begins t w with
  | true =>
    obtain ⟨r, rfl⟩ := begins_iff.1 h
    rw [List.getElem?_append_right (Nat.le_refl _), Nat.sub_self]
    cases r with
    | nil =>
      simp
      cases hz : begins w (w ++ [59]) with
      | false => rfl
      | true =>
        obtain ⟨r, hr⟩ := begins_iff.1 hz
        have := congrArg List.length hr
        simp at this
    | cons c r =>
      by_cases q : c = 59
      · subst q
        have : begins (w ++ 59 :: r) (w ++ [59]) = true := begins_iff.2 ⟨r, by simp⟩
        rw [this]
        simp
      · cases hz : begins (w ++ c :: r) (w ++ [59]) with
        | false => simp [q]
        | true =>
          obtain ⟨r', hr⟩ := begins_iff.1 hz
          rw [List.append_assoc, List.append_cancel_left_eq] at hr
          simp at hr
          exact absurd hr.1 q
  | false =>
    cases hz : begins t (w ++ [59]) with
    | false => rfl
    | true =>
      obtain ⟨r, hr⟩ := begins_iff.1 hz
      have : begins t w = true := begins_iff.2 ⟨[59] ++ r, by rw [hr]; simp⟩
      rw [this] at h
      cases h
theorem rd26 (a : List S26) (e : S26) (b : List S26) : rd_T26 (a ++ e :: b) (a.length : Int) = e := by
  unfold rd_T26
  rw [Int.toNat_natCast, List.getD_eq_getElem?_getD, List.getElem?_append_right (Nat.le_refl _)]
  simp
theorem rfind_l0 (t : List UInt8) (attr : Bool) (ht : t.length ≤ 281474976710655) : ∀ (b a : List S26) (st : List UInt8 × Int), RT = a ++ b → InvR t a st →
    Ev (fun k => selvedgeref03_Find.l0 k (mk (38 :: t)) attr RT (mk st.1) st.2 (a.length : Int)) (asT (rule t attr (hit t (run t)))) := by
  intro b
  induction b with
  | nil =>
    intro a st ha hi
    rw [List.append_nil] at ha
    subst ha
    have hb := best hi
    refine E.succ ?_
    simp only [selvedgeref03_Find.l0, mk_size]
    refine E.neg (by omega) ?_
    cases hh : hit t (run t) with
    | none =>
      rw [hh] at hb
      dsimp only at hb
      rw [hb]
      exact E.pos (by rfl) (E.ret rfl)
    | some x =>
      obtain ⟨r, n, sm⟩ := x
      rw [hh] at hb
      dsimp only at hb
      obtain ⟨hst, h2, hn, hend⟩ := hb
      have hl1 : st.1.length = n := by rw [hst, List.length_take, List.length_cons]; omega
      have hr : st.2 = r := by rw [hst]
      rw [hl1, hr]
      refine E.neg (by omega) ?_
      cases attr with
      | false =>
        refine E.neg (by decide) (E.ret ?_)
        unfold rule
        dsimp only
        rw [if_neg (fun z => by cases z.2.1)]
        rfl
      | true =>
        have ew : wrap64 ((n : Int) - 1) = ((n - 1 : Nat) : Int) := by rw [E.w64 (by omega) (by omega)]; omega
        rw [ew]
        have hbt : bt (mk st.1) ((n - 1 : Nat) : Int) = ((((38 :: t)[n - 1]?).getD 0).toNat : Int) := by
          rw [mk_bt, hst, List.getD_eq_getElem?_getD, List.getElem?_take, if_pos (by omega)]
        rw [hbt]
        have hsome : (38 :: t)[n - 1]? = some ((38 :: t)[n - 1]'(by rw [List.length_cons]; omega)) := List.getElem?_eq_getElem _
        refine E.pos rfl (E.pos (by omega) (E.pos (by omega) ?_))
        rw [hsome] at hend ⊢
        generalize (38 :: t)[n - 1]'(by rw [List.length_cons]; omega) = c at *
        rw [Option.getD_some]
        by_cases q : c = 59
        · have hsm := hend.1 (by rw [q])
          refine E.pos ((byte_eq c 59 (by omega)).2 q) (E.ret ?_)
          unfold rule
          dsimp only
          rw [hsm, if_neg (fun z => by cases z.1)]
          rfl
        · have hsm : sm = false := by
            cases hs : sm with
            | false => rfl
            | true => exact absurd (Option.some.inj (hend.2 hs)) q
          refine E.neg (fun z => q ((byte_eq c 59 (by omega)).1 z)) ?_
          unfold rule
          dsimp only
          rw [hsm]
          by_cases hlt : n < (38 :: t).length
          · have hx : t[n - 1]? = some ((38 :: t)[n]'hlt) := by
              rw [← List.getElem?_eq_getElem]
              obtain ⟨m, rfl⟩ : ∃ m, n = m + 1 := ⟨n - 1, by omega⟩
              simp
            refine E.pos (by omega) (E.pos (by omega) ?_)
            rw [get_bt hlt, hx]
            generalize (38 :: t)[n]'hlt = d at *
            by_cases q2 : d = 61
            · subst q2
              refine E.pos (by decide) (E.ret ?_)
              rw [if_pos ⟨rfl, rfl, rfl⟩]
              rfl
            · refine E.neg (fun z => q2 ((byte_eq d 61 (by omega)).1 z)) (E.bno (ralnum_f d) ?_)
              have hbar : barred (some d) = isAl d := by
                show (d == 61 || isAl d) = isAl d
                simp [q2]
              rw [hbar]
              cases isAl d with
              | true => exact E.pos rfl (E.ret (by rw [if_pos ⟨rfl, rfl, rfl⟩]; rfl))
              | false => exact E.neg (by decide) (E.ret (by rw [if_neg (fun z => by cases z.2.2)]; rfl))
          · refine E.neg (by omega) (E.ret ?_)
            have hx : t[n - 1]? = none := List.getElem?_eq_none (by rw [List.length_cons] at hlt; omega)
            rw [hx, if_neg (fun z => by cases z.2.2)]
            rfl
  | cons e b ih =>
    intro a st ha hi
    have he : e ∈ RT := by rw [ha]; simp
    have hq := RT_look he
    have hal : a.length + (b.length + 1) = RT.length := by rw [ha]; simp
    have hRL := RT_len
    have nx := ih (a ++ [e]) (stepR t st e) (by rw [ha]; simp) (hi.snoc e)
    rw [List.length_append, List.length_singleton] at nx
    have ew : wrap64 ((a.length : Int) + 1) = ((a.length + 1 : Nat) : Int) := by rw [E.w64 (by omega) (by omega)]; simp
    refine E.succ ?_
    have hrd : rd_T26 RT (a.length : Int) = e := by rw [ha]; exact rd26 a e b
    simp only [selvedgeref03_Find.l0, mk_size, hrd, ew]
    have em : (⟨#[38]⟩ : ByteArray) ++ e.f0 = mk (38 :: nm e) := by
      rw [mk_nm e]
      exact mk_app [38] (nm e)
    have em2 : (mk (38 :: nm e)) ++ (⟨#[59]⟩ : ByteArray) = mk (38 :: (nm e ++ [59])) := mk_app (38 :: nm e) [59]
    simp only [em, em2, mk_size]
    refine E.pos (by omega) (E.pos (by omega) (E.pos ?_ (E.bno (rbegins_f (38 :: t) (38 :: nm e)) ?_)))
    · have : e.f0.size = (nm e).length := by unfold nm; rw [Array.length_toList]; rfl
      omega
    rw [begins_cons]
    cases hb : begins t (nm e) with
    | false =>
      have hc : cand t e = 0 := by unfold cand; rw [if_neg (by rw [hb]; decide)]
      have hs : stepR t st e = st := by unfold stepR; rw [hc, if_neg (by omega)]
      rw [hs] at nx
      exact E.neg (by decide) nx
    | true =>
      refine E.pos rfl (E.pos (by rw [List.length_cons]; omega) (E.bno (rbegins_f (38 :: t) (38 :: (nm e ++ [59]))) ?_))
      rw [begins_cons, begins_semi, hb, Bool.true_and]
      obtain ⟨r, hr⟩ := begins_iff.1 hb
      by_cases h59 : t[(nm e).length]? = some 59
      · have hc : cand t e = (nm e).length + 2 := by unfold cand; rw [if_pos hb, if_pos h59]
        have htk : (38 :: t).take ((nm e).length + 2) = 38 :: (nm e ++ [59]) := by
          rw [List.take_succ_cons]
          congr 1
          rw [hr] at h59 ⊢
          rw [List.getElem?_append_right (Nat.le_refl _), Nat.sub_self] at h59
          cases r with
          | nil => cases h59
          | cons c r =>
            simp at h59
            rw [h59, List.take_append]
            simp [List.take_of_length_le]
        refine E.pos (decide_eq_true h59) ?_
        by_cases hg : cand t e > st.1.length
        · have hs : stepR t st e = (38 :: (nm e ++ [59]), e.f1) := by unfold stepR; rw [if_pos hg, hc, htk]
          rw [hs] at nx
          exact E.pos (by rw [List.length_cons, List.length_append, List.length_singleton]; omega) nx
        · have hs : stepR t st e = st := by unfold stepR; rw [if_neg hg]
          rw [hs] at nx
          exact E.neg (by rw [List.length_cons, List.length_append, List.length_singleton]; omega) nx
      · refine E.neg (by simpa using h59) ?_
        cases h2 : e.f2 with
        | false =>
          have hc : cand t e = 0 := by unfold cand; rw [if_pos hb, if_neg h59, if_neg (by rw [h2]; decide)]
          have hs : stepR t st e = st := by unfold stepR; rw [hc, if_neg (by omega)]
          rw [hs] at nx
          exact E.neg (by decide) nx
        | true =>
          have hc : cand t e = (nm e).length + 1 := by unfold cand; rw [if_pos hb, if_neg h59, if_pos h2]
          have htk : (38 :: t).take ((nm e).length + 1) = 38 :: nm e := by
            rw [List.take_succ_cons, hr, List.take_left]
          refine E.pos rfl ?_
          by_cases hg : cand t e > st.1.length
          · have hs : stepR t st e = (38 :: nm e, e.f1) := by unfold stepR; rw [if_pos hg, hc, htk]
            rw [hs] at nx
            exact E.pos (by rw [List.length_cons]; omega) nx
          · have hs : stepR t st e = st := by unfold stepR; rw [if_neg hg]
            rw [hs] at nx
            exact E.neg (by rw [List.length_cons]; omega) nx
theorem rfind_ev (l : List UInt8) (attr : Bool) (hl : l.length ≤ 281474976710656) : Ev (fun k => selvedgeref03_Find.f k (mk l) attr) (asT (findF l attr)) := by
  unfold selvedgeref03_Find.f
  refine E.bno (rbegins_f l [38]) ?_
  cases l with
  | nil => exact E.neg (by decide) (E.ret rfl)
  | cons c t =>
    rw [List.length_cons] at hl
    show Ev _ (asT (if c = 38 then (if t.head? = some 35 then (numF (t.drop 1)).map fun x => (x.1, x.2 + 2) else down t attr (run t)) else none))
    by_cases hc : c = 38
    · subst hc
      rw [if_pos rfl]
      refine E.pos (begins_iff.2 ⟨t, rfl⟩) (E.bno (rbegins_f (38 :: t) [38, 35]) ?_)
      by_cases h35 : t.head? = some 35
      · rw [if_pos h35]
        obtain ⟨u, rfl⟩ : ∃ u, t = 35 :: u := by
          cases t with
          | nil => cases h35
          | cons a u => simp at h35; exact ⟨u, by rw [h35]⟩
        refine E.pos (begins_iff.2 ⟨u, rfl⟩) (E.pos (by rw [mk_size, List.length_cons, List.length_cons]; omega) ?_)
        rw [mk_ex, mk_size]
        have e : ((38 :: 35 :: u : List UInt8).drop 2).take ((38 :: 35 :: u : List UInt8).length - 2) = u := by simp
        rw [e]
        rw [List.length_cons] at hl
        refine E.bnd (rnumber_ev u (by omega)) ?_
        show Ev _ (asT ((numF u).map fun x => (x.1, x.2 + 2)))
        cases hn : numF u with
        | none => exact E.neg (by decide) (E.ret rfl)
        | some x =>
          refine E.pos rfl (E.ret ?_)
          have := numF_le u hn
          show (x.1, wrap64 ((x.2 : Int) + 2), true) = (x.1, ((x.2 + 2 : Nat) : Int), true)
          rw [E.w64 (by omega) (by omega)]
          simp
      · rw [if_neg h35]
        refine E.neg (by
          intro q
          obtain ⟨r, hr⟩ := begins_iff.1 q
          simp at hr
          rw [hr] at h35
          exact h35 rfl) (E.bno RT_f ?_)
        rw [down_hit]
        exact rfind_l0 t attr (by omega) RT [] ([], 0) rfl (.inl ⟨rfl, fun e he => by cases he⟩)
    · rw [if_neg hc]
      refine E.neg ?_ (E.ret rfl)
      intro z
      obtain ⟨r, hr⟩ := begins_iff.1 z
      simp at hr
      exact hc hr.1
/-! ### Decode -/
theorem oth_all : othT.all (fun x => decide (0 ≤ x ∧ x ≤ 1114111)) = true := by decide +kernel
theorem nm_all : nmT.all (fun n => decide (0 ≤ n.2.1 ∧ n.2.1 ≤ 1114111)) = true := by decide +kernel
theorem oth_in (i : Int) : 0 ≤ rd othT i ∧ rd othT i ≤ 1114111 := by
  unfold rd
  rw [List.getD_eq_getElem?_getD]
  cases h : othT[i.toNat]? with
  | none => exact ⟨by decide, by decide⟩
  | some x => exact of_decide_eq_true (List.all_eq_true.1 oth_all x (List.mem_of_getElem? h))
theorem fixC_in {n : Nat} (h : n ≤ 1114112) : 0 ≤ fixC n ∧ fixC n ≤ 1114111 := by
  unfold fixC
  split
  · exact ⟨by decide, by decide⟩
  · split
    · exact oth_in _
    · omega
theorem look_in {w : List UInt8} {x : Int × Bool} (h : look w = some x) : 0 ≤ x.1 ∧ x.1 ≤ 1114111 := by
  unfold look at h
  obtain ⟨n, hn, rfl⟩ := Option.map_eq_some_iff.1 h
  exact of_decide_eq_true (List.all_eq_true.1 nm_all n (List.mem_of_find?_eq_some hn))
theorem down_in {t : List UInt8} {attr : Bool} : ∀ {j : Nat} {x : Int × Nat}, j ≤ t.length → down t attr j = some x → (0 ≤ x.1 ∧ x.1 ≤ 1114111) ∧ 2 ≤ x.2 ∧ x.2 ≤ t.length + 1 := by
  intro j
  induction j with
  | zero => intro x _ h; cases h
  | succ j ih =>
    intro x hj h
    rw [down] at h
    cases hl : look (t.take (j + 1)) with
    | none => rw [hl] at h; exact ih (by omega) h
    | some y =>
      obtain ⟨r, al⟩ := y
      have hr := look_in hl
      rw [hl] at h
      dsimp only at h
      split at h
      · next h59 =>
        injection h with h
        subst h
        have : j + 1 < t.length := by
          rcases Nat.lt_or_ge (j + 1) t.length with q | q
          · exact q
          · rw [List.getElem?_eq_none q] at h59; cases h59
        exact ⟨hr, by show 2 ≤ j + 3; omega, by show j + 3 ≤ _; omega⟩
      · split at h
        · exact ih (by omega) h
        · split at h
          · cases h
          · injection h with h
            subst h
            exact ⟨hr, by show 2 ≤ j + 2; omega, by show j + 2 ≤ _; omega⟩
theorem numB_in {base y : Nat} {r : List UInt8} {x : Int × Nat} (h : numB base y r = some x) : 0 ≤ x.1 ∧ x.1 ≤ 1114111 := by
  unfold numB at h
  split at h
  · cases h
  · injection h with h
    subst h
    exact fixC_in (valF_le _ _ _ (by omega))
theorem numF_in {l : List UInt8} {x : Int × Nat} (h : numF l = some x) : 0 ≤ x.1 ∧ x.1 ≤ 1114111 := by
  cases l with
  | nil => exact numB_in (base := 10) (y := 0) h
  | cons c t =>
    have h' : (if c = 120 ∨ c = 88 then numB 16 1 t else numB 10 0 (c :: t)) = some x := h
    split at h'
    · exact numB_in h'
    · exact numB_in h'
theorem findF_in {l : List UInt8} {attr : Bool} {x : Int × Nat} (h : findF l attr = some x) : (0 ≤ x.1 ∧ x.1 ≤ 1114111) ∧ 2 ≤ x.2 ∧ x.2 ≤ l.length := by
  cases l with
  | nil => cases h
  | cons c t =>
    have h' : (if c = 38 then (if t.head? = some 35 then (numF (t.drop 1)).map fun x => (x.1, x.2 + 2) else down t attr (run t)) else none) = some x := h
    split at h'
    · split at h'
      · next h35 =>
        obtain ⟨u, rfl⟩ : ∃ u, t = 35 :: u := by
          cases t with
          | nil => cases h35
          | cons a u => simp at h35; exact ⟨u, by rw [h35]⟩
        obtain ⟨y, hy, rfl⟩ := Option.map_eq_some_iff.1 h'
        have h1 := numF_in hy
        have h2 := numF_le _ hy
        have e : (35 :: u : List UInt8).drop 1 = u := rfl
        rw [e] at h2
        exact ⟨h1, by show 2 ≤ y.2 + 2; omega, by show y.2 + 2 ≤ _; rw [List.length_cons, List.length_cons]; omega⟩
      · have := down_in (run_le t) h'
        rw [List.length_cons]
        exact this
    · cases h'
theorem findF_not {c : UInt8} {t : List UInt8} {attr : Bool} (h : c ≠ 38) : findF (c :: t) attr = none := by
  show (if c = 38 then _ else none) = none
  rw [if_neg h]
def decF (attr : Bool) : Nat → List UInt8 → List UInt8
  | 0, _ => []
  | f + 1, [] => []
  | f + 1, c :: t => match findF (c :: t) attr with | some (r, n) => Lib.encodeRune r ++ decF attr f ((c :: t).drop n) | none => c :: decF attr f t
def dec (attr : Bool) (l : List UInt8) : List UInt8 := decF attr l.length l
theorem decF_fuel (attr : Bool) : ∀ (f : Nat) (l : List UInt8) (g : Nat), l.length ≤ f → l.length ≤ g → decF attr f l = decF attr g l := by
  intro f
  induction f with
  | zero =>
    intro l g h1 h2
    have : l = [] := List.length_eq_zero_iff.1 (by omega)
    subst this
    cases g <;> rfl
  | succ f ih =>
    intro l g h1 h2
    cases l with
    | nil => cases g <;> rfl
    | cons c t =>
      rw [List.length_cons] at h1 h2
      obtain ⟨g, rfl⟩ : ∃ g', g = g' + 1 := ⟨g - 1, by omega⟩
      rw [decF, decF]
      cases h : findF (c :: t) attr with
      | none => dsimp only; rw [ih t g (by omega) (by omega)]
      | some x =>
        obtain ⟨r, n⟩ := x
        have hx := findF_in h
        have h2' : 2 ≤ n := hx.2.1
        dsimp only
        rw [ih _ g (by rw [List.length_drop, List.length_cons]; omega) (by rw [List.length_drop, List.length_cons]; omega)]
theorem dec_nil (attr : Bool) : dec attr [] = [] := rfl
theorem dec_none {attr : Bool} {c : UInt8} {t : List UInt8} (h : findF (c :: t) attr = none) : dec attr (c :: t) = c :: dec attr t := by
  unfold dec
  rw [List.length_cons, decF, h]
theorem dec_some {attr : Bool} {c : UInt8} {t : List UInt8} {r : Int} {n : Nat} (h : findF (c :: t) attr = some (r, n)) : dec attr (c :: t) = Lib.encodeRune r ++ dec attr ((c :: t).drop n) := by
  unfold dec
  have hx := findF_in h
  have h2' : 2 ≤ n := hx.2.1
  rw [List.length_cons, decF, h]
  dsimp only
  rw [decF_fuel attr _ _ ((c :: t).drop n).length (by rw [List.length_drop, List.length_cons]; omega) (Nat.le_refl _)]
theorem dec_plain (attr : Bool) : ∀ (a r : List UInt8), (∀ c ∈ a, c ≠ 38) → dec attr (a ++ r) = a ++ dec attr r
  | [], r, _ => rfl
  | c :: a, r, h => by
    rw [List.cons_append, dec_none (findF_not (h c (by simp))), dec_plain attr a r (fun x hx => h x (List.mem_cons_of_mem _ hx))]
    rfl
theorem enc_len (r : Int) : 1 ≤ (Lib.encodeRune r).length ∧ (Lib.encodeRune r).length ≤ 4 := by
  unfold Lib.encodeRune
  rw [List.length_map]
  exact Lib.encodeRuneZ_length r
theorem dec_len (attr : Bool) : ∀ (m : Nat) (l : List UInt8), l.length ≤ m → (dec attr l).length ≤ 2 * l.length := by
  intro m
  induction m with
  | zero =>
    intro l h
    have : l = [] := List.length_eq_zero_iff.1 (by omega)
    subst this
    exact Nat.le_refl _
  | succ m ih =>
    intro l h
    cases l with
    | nil => exact Nat.le_refl _
    | cons c t =>
      rw [List.length_cons] at h
      cases hf : findF (c :: t) attr with
      | none =>
        rw [dec_none hf, List.length_cons, List.length_cons]
        have := ih t (by omega)
        omega
      | some x =>
        obtain ⟨r, n⟩ := x
        have hx := findF_in hf
        have h2' : 2 ≤ n := hx.2.1
        have h3' : n ≤ (c :: t).length := hx.2.2
        rw [dec_some hf, List.length_append]
        have := ih ((c :: t).drop n) (by rw [List.length_drop, List.length_cons]; omega)
        have he := enc_len r
        rw [List.length_drop] at this
        rw [List.length_cons] at *
        omega
theorem idx : ∀ (l : List UInt8), (Lib.indexByte l 38 = -1 ∧ ∀ c ∈ l, c ≠ 38) ∨ ∃ a r, l = a ++ 38 :: r ∧ Lib.indexByte l 38 = a.length ∧ ∀ c ∈ a, c ≠ 38
  | [] => .inl ⟨rfl, fun c h => by cases h⟩
  | b :: l => by
    by_cases hb : b = 38
    · subst hb
      exact .inr ⟨[], l, rfl, by unfold Lib.indexByte; rfl, fun c h => by cases h⟩
    · have e : Lib.indexByte (b :: l) 38 = if Lib.indexByte l 38 == -1 then -1 else Lib.indexByte l 38 + 1 := by
        rw [Lib.indexByte, if_neg (by simpa using hb)]
      rcases idx l with ⟨h1, h2⟩ | ⟨a, r, h1, h2, h3⟩
      · refine .inl ⟨by rw [e, h1]; rfl, fun c hc => ?_⟩
        rcases List.mem_cons.1 hc with q | q
        · rw [q]; exact hb
        · exact h2 c q
      · refine .inr ⟨b :: a, r, by rw [h1]; rfl, ?_, fun c hc => ?_⟩
        · rw [e, h2, if_neg (by simp; try omega), List.length_cons]
          omega
        · rcases List.mem_cons.1 hc with q | q
          · rw [q]; exact hb
          · exact h3 c q
theorem amp_mk (l : List UInt8) : amp (mk l) = Lib.indexByte l 38 := rfl
theorem dec_l0 (attr : Bool) : ∀ (m : Nat) (l b : List UInt8), l.length ≤ m → l.length ≤ 281474976710656 → b.length + 2 * l.length ≤ 140737488355000 → Ev (fun k => charref_Decode.l0 k (mk l) attr b) (mk (b ++ dec attr l)) := by
  intro m
  induction m with
  | zero =>
    intro l b h hl hb
    have : l = [] := List.length_eq_zero_iff.1 (by omega)
    subst this
    refine E.succ ?_
    simp only [charref_Decode.l0, mk_size, mk_data, amp_mk]
    exact E.pos (by omega) (E.pos (by decide) (E.ret rfl))
  | succ m ih =>
    intro l b h hl hb
    refine E.succ ?_
    simp only [charref_Decode.l0, mk_size, mk_data, amp_mk]
    refine E.pos (by omega) ?_
    rcases idx l with ⟨h1, h2⟩ | ⟨a, r, h1, h2, h3⟩
    · refine E.pos (by omega) (E.ret ?_)
      have := dec_plain attr l [] h2
      rw [List.append_nil, dec_nil, List.append_nil] at this
      rw [this]
      rfl
    · rw [h2]
      refine E.neg (by omega) ?_
      have hal : a.length + (r.length + 1) = l.length := by rw [h1]; simp
      have e1 : (mk l).extract (a.length : Int).toNat l.length = mk (38 :: r) := by
        rw [mk_ex, Int.toNat_natCast, h1, List.drop_left, List.take_of_length_le]
        rw [List.length_append]; omega
      have e0 : ((mk l).extract 0 (a.length : Int).toNat).data.toList = a := by
        rw [mk_ex, Int.toNat_natCast, mk_data, h1]
        simp
      rw [e1, e0]
      refine E.bnd (find_ev (38 :: r) attr (by rw [List.length_cons]; omega)) ?_
      have hdec : dec attr l = a ++ dec attr (38 :: r) := by rw [h1, dec_plain attr a _ h3]
      rw [hdec]
      have ex : ∀ q : Nat, 1 ≤ q → q ≤ r.length + 1 → (mk l).extract ((a.length : Int) + (q : Int)).toNat l.length = mk ((38 :: r).drop q) := by
        intro q hq1 hq2
        have : ((a.length : Int) + (q : Int)).toNat = a.length + q := by omega
        rw [mk_ex, this, h1, ← List.drop_drop, List.drop_left, List.take_of_length_le]
        rw [List.length_append, List.length_drop, List.length_cons]; omega
      cases hf : findF (38 :: r) attr with
      | none =>
        refine E.neg (show ¬ (false = true) by decide) ?_
        have := ex 1 (by omega) (by omega)
        rw [Int.natCast_one] at this
        rw [this, dec_none hf]
        have nx := ih r (b ++ a ++ [38]) (by omega) (by omega) (by rw [List.length_append, List.length_append, List.length_singleton]; omega)
        exact E.same nx (by simp [List.append_assoc])
      | some x =>
        obtain ⟨v, n⟩ := x
        have hx := findF_in hf
        have hx1 : 0 ≤ v := hx.1.1
        have hx2 : v ≤ 1114111 := hx.1.2
        have hx3 : 2 ≤ n := hx.2.1
        have hx4 : n ≤ r.length + 1 := hx.2.2
        show Ev (fun k => if true = true then (if -2147483648 ≤ v ∧ v ≤ 2147483647 ∧ 0 < (n : Int) ∧ (a.length : Int) + (n : Int) ≤ (l.length : Int) then charref_Decode.l0 k ((mk l).extract ((a.length : Int) + (n : Int)).toNat l.length) attr (b ++ a ++ Lib.encodeRune v) else none) else charref_Decode.l0 k ((mk l).extract ((a.length : Int) + 1).toNat l.length) attr (b ++ a ++ [38])) _
        refine E.pos rfl (E.pos ⟨by omega, by omega, by omega, by omega⟩ ?_)
        rw [ex n (by omega) hx4, dec_some hf]
        have he := enc_len v
        have nx := ih ((38 :: r).drop n) (b ++ a ++ Lib.encodeRune v) (by rw [List.length_drop, List.length_cons]; omega) (by rw [List.length_drop, List.length_cons]; omega) (by rw [List.length_append, List.length_append, List.length_drop, List.length_cons]; omega)
        exact E.same nx (by simp [List.append_assoc])
theorem dec_ev (l : List UInt8) (attr : Bool) (hl : l.length ≤ 1000000000000) : Ev (fun k => charref_Decode.f k (mk l) attr) (mk (dec attr l)) := by
  unfold charref_Decode.f
  exact dec_l0 attr l.length l [] (Nat.le_refl _) (by omega) (by rw [List.length_nil]; omega)
/-! ### The reference's Decode -/
def ints (l : List UInt8) : List Int := l.map fun c => (c.toNat : Int)
theorem ints_app (a b : List UInt8) : ints (a ++ b) = ints a ++ ints b := by unfold ints; rw [List.map_append]
theorem ints_len (a : List UInt8) : (ints a).length = a.length := by unfold ints; rw [List.length_map]
theorem strs (l : List UInt8) : strOfNums (ints l) = mk l := by
  unfold strOfNums mk ints
  rw [List.map_map]
  have : (fun n : Int => UInt8.ofNat n.toNat) ∘ (fun c : UInt8 => (c.toNat : Int)) = id := by
    funext c
    simp
  rw [this, List.map_id]
theorem ints_enc (r : Int) : ints (Lib.encodeRune r) = Lib.encodeRuneZ r := by
  unfold ints Lib.encodeRune
  rw [List.map_map]
  have : ∀ x ∈ Lib.encodeRuneZ r, ((fun c : UInt8 => (c.toNat : Int)) ∘ fun x : Int => x.toNat.toUInt8) x = x := by
    intro x hx
    have := Lib.encodeRuneZ_byte r x hx
    show ((x.toNat.toUInt8).toNat : Int) = x
    rw [Nat.toUInt8_eq, UInt8.toNat_ofNat']
    omega
  rw [List.map_congr_left this, List.map_id']
theorem i32_and63 {x : Int} (h0 : 0 ≤ x) (h1 : x < 2147483648) : Go.bits .and .i32 x 63 = x % 64 := bits_mask .i32 31 (by decide) wraps_i32 6 (by decide) x h0 h1
theorem encZ_bad {r : Int} (h : r < 0 ∨ 1114111 < r ∨ (55296 ≤ r ∧ r ≤ 57343)) : Lib.encodeRuneZ r = [239, 191, 189] := by
  unfold Lib.encodeRuneZ
  rw [if_neg (show ¬ (0 ≤ r ∧ r ≤ 127) by omega), if_neg (show ¬ (128 ≤ r ∧ r ≤ 2047) by omega), if_neg (show ¬ ((2048 ≤ r ∧ r < 55296) ∨ (57343 < r ∧ r ≤ 65535)) by omega), if_neg (show ¬ (65536 ≤ r ∧ r ≤ 1114111) by omega)]
theorem One_j0 (r : Int) (c : Bool) (h1 : c = true → r < 0 ∨ 1114111 < r ∨ (55296 ≤ r ∧ r ≤ 57343)) (h2 : c = false → 0 ≤ r ∧ r ≤ 1114111 ∧ ¬ (55296 ≤ r ∧ r ≤ 57343)) : Ev (fun k => selvedgeref02_One.j0 k r c) (Lib.encodeRuneZ r) := by
  refine E.succ ?_
  simp only [selvedgeref02_One.j0]
  cases c with
  | true => rw [encZ_bad (h1 rfl)]; exact E.pos rfl (E.ret rfl)
  | false =>
    have h := h2 rfl
    refine E.neg (by decide) ?_
    by_cases c1 : r < 128
    · refine E.pos c1 (E.ret ?_)
      rw [Lib.encodeRuneZ_one (by omega) (by omega), Int.emod_eq_of_lt (by omega) (by omega)]
    refine E.neg c1 ?_
    by_cases c2 : r < 2048
    · refine E.pos c2 (E.ret ?_)
      rw [Lib.encodeRuneZ_two (by omega) (by omega), i32_and63 (by omega) (by omega), u8_or192 _ (by omega) (by omega), u8_or128 _ (by omega) (by omega), Int.emod_eq_of_lt (show 0 ≤ r / 64 by omega) (by omega), Int.emod_eq_of_lt (show 0 ≤ r % 64 by omega) (by omega)]
    refine E.neg c2 ?_
    by_cases c3 : r < 65536
    · refine E.pos c3 (E.ret ?_)
      rw [Lib.encodeRuneZ_three (by omega), i32_and63 (by omega) (by omega), i32_and63 (by omega) (by omega), u8_or224 _ (by omega) (by omega), u8_or128 _ (by omega) (by omega), u8_or128 _ (by omega) (by omega), Int.emod_eq_of_lt (show 0 ≤ r / 4096 by omega) (by omega), Int.emod_eq_of_lt (show 0 ≤ r % 64 by omega) (by omega), Int.emod_eq_of_lt (show 0 ≤ r / 64 % 64 by omega) (by omega)]
    refine E.neg c3 (E.ret ?_)
    unfold Lib.encodeRuneZ
    rw [if_neg (show ¬ (0 ≤ r ∧ r ≤ 127) by omega), if_neg (show ¬ (128 ≤ r ∧ r ≤ 2047) by omega), if_neg (show ¬ ((2048 ≤ r ∧ r < 55296) ∨ (57343 < r ∧ r ≤ 65535)) by omega), if_pos (show (65536 ≤ r ∧ r ≤ 1114111) by omega)]
    rw [i32_and63 (by omega) (by omega), i32_and63 (by omega) (by omega), i32_and63 (by omega) (by omega), u8_or240 _ (by omega) (by omega), u8_or128 _ (by omega) (by omega), u8_or128 _ (by omega) (by omega), u8_or128 _ (by omega) (by omega), Int.emod_eq_of_lt (show 0 ≤ r / 262144 by omega) (by omega), Int.emod_eq_of_lt (show 0 ≤ r % 64 by omega) (by omega), Int.emod_eq_of_lt (show 0 ≤ r / 64 % 64 by omega) (by omega), Int.emod_eq_of_lt (show 0 ≤ r / 4096 % 64 by omega) (by omega)]
theorem One_ev (r : Int) : Ev (fun k => selvedgeref02_One.f k r) (Lib.encodeRuneZ r) := by
  unfold selvedgeref02_One.f
  by_cases c1 : r < 0
  · exact E.pos c1 (One_j0 r true (fun _ => .inl c1) (fun h => by cases h))
  refine E.neg c1 ?_
  by_cases c2 : r > 1114111
  · exact E.pos c2 (One_j0 r true (fun _ => .inr (.inl c2)) (fun h => by cases h))
  refine E.neg c2 ?_
  by_cases c3 : r ≥ 55296
  · exact E.pos c3 (One_j0 r _ (fun h => .inr (.inr ⟨c3, of_decide_eq_true h⟩)) (fun h => ⟨by omega, by omega, fun q => of_decide_eq_false h q.2⟩))
  · exact E.neg c3 (One_j0 r false (fun h => by cases h) (fun _ => by omega))
theorem rdec_l0 (l : List UInt8) (attr : Bool) (hl : l.length ≤ 1000000000000) : ∀ (m : Nat) (d p acc : List UInt8), d.length ≤ m → l = p ++ d → acc.length + 4 * d.length ≤ 140737488355000 → Ev (fun k => selvedgeref03_Decode.l0 k (mk l) attr (ints acc) (p.length : Int)) (mk (acc ++ dec attr d)) := by
  intro m
  induction m with
  | zero =>
    intro d p acc hd hp ha
    have : d = [] := List.length_eq_zero_iff.1 (by omega)
    subst this
    rw [List.append_nil] at hp
    refine E.succ ?_
    simp only [selvedgeref03_Decode.l0, mk_size]
    refine E.neg (by rw [hp]; omega) (E.ret ?_)
    rw [strs, dec_nil, List.append_nil]
  | succ m ih =>
    intro d p acc hd hp ha
    cases d with
    | nil =>
      rw [List.append_nil] at hp
      refine E.succ ?_
      simp only [selvedgeref03_Decode.l0, mk_size]
      refine E.neg (by rw [hp]; omega) (E.ret ?_)
      rw [strs, dec_nil, List.append_nil]
    | cons c t =>
      rw [List.length_cons] at hd ha
      have hpl : p.length + (t.length + 1) = l.length := by rw [hp]; simp
      refine E.succ ?_
      simp only [selvedgeref03_Decode.l0, mk_size, ints_len]
      have e1 : (mk l).extract (p.length : Int).toNat l.length = mk (c :: t) := by
        rw [mk_ex, Int.toNat_natCast, hp, List.drop_left, List.take_of_length_le]
        rw [List.length_append]; omega
      refine E.pos (by omega) (E.pos (by omega) (E.pos (by omega) ?_))
      rw [e1]
      refine E.bnd (rfind_ev (c :: t) attr (by rw [List.length_cons]; omega)) ?_
      cases hf : findF (c :: t) attr with
      | none =>
        refine E.neg (show ¬ (false = true) by decide) (E.pos (by omega) ?_)
        have hb : bt (mk l) (p.length : Int) = (c.toNat : Int) := by
          rw [mk_bt, hp, List.getD_eq_getElem?_getD, List.getElem?_append_right (Nat.le_refl _)]
          simp
        have nx := ih t (p ++ [c]) (acc ++ [c]) (by omega) (by rw [hp]; simp) (by rw [List.length_append, List.length_singleton]; omega)
        rw [List.length_append, List.length_singleton, ints_app] at nx
        rw [hb, E.w64 (by omega) (by omega), dec_none hf]
        exact E.same nx (by simp [List.append_assoc])
      | some x =>
        obtain ⟨v, n⟩ := x
        have hx := findF_in hf
        have hx3 : 2 ≤ n := hx.2.1
        have hx4 : n ≤ (c :: t).length := hx.2.2
        rw [List.length_cons] at hx4
        have he := enc_len v
        have hez : (Lib.encodeRuneZ v).length = (Lib.encodeRune v).length := by unfold Lib.encodeRune; rw [List.length_map]
        refine E.pos rfl (E.bnd (One_ev v) (E.pos (by rw [hez]; omega) ?_))
        have nx := ih ((c :: t).drop n) (p ++ (c :: t).take n) (acc ++ Lib.encodeRune v) (by rw [List.length_drop, List.length_cons]; omega) (by rw [hp, List.append_assoc, List.take_append_drop]) (by rw [List.length_append, List.length_drop, List.length_cons]; omega)
        have hpn : (p ++ (c :: t).take n).length = p.length + n := by rw [List.length_append, List.length_take, List.length_cons]; omega
        rw [hpn, ints_app, ints_enc] at nx
        have ew : wrap64 ((p.length : Int) + (n : Int)) = ((p.length + n : Nat) : Int) := by rw [E.w64 (by omega) (by omega)]; omega
        show Ev (fun k => selvedgeref03_Decode.l0 k (mk l) attr (ints acc ++ Lib.encodeRuneZ v) (wrap64 ((p.length : Int) + (n : Int)))) _
        rw [ew, dec_some hf]
        exact E.same nx (by simp [List.append_assoc])
theorem rdec_ev (l : List UInt8) (attr : Bool) (hl : l.length ≤ 1000000000000) : Ev (fun k => selvedgeref03_Decode.f k (mk l) attr) (mk (dec attr l)) := by
  unfold selvedgeref03_Decode.f
  exact rdec_l0 l attr hl l.length l [] [] (Nat.le_refl _) rfl (by rw [List.length_nil]; omega)
end Go.Proofs.YtaohghcmlohngaaDoor.Pure
