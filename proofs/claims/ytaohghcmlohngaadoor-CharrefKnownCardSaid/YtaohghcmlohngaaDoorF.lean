import Derived.Test.YtaohghcmlohngaaDoorD
/-! Plain laws; works. -/
namespace Go.Proofs.YtaohghcmlohngaaDoor.Pure
open Go.RowKit Go.Proofs.YtaohghcmlohngaaDoor.X Go.Proofs.YtaohghcmlohngaaDoorW.PrintWords Go.Proofs.YtaohghcmlohngaaDoorW.PrintLast Go.Proofs.YtaohghcmlohngaaDoorW.PrintMore
set_option linter.unusedVariables false
set_option linter.unusedSimpArgs false
set_option maxRecDepth 100000
theorem works_ev : Ev (fun k => selvedgelaw03_works.f k) true := by
  unfold selvedgelaw03_works.f
  have h1 := dec_ev [38, 108, 116, 59, 38, 35, 54, 53, 59, 38, 110, 111, 116, 105, 110, 32, 38, 99, 111, 112, 121, 61, 49] false (by decide)
  have e1 : dec false [38, 108, 116, 59, 38, 35, 54, 53, 59, 38, 110, 111, 116, 105, 110, 32, 38, 99, 111, 112, 121, 61, 49] = [60, 65, 194, 172, 105, 110, 32, 194, 169, 61, 49] := by decide +kernel
  have h2 := dec_ev [38, 99, 111, 112, 121, 61, 49, 38, 99, 111, 112, 121, 59] true (by decide)
  have e2 : dec true [38, 99, 111, 112, 121, 61, 49, 38, 99, 111, 112, 121, 59] = [38, 99, 111, 112, 121, 61, 49, 194, 169] := by decide +kernel
  rw [e1] at h1
  rw [e2] at h2
  refine E.bnd h1 (E.pos (by rw [mk_toList]) (E.bnd h2 (E.ret ?_)))
  rw [mk_toList]
  rfl
theorem run_stop (t b : List UInt8) (c : UInt8) (hc : isAl c = false) : run (t ++ c :: b) = run t := by
  unfold run
  induction t with
  | nil => simp [List.takeWhile_cons, hc]
  | cons x t ih =>
    rw [List.cons_append, List.takeWhile_cons, List.takeWhile_cons]
    cases isAl x with
    | true => rw [if_pos rfl, if_pos rfl, List.length_cons, List.length_cons, ih]
    | false => rfl
theorem down_stop (t b : List UInt8) (c : UInt8) (hc : isAl c = false) (h1 : c ≠ 59) (h2 : c ≠ 61) (attr : Bool) : ∀ j, j ≤ t.length → down (t ++ c :: b) attr j = down t attr j := by
  intro j
  induction j with
  | zero => intro _; rfl
  | succ j ih =>
    intro hj
    rw [down, down, List.take_append_of_le_length hj, ih (by omega)]
    cases look (t.take (j + 1)) with
    | none => rfl
    | some x =>
      obtain ⟨r, al⟩ := x
      dsimp only
      rcases Nat.lt_or_ge (j + 1) t.length with q | q
      · rw [List.getElem?_append_left q]
      · have e : j + 1 = t.length := by omega
        rw [e, List.getElem?_append_right (Nat.le_refl _), Nat.sub_self, List.getElem?_eq_none (Nat.le_refl _)]
        have b1 : barred ((c :: b)[0]?) = false := by
          show (c == 61 || isAl c) = false
          rw [hc]
          simp [h2]
        rw [b1, if_neg (show ¬ ((c :: b)[0]? = some 59) by simpa using h1), if_neg (show ¬ ((none : Option UInt8) = some 59) by decide)]
        rfl
theorem tw_stop (base : Nat) (v b : List UInt8) (c : UInt8) (hc : ¬ dg c < base) : tw base (v ++ c :: b) = tw base v := by
  induction v with
  | nil => exact tw_cons_neg hc
  | cons x v ih =>
    rw [List.cons_append]
    by_cases q : dg x < base
    · rw [tw_cons_pos q, tw_cons_pos q, ih]
    · rw [tw_cons_neg q, tw_cons_neg q]
theorem tw_le (base : Nat) (v : List UInt8) : (tw base v).length ≤ v.length := (List.takeWhile_sublist _).length_le
theorem numB_stop (base y : Nat) (v b : List UInt8) (c : UInt8) (hc : ¬ dg c < base) (h1 : c ≠ 59) : numB base y (v ++ c :: b) = numB base y v := by
  unfold numB
  rw [tw_stop base v b c hc]
  have hs : semi ((v ++ c :: b).drop (tw base v).length) = semi (v.drop (tw base v).length) := by
    rw [List.drop_append_of_le_length (tw_le base v)]
    unfold semi
    cases hd : v.drop (tw base v).length with
    | nil => simp [h1]
    | cons x r => rfl
  rw [hs]
theorem numF_stop (u b : List UInt8) (c : UInt8) (hc : dg c = 16) (h1 : c ≠ 59) (h2 : c ≠ 120) (h3 : c ≠ 88) : numF (u ++ c :: b) = numF u := by
  cases u with
  | nil =>
    show (if c = 120 ∨ c = 88 then numB 16 1 b else numB 10 0 (c :: b)) = numB 10 0 []
    rw [if_neg (fun z => z.elim h2 h3)]
    exact numB_stop 10 0 [] b c (by omega) h1
  | cons x v =>
    show (if x = 120 ∨ x = 88 then numB 16 1 (v ++ c :: b) else numB 10 0 (x :: (v ++ c :: b))) = (if x = 120 ∨ x = 88 then numB 16 1 v else numB 10 0 (x :: v))
    rw [numB_stop 16 1 v b c (by omega) h1]
    have := numB_stop 10 0 (x :: v) b c (by omega) h1
    rw [List.cons_append] at this
    rw [this]
/-- What ends each reference. -/
def stops (c : UInt8) : Bool := decide (isAl c = false) && decide (dg c = 16) && (c != 59) && (c != 61) && (c != 120) && (c != 88) && (c != 35)
theorem findF_stop (x b : List UInt8) (c : UInt8) (hs : stops c = true) (attr : Bool) (hx : x ≠ []) : findF (x ++ c :: b) attr = findF x attr := by
  unfold stops at hs
  simp only [Bool.and_eq_true, decide_eq_true_eq, bne_iff_ne] at hs
  obtain ⟨⟨⟨⟨⟨⟨s1, s2⟩, s3⟩, s4⟩, s5⟩, s6⟩, s7⟩ := hs
  cases x with
  | nil => exact absurd rfl hx
  | cons a t =>
    show (if a = 38 then (if (t ++ c :: b).head? = some 35 then (numF ((t ++ c :: b).drop 1)).map (fun x => (x.1, x.2 + 2)) else down (t ++ c :: b) attr (run (t ++ c :: b))) else none) = (if a = 38 then (if t.head? = some 35 then (numF (t.drop 1)).map (fun x => (x.1, x.2 + 2)) else down t attr (run t)) else none)
    rw [run_stop t b c s1, down_stop t b c s1 s3 s4 attr (run t) (run_le t)]
    cases t with
    | nil =>
      have : ¬ (([] ++ c :: b : List UInt8).head? = some 35) := by simpa using s7
      by_cases ha : a = 38
      · rw [if_pos ha, if_pos ha, if_neg this, if_neg (show ¬ (([] : List UInt8).head? = some 35) by decide)]
      · rw [if_neg ha, if_neg ha]
    | cons y u =>
      have e : (y :: u ++ c :: b : List UInt8).drop 1 = u ++ c :: b := rfl
      have e2 : (y :: u : List UInt8).drop 1 = u := rfl
      rw [e, e2, numF_stop u b c s2 s3 s5 s6]
      rfl
theorem dec_stop (attr : Bool) (c : UInt8) (hs : stops c = true) (h38 : c ≠ 38) (b : List UInt8) : ∀ (m : Nat) (a : List UInt8), a.length ≤ m → dec attr (a ++ c :: b) = dec attr a ++ c :: dec attr b := by
  intro m
  induction m with
  | zero =>
    intro a h
    have : a = [] := List.length_eq_zero_iff.1 (by omega)
    subst this
    exact dec_none (findF_not h38)
  | succ m ih =>
    intro a h
    cases a with
    | nil => exact dec_none (findF_not h38)
    | cons x t =>
      rw [List.length_cons] at h
      have hf := findF_stop (x :: t) b c hs attr (by simp)
      rw [List.cons_append] at hf ⊢
      cases hx : findF (x :: t) attr with
      | none =>
        rw [hx] at hf
        rw [dec_none hf, dec_none hx, ih t (by omega)]
        rfl
      | some z =>
        obtain ⟨r, n⟩ := z
        rw [hx] at hf
        have hi := findF_in hx
        have h2 : 2 ≤ n := hi.2.1
        have h3 : n ≤ (x :: t).length := hi.2.2
        rw [dec_some hf, dec_some hx]
        have : (x :: (t ++ c :: b)).drop n = (x :: t).drop n ++ c :: b := by
          rw [← List.cons_append, List.drop_append_of_le_length h3]
        rw [this, ih _ (by rw [List.length_drop, List.length_cons]; omega), List.append_assoc]
/-- A name with its ;. -/
theorem findF_name {w : List UInt8} {x : Int × Bool} (h : look w = some x) (b : List UInt8) (attr : Bool) : findF (38 :: (w ++ 59 :: b)) attr = some (x.1, w.length + 2) := by
  obtain ⟨e, he, hn, hx⟩ := look_RT h
  have hq := RT_look he
  rw [hn] at hq
  show (if (38 : UInt8) = 38 then (if (w ++ 59 :: b).head? = some 35 then (numF ((w ++ 59 :: b).drop 1)).map (fun x => (x.1, x.2 + 2)) else down (w ++ 59 :: b) attr (run (w ++ 59 :: b))) else none) = _
  rw [if_pos rfl]
  have hh : ¬ ((w ++ 59 :: b).head? = some 35) := by
    cases w with
    | nil => have := hq.2.2.1; simp at this
    | cons c w =>
      intro z
      have z : c = 35 := by simpa using z
      have := hq.2.1
      rw [z] at this
      simp at this
      exact absurd this.1 (by decide)
  rw [if_neg hh]
  have hr : run (w ++ 59 :: b) = w.length := by
    rw [run_stop w b 59 (by decide)]
    have h1 := run_ge w [] hq.2.1
    rw [List.append_nil] at h1
    have h2 := run_le w
    omega
  rw [hr]
  obtain ⟨j, hj⟩ : ∃ j, w.length = j + 1 := ⟨w.length - 1, by omega⟩
  rw [hj, down]
  have ht : (w ++ 59 :: b).take (j + 1) = w := by rw [← hj, List.take_left]
  have hg : (w ++ 59 :: b)[j + 1]? = some 59 := by rw [← hj, List.getElem?_append_right (Nat.le_refl _), Nat.sub_self]; rfl
  rw [ht, h]
  obtain ⟨r, al⟩ := x
  dsimp only
  rw [hg, if_pos rfl]
theorem dec_name {w : List UInt8} {x : Int × Bool} (h : look w = some x) (b : List UInt8) (attr : Bool) : dec attr (38 :: (w ++ 59 :: b)) = Lib.encodeRune x.1 ++ dec attr b := by
  rw [dec_some (findF_name h b attr)]
  have : (38 :: (w ++ 59 :: b)).drop (w.length + 2) = b := by
    rw [List.drop_succ_cons, ← List.drop_drop, List.drop_left]
    rfl
  rw [this]
end Go.Proofs.YtaohghcmlohngaaDoor.Pure
