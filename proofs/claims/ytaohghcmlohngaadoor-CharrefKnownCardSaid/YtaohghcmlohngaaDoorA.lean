import Derived.Test.YtaohghcmlohngaaDoorT4
import Derived.Test.YtaohghcmlohngaaDoorT6
import Derived.Test.YtaohghcmlohngaaDoorX6
import Derived.Test.YtaohghcmlohngaaDoorE
/-! Texts as lists of bytes; classes of bytes; a reference by number, plainly. -/
namespace Go.Proofs.YtaohghcmlohngaaDoor.Pure
open Go.RowKit Go.Proofs.YtaohghcmlohngaaDoor.X Go.Proofs.YtaohghcmlohngaaDoorW.PrintWords Go.Proofs.YtaohghcmlohngaaDoorW.PrintLast Go.Proofs.YtaohghcmlohngaaDoorW.PrintMore
set_option linter.unusedVariables false
set_option linter.unusedSimpArgs false
def mk (l : List UInt8) : ByteArray := ⟨l.toArray⟩
theorem mk_of (s : ByteArray) : s = mk s.data.toList := by cases s; rfl
theorem mk_size (l : List UInt8) : (mk l).size = l.length := by unfold mk; exact List.size_toArray
theorem mk_toList (l : List UInt8) : (mk l).toList = l := by rw [Lib.toList_data]; rfl
theorem mk_data (l : List UInt8) : (mk l).data.toList = l := rfl
theorem mk_inj {a b : List UInt8} (h : mk a = mk b) : a = b := by rw [← mk_data a, h, mk_data]
theorem mk_app (a b : List UInt8) : mk a ++ mk b = mk (a ++ b) := by
  unfold mk
  apply ByteArray.ext
  rw [ByteArray.data_append]
  simp
theorem mk_ex (l : List UInt8) (i j : Nat) : (mk l).extract i j = mk ((l.drop i).take (j - i)) := by
  unfold mk
  apply ByteArray.ext
  rw [ByteArray.data_extract]
  simp
theorem mk_bt (l : List UInt8) (n : Nat) : bt (mk l) (n : Int) = ((l.getD n 0).toNat : Int) := by
  unfold bt
  simp only [Int.toNat_natCast, mk_size]
  by_cases h : n < l.length
  · rw [dif_pos h, List.getD_eq_getElem?_getD, List.getElem?_eq_getElem h]
    rfl
  · rw [dif_neg h, List.getD_eq_getElem?_getD, List.getElem?_eq_none (by omega)]
    rfl
/-- Is it a letter or a digit? -/
def isAl (c : UInt8) : Bool := let n := c.toNat; (decide (48 ≤ n) && decide (n ≤ 57)) || (decide (97 ≤ n) && decide (n ≤ 122)) || (decide (65 ≤ n) && decide (n ≤ 90))
/-- A digit's number; 16: it is none. -/
def dg (c : UInt8) : Nat := let n := c.toNat; if 48 ≤ n ∧ n ≤ 57 then n - 48 else if 97 ≤ n ∧ n ≤ 102 then n - 87 else if 65 ≤ n ∧ n ≤ 70 then n - 55 else 16
theorem dg_le (c : UInt8) : dg c ≤ 16 := by unfold dg; dsimp only; (repeat' split) <;> omega
theorem alnum_all : ∀ n : Fin 256, charref_alnum.f (n.val : Int) = some (isAl (UInt8.ofNat n.val)) := by decide +kernel
theorem ralnum_all : ∀ n : Fin 256, selvedgeref03_alnum.f (n.val : Int) = some (isAl (UInt8.ofNat n.val)) := by decide +kernel
theorem digit_all : ∀ n : Fin 256, charref_digit.f 1 (n.val : Int) = some ((dg (UInt8.ofNat n.val) : Nat) : Int) := by decide +kernel
theorem rdigit_all : ∀ n : Fin 256, selvedgeref03_digit.f 2 (n.val : Int) = some (if dg (UInt8.ofNat n.val) = 16 then -1 else ((dg (UInt8.ofNat n.val) : Nat) : Int)) := by decide +kernel
theorem of_byte (c : UInt8) : UInt8.ofNat c.toNat = c := by simp
theorem alnum_f (c : UInt8) : charref_alnum.f (c.toNat : Int) = some (isAl c) := by
  have := alnum_all ⟨c.toNat, c.toNat_lt⟩
  rwa [of_byte] at this
theorem ralnum_f (c : UInt8) : selvedgeref03_alnum.f (c.toNat : Int) = some (isAl c) := by
  have := ralnum_all ⟨c.toNat, c.toNat_lt⟩
  rwa [of_byte] at this
theorem digit_ev (c : UInt8) : Ev (fun k => charref_digit.f k (c.toNat : Int)) ((dg c : Nat) : Int) := by
  have := digit_all ⟨c.toNat, c.toNat_lt⟩
  rw [of_byte] at this
  exact E.of (fun k => charref_digit.mono _ k) 1 this
theorem rdigit_ev (c : UInt8) : Ev (fun k => selvedgeref03_digit.f k (c.toNat : Int)) (if dg c = 16 then -1 else ((dg c : Nat) : Int)) := by
  have := rdigit_all ⟨c.toNat, c.toNat_lt⟩
  rw [of_byte] at this
  exact E.of (fun k => selvedgeref03_digit.mono _ k) 2 this
def begins (a b : List UInt8) : Bool := b.length ≤ a.length && (a.take b.length == b)
theorem begins_iff {a b : List UInt8} : begins a b = true ↔ ∃ r, a = b ++ r := by
  unfold begins
  simp only [Bool.and_eq_true, decide_eq_true_eq, beq_iff_eq]
  constructor
  · rintro ⟨_, h⟩
    exact ⟨a.drop b.length, by rw [← h, List.length_take, Nat.min_eq_left (by assumption), List.take_append_drop]⟩
  · rintro ⟨r, rfl⟩
    simp
theorem rbegins_f (a b : List UInt8) : selvedgeref03_begins.f (mk a) (mk b) = some (begins a b) := by
  unfold selvedgeref03_begins.f begins
  simp only [mk_size, mk_ex, mk_toList, Int.toNat_natCast]
  by_cases h : b.length ≤ a.length
  · rw [if_pos (by omega), if_pos (by omega), if_pos (by omega)]
    simp [h]
  · rw [if_neg (by omega)]
    simp [h]
theorem prefix_f (a b : List UInt8) : strings_HasPrefix.f (mk a) (mk b) = some (begins a b) := by
  unfold strings_HasPrefix.f
  have : stringslite_HasPrefix.f (mk a) (mk b) = some (begins a b) := rbegins_f a b
  rw [this]
  rfl
theorem cut_f (a b : List UInt8) : strings_CutPrefix.f (mk a) (mk b) = some (mk (if begins a b = true then a.drop b.length else a), begins a b) := by
  unfold strings_CutPrefix.f stringslite_CutPrefix.f
  have : stringslite_HasPrefix.f (mk a) (mk b) = some (begins a b) := rbegins_f a b
  rw [this]
  cases h : begins a b with
  | false => rfl
  | true =>
    obtain ⟨r, rfl⟩ := begins_iff.1 h
    simp [mk_size, mk_ex, List.take_of_length_le]
    rw [if_pos (by omega)]
    rfl
/-! ### A number -/
def valF (base : Nat) : List UInt8 → Nat → Nat
  | [], n => n
  | c :: l, n => valF base l (min (n * base + dg c) 1114112)
def tw (base : Nat) (l : List UInt8) : List UInt8 := l.takeWhile fun c => decide (dg c < base)
def fixC (n : Nat) : Int := if n = 0 ∨ 1114111 < n ∨ (55296 ≤ n ∧ n ≤ 57343) then 65533 else if 128 ≤ n ∧ n ≤ 159 ∧ rd othT ((n : Int) - 128) ≠ 0 then rd othT ((n : Int) - 128) else n
def semi (l : List UInt8) : Nat := if l.head? = some 59 then 1 else 0
def numB (base x : Nat) (l : List UInt8) : Option (Int × Nat) := if (tw base l).length = 0 then none else some (fixC (valF base (tw base l) 0), x + (tw base l).length + semi (l.drop (tw base l).length))
def numF (l : List UInt8) : Option (Int × Nat) :=
  match l with
  | [] => numB 10 0 []
  | c :: t => if c = 120 ∨ c = 88 then numB 16 1 t else numB 10 0 (c :: t)
def asT : Option (Int × Nat) → Int × Int × Bool
  | none => (0, 0, false)
  | some (r, n) => (r, (n : Int), true)
theorem valF_le (base : Nat) (l : List UInt8) (n : Nat) (h : n ≤ 1114112) : valF base l n ≤ 1114112 := by
  induction l generalizing n with
  | nil => exact h
  | cons c l ih => exact ih _ (by omega)
theorem tw_cons_pos {base : Nat} {c : UInt8} {l : List UInt8} (h : dg c < base) : tw base (c :: l) = c :: tw base l := by unfold tw; rw [List.takeWhile_cons, if_pos (by simpa using h)]
theorem tw_cons_neg {base : Nat} {c : UInt8} {l : List UInt8} (h : ¬ dg c < base) : tw base (c :: l) = [] := by unfold tw; rw [List.takeWhile_cons, if_neg (by simpa using h)]
theorem wrap32_in {n : Int} (h : -2147483648 ≤ n ∧ n ≤ 2147483647) : wrap32 n = n := by unfold wrap32; omega
theorem mn_nat (n base d : Nat) (hn : n ≤ 1114112) (hb : base ≤ 16) (hd : d ≤ 16) : mn (wrap32 ((wrap32 ((n : Int) * (base : Int))) + (d : Int))) 1114112 = ((min (n * base + d) 1114112 : Nat) : Int) := by
  have h1 : n * base ≤ 1114112 * 16 := Nat.mul_le_mul hn hb
  have e : (n : Int) * (base : Int) = ((n * base : Nat) : Int) := by simp
  rw [e, wrap32_in (n := ((n * base : Nat) : Int)) ⟨by omega, by omega⟩, wrap32_in (n := ((n * base : Nat) : Int) + (d : Int)) ⟨by omega, by omega⟩]
  unfold mn
  split <;> omega
/-! ### charref.number -/
theorem valid_ev (n : Nat) : Ev (fun k => utf8_ValidRune.f k (n : Int)) (decide (n ≤ 1114111 ∧ ¬ (55296 ≤ n ∧ n ≤ 57343))) := by
  unfold utf8_ValidRune.f
  refine E.pos (by omega) (E.succ ?_)
  simp only [utf8_ValidRune.j0]
  by_cases h : (n : Int) < 55296
  · exact E.pos (decide_eq_true h) (E.ret (by symm; exact decide_eq_true (by omega)))
  refine E.neg (by simpa using h) ?_
  by_cases h2 : 57343 < (n : Int)
  · refine E.pos h2 ?_
    by_cases h3 : (n : Int) ≤ 1114111
    · exact E.pos h3 (E.ret (by symm; exact decide_eq_true (by omega)))
    · exact E.neg h3 (E.ret (by symm; exact decide_eq_false (by omega)))
  · exact E.neg h2 (E.ret (by symm; exact decide_eq_false (by omega)))
theorem oth_f (n : Nat) (h : 128 ≤ n ∧ n ≤ 159) : charref_othersAt.f (wrap32 ((n : Int) - 128)) = some (rd othT ((n : Int) - 128)) := by
  rw [wrap32_in (by omega)]
  unfold charref_othersAt.f
  rw [if_pos (by omega)]
def outN (l rest : List UInt8) (cnt v : Nat) : Int × Int × Bool := if cnt = 0 then (0, 0, false) else (fixC v, ((l.length - (rest.length - cnt - semi (rest.drop cnt)) : Nat) : Int), true)
theorem num_j4 (l r : List UInt8) (hl : l.length ≤ 281474976710656) (hr : r.length ≤ l.length) (v : Nat) (c : Bool) (hc : c = decide (v = 0 ∨ 1114111 < v ∨ (55296 ≤ v ∧ v ≤ 57343))) :
    Ev (fun k => charref_number.j4 k (mk l) (mk r) (v : Int) c) (fixC v, ((l.length - r.length : Nat) : Int), true) := by
  refine E.succ ?_
  simp only [charref_number.j4, mk_size]
  have ew : wrap64 ((l.length : Int) - (r.length : Int)) = ((l.length - r.length : Nat) : Int) := by rw [E.w64 (by omega) (by omega)]; omega
  simp only [ew]
  cases hcc : c with
  | true =>
    refine E.pos rfl (E.ret ?_)
    rw [hcc] at hc
    have := of_decide_eq_true hc.symm
    unfold fixC
    rw [if_pos this]
  | false =>
    refine E.neg (by decide) ?_
    rw [hcc] at hc
    have hn := of_decide_eq_false hc.symm
    unfold fixC
    rw [if_neg hn]
    by_cases h1 : (v : Int) ≥ 128
    · refine E.pos h1 ?_
      by_cases h2 : (v : Int) ≤ 159
      · refine E.pos h2 (E.bno (oth_f v (by omega)) ?_)
        by_cases h3 : rd othT ((v : Int) - 128) = 0
        · refine E.pos h3 (E.ret ?_)
          rw [if_neg (by intro q; exact q.2.2 h3)]
        · refine E.neg h3 (E.bno (oth_f v (by omega)) (E.ret ?_))
          rw [if_pos ⟨by omega, by omega, h3⟩]
      · refine E.neg h2 (E.ret ?_)
        rw [if_neg (by omega)]
    · refine E.neg h1 (E.ret ?_)
      rw [if_neg (by omega)]
theorem num_j3 (l rest : List UInt8) (hl : l.length ≤ 281474976710656) (hr : rest.length ≤ l.length) (cnt v : Nat) (hcnt : cnt ≤ rest.length) (hv : v ≤ 1114112) :
    Ev (fun k => charref_number.j3 k (mk l) (mk rest) (cnt : Int) (v : Int)) (outN l rest cnt v) := by
  refine E.succ ?_
  simp only [charref_number.j3, mk_size]
  unfold outN
  by_cases h0 : cnt = 0
  · rw [if_pos h0]
    exact E.pos (by omega) (E.ret rfl)
  rw [if_neg h0]
  refine E.neg (by omega) (E.pos (by omega) (E.pos (by omega) ?_))
  rw [mk_ex, Int.toNat_natCast, List.take_of_length_le (by rw [List.length_drop]; omega)]
  have ec := cut_f (rest.drop cnt) [59]
  refine E.bno ec ?_
  have key : Ev (fun k => charref_number.j4 k (mk l) (mk (if begins (rest.drop cnt) [59] = true then (rest.drop cnt).drop 1 else rest.drop cnt)) (v : Int) (decide (v = 0 ∨ 1114111 < v ∨ (55296 ≤ v ∧ v ≤ 57343)))) (fixC v, ((l.length - (rest.length - cnt - semi (rest.drop cnt)) : Nat) : Int), true) := by
    have e2 : (if begins (rest.drop cnt) [59] = true then (rest.drop cnt).drop 1 else rest.drop cnt).length = rest.length - cnt - semi (rest.drop cnt) := by
      unfold semi
      cases hb : begins (rest.drop cnt) [59] with
      | true =>
        obtain ⟨r, hr⟩ := begins_iff.1 hb
        rw [hr]
        simp
        have := congrArg List.length hr
        simp at this
        omega
      | false =>
        have : ¬ (rest.drop cnt).head? = some 59 := by
          intro q
          cases hd : rest.drop cnt with
          | nil => rw [hd] at q; cases q
          | cons a t =>
            rw [hd] at q hb
            simp at q
            subst q
            have : begins (59 :: t) [59] = true := begins_iff.2 ⟨t, rfl⟩
            rw [this] at hb
            cases hb
        rw [if_neg this]
        simp
    have := num_j4 l (if begins (rest.drop cnt) [59] = true then (rest.drop cnt).drop 1 else rest.drop cnt) hl (by rw [e2]; omega) v _ rfl
    rw [e2] at this
    exact this
  show Ev (fun k => if (v : Int) = 0 then charref_number.j4 k (mk l) (mk (if begins (rest.drop cnt) [59] = true then (rest.drop cnt).drop 1 else rest.drop cnt)) (v : Int) true else ((utf8_ValidRune.f k (v : Int)).bind fun t109 => charref_number.j4 k (mk l) (mk (if begins (rest.drop cnt) [59] = true then (rest.drop cnt).drop 1 else rest.drop cnt)) (v : Int) (!t109))) _
  by_cases hz : v = 0
  · refine E.pos (by omega) ?_
    rw [decide_eq_true (.inl hz)] at key
    exact key
  · refine E.neg (by omega) (E.bnd (valid_ev v) ?_)
    have : (!decide (v ≤ 1114111 ∧ ¬ (55296 ≤ v ∧ v ≤ 57343))) = decide (v = 0 ∨ 1114111 < v ∨ (55296 ≤ v ∧ v ≤ 57343)) := by
      by_cases q : v ≤ 1114111 ∧ ¬ (55296 ≤ v ∧ v ≤ 57343)
      · rw [decide_eq_true q, decide_eq_false (by omega)]; rfl
      · rw [decide_eq_false q, decide_eq_true (by omega)]; rfl
    rw [this]
    exact key
theorem num_l0 (l rest : List UInt8) (hl : l.length ≤ 281474976710656) (hr : rest.length ≤ l.length) (base : Nat) (hb : base ≤ 16) : ∀ (b a : List UInt8) (n : Nat), rest = a ++ b → n ≤ 1114112 →
    Ev (fun k => charref_number.l0 k (mk l) (mk rest) (base : Int) (a.length : Int) (n : Int)) (outN l rest (a.length + (tw base b).length) (valF base (tw base b) n)) := by
  intro b
  induction b with
  | nil =>
    intro a n ha hn
    refine E.succ ?_
    simp only [charref_number.l0, mk_size]
    have hal : a.length = rest.length := by rw [ha]; simp
    exact E.neg (by omega) (num_j3 l rest hl hr a.length n (by omega) hn)
  | cons c b ih =>
    intro a n ha hn
    refine E.succ ?_
    simp only [charref_number.l0, mk_size]
    have hal : a.length + (b.length + 1) = rest.length := by rw [ha]; simp
    have hbt : bt (mk rest) (a.length : Int) = (c.toNat : Int) := by rw [mk_bt, ha]; simp
    refine E.pos (by omega) (E.pos (by omega) ?_)
    rw [hbt]
    refine E.bnd (digit_ev c) ?_
    by_cases hd : dg c < base
    · rw [tw_cons_pos hd]
      refine E.pos (by omega) (E.bnd (digit_ev c) ?_)
      rw [mn_nat n base (dg c) hn hb (dg_le c), E.w64 (by omega) (by omega)]
      have := ih (a ++ [c]) (min (n * base + dg c) 1114112) (by rw [ha]; simp) (by omega)
      rw [List.length_append, List.length_singleton] at this
      have e : ((a.length : Int) + 1) = ((a.length + 1 : Nat) : Int) := by omega
      rw [e]
      have e2 : a.length + (c :: tw base b).length = a.length + 1 + (tw base b).length := by rw [List.length_cons]; omega
      rw [e2]
      exact this
    · rw [tw_cons_neg hd]
      exact E.neg (by omega) (num_j3 l rest hl hr a.length n (by omega) hn)
theorem outN_numB (l : List UInt8) (x base : Nat) (rest : List UInt8) (hx : l.length = x + rest.length) : outN l rest (tw base rest).length (valF base (tw base rest) 0) = asT (numB base x rest) := by
  unfold outN numB
  by_cases h : (tw base rest).length = 0
  · rw [if_pos h, if_pos h]
    rfl
  · rw [if_neg h, if_neg h]
    have h1 : (tw base rest).length ≤ rest.length := by unfold tw; exact (List.takeWhile_sublist _).length_le
    have h2 : semi (rest.drop (tw base rest).length) ≤ rest.length - (tw base rest).length := by
      unfold semi
      split
      · next q =>
        cases hd : rest.drop (tw base rest).length with
        | nil => rw [hd] at q; cases q
        | cons a t =>
          have := congrArg List.length hd
          rw [List.length_drop, List.length_cons] at this
          omega
      · omega
    show (_, _, true) = (_, _, true)
    have e : l.length - (rest.length - (tw base rest).length - semi (rest.drop (tw base rest).length)) = x + (tw base rest).length + semi (rest.drop (tw base rest).length) := by omega
    rw [e]
theorem number_ev (l : List UInt8) (hl : l.length ≤ 281474976710656) : Ev (fun k => charref_number.f k (mk l)) (asT (numF l)) := by
  unfold charref_number.f
  rw [mk_toList]
  have j1 : ∀ (x base : Nat) (rest : List UInt8), base ≤ 16 → l.length = x + rest.length → Ev (fun k => charref_number.j1 k (mk l) (mk rest) (base : Int)) (asT (numB base x rest)) := by
    intro x base rest hb hx
    refine E.succ ?_
    simp only [charref_number.j1]
    have := num_l0 l rest hl (by omega) base hb rest [] 0 rfl (by omega)
    rw [List.length_nil, Nat.zero_add, outN_numB l x base rest hx] at this
    exact this
  cases l with
  | nil =>
    refine E.pos rfl (E.succ ?_)
    simp only [charref_number.j0]
    exact E.neg (by decide) (j1 0 10 [] (by omega) rfl)
  | cons c t =>
    refine E.neg (by simp) (E.pos (by rw [mk_size, List.length_cons]; omega) (E.succ ?_))
    simp only [charref_number.j0]
    have hx : ((Go.bits .or .u8 (bt (mk (c :: t)) 0) 32) == 120) = decide (c = 120 ∨ c = 88) := by
      have h0 : bt (mk (c :: t)) 0 = (c.toNat : Int) := mk_bt (c :: t) 0
      rw [h0]
      have all : ∀ n : Fin 256, ((Go.bits .or .u8 (n.val : Int) 32) == 120) = decide (UInt8.ofNat n.val = 120 ∨ UInt8.ofNat n.val = 88) := by decide +kernel
      have := all ⟨c.toNat, c.toNat_lt⟩
      rwa [of_byte] at this
    rw [hx]
    show Ev _ (asT (if c = 120 ∨ c = 88 then numB 16 1 t else numB 10 0 (c :: t)))
    by_cases q : c = 120 ∨ c = 88
    · rw [if_pos q]
      refine E.pos (decide_eq_true q) (E.pos (by rw [mk_size, List.length_cons]; omega) ?_)
      rw [mk_ex, mk_size]
      have := j1 1 16 t (by omega) (by simp; omega)
      simpa using this
    · rw [if_neg q]
      exact E.neg (by simpa using q) (j1 0 10 (c :: t) (by omega) (by omega))
end Go.Proofs.YtaohghcmlohngaaDoor.Pure
