import Derived.Test.YtaohghcmlohngaaDoorF
import Derived.Test.YtaohghcmlohngaaDoorX9
/-! Numbers, plainly: their digits; what they are decoded as. -/
namespace Go.Proofs.YtaohghcmlohngaaDoor.Pure
open Go.RowKit Go.Proofs.YtaohghcmlohngaaDoor.X Go.Proofs.YtaohghcmlohngaaDoorW.PrintWords Go.Proofs.YtaohghcmlohngaaDoorW.PrintLast Go.Proofs.YtaohghcmlohngaaDoorW.PrintMore
set_option linter.unusedVariables false
set_option linter.unusedSimpArgs false
set_option maxRecDepth 100000
def digL : List UInt8 := [48, 49, 50, 51, 52, 53, 54, 55, 56, 57, 97, 66, 99, 68, 101, 70]
def valU (base : Nat) : List UInt8 → Nat → Nat
  | [], n => n
  | c :: l, n => valU base l (n * base + dg c)
theorem digL_ex : ∀ k : Fin 16, (mk digL).extract k.val (k.val + 1) = mk [digL.getD k.val 0] ∧ dg (digL.getD k.val 0) = k.val := by decide +kernel
theorem dig_l1 (z : Nat) (hz : z ≤ 255) : ∀ (m i : Nat) (s : List UInt8), m = z % 9 - i → i ≤ z % 9 → s.length + m ≤ 1000000000000 → Ev (fun k => selvedgelaw03_digits.l1 k (z : Int) (mk s) (i : Int)) (mk (List.replicate m 48 ++ s)) := by
  have e9 : Int.tmod (z : Int) 9 = ((z % 9 : Nat) : Int) := by rw [Int.tmod_eq_emod_of_nonneg (by omega)]; omega
  intro m
  induction m with
  | zero =>
    intro i s hm hi hs
    refine E.succ ?_
    simp only [selvedgelaw03_digits.l1, e9]
    exact E.neg (by omega) (E.ret rfl)
  | succ m ih =>
    intro i s hm hi hs
    refine E.succ ?_
    simp only [selvedgelaw03_digits.l1, e9, mk_size]
    have e48 : (⟨#[48]⟩ : ByteArray) = mk [48] := rfl
    rw [e48, mk_app]
    refine E.pos (by omega) (E.pos (by omega) ?_)
    have : ((i : Int) + 1) % 256 = ((i + 1 : Nat) : Int) := by omega
    rw [this]
    have nx := ih (i + 1) ([48] ++ s) (by omega) (by omega) (by rw [List.length_append, List.length_singleton]; omega)
    refine E.same nx ?_
    rw [List.replicate_succ', List.append_assoc]
theorem valU_zeros (base : Nat) (s : List UInt8) : ∀ m : Nat, valU base (List.replicate m 48 ++ s) 0 = valU base s 0
  | 0 => rfl
  | m + 1 => by
    rw [List.replicate_succ, List.cons_append, valU]
    have : 0 * base + dg 48 = 0 := by rw [Nat.zero_mul]; decide
    rw [this]
    exact valU_zeros base s m
theorem dig_l0 (base : Nat) (hb : 2 ≤ base ∧ base ≤ 16) (z : Nat) (hz : z ≤ 255) : ∀ (m n : Nat) (s : List UInt8), n ≤ m → n ≤ 4294967295 → (∀ c ∈ s, dg c < base) → s.length + n ≤ 100000000000 → (0 < n ∨ s ≠ []) →
    ∃ D : List UInt8, (∀ c ∈ D, dg c < base) ∧ D ≠ [] ∧ D.length ≤ s.length + n + 10 ∧ valU base D 0 = valU base s n ∧ Ev (fun k => selvedgelaw03_digits.l0 k (n : Int) (base : Int) (z : Int) (mk s)) (mk D) := by
  intro m
  induction m with
  | zero =>
    intro n s hn hn2 hs hl h0
    have hn0 : n = 0 := by omega
    subst hn0
    have hne : s ≠ [] := by rcases h0 with q | q; exact absurd q (by decide); exact q
    refine ⟨List.replicate (z % 9) 48 ++ s, ?_, by simp [hne], by rw [List.length_append, List.length_replicate]; omega, valU_zeros base s _, ?_⟩
    · intro c hc
      rcases List.mem_append.1 hc with q | q
      · rw [List.eq_of_mem_replicate q]
        have : dg 48 = 0 := by decide
        omega
      · exact hs c q
    · refine E.succ ?_
      simp only [selvedgelaw03_digits.l0]
      refine E.neg (by decide) (E.neg (by rw [mk_toList]; exact hne) ?_)
      exact dig_l1 z hz (z % 9) 0 s (by omega) (by omega) (by omega)
  | succ m ih =>
    intro n s hn hn2 hs hl h0
    by_cases hn0 : n = 0
    · exact ih n s (by omega) hn2 hs hl h0
    have hmod : n % base < base := Nat.mod_lt _ (by omega)
    have hdiv : n / base < n := Nat.div_lt_self (by omega) (by omega)
    have hd := digL_ex ⟨n % base, by omega⟩
    dsimp only at hd
    obtain ⟨D, d1, d2, d3, d4, d5⟩ := ih (n / base) (digL.getD (n % base) 0 :: s) (by omega) (by omega) (by
      intro c hc
      rcases List.mem_cons.1 hc with q | q
      · rw [q, hd.2]; exact hmod
      · exact hs c q) (by rw [List.length_cons]; omega) (.inr (by simp))
    refine ⟨D, d1, d2, by rw [List.length_cons] at d3; omega, ?_, ?_⟩
    · rw [d4, valU, hd.2]
      have : n / base * base + n % base = n := Nat.div_add_mod' n base
      rw [this]
    · refine E.succ ?_
      have e1 : Int.tmod (n : Int) (base : Int) = ((n % base : Nat) : Int) := rfl
      have e2 : Int.tdiv (n : Int) (base : Int) % 4294967296 = ((n / base : Nat) : Int) := by
        have : Int.tdiv (n : Int) (base : Int) = ((n / base : Nat) : Int) := rfl
        rw [this]
        exact Int.emod_eq_of_lt (Int.natCast_nonneg _) (by have : n / base < 4294967296 := Nat.lt_of_lt_of_le hdiv (by omega); exact Int.ofNat_lt.mpr this)
      have e3 : (((n % base : Nat) : Int) + 1) % 4294967296 = ((n % base + 1 : Nat) : Int) := by omega
      have eL : (⟨#[48, 49, 50, 51, 52, 53, 54, 55, 56, 57, 97, 66, 99, 68, 101, 70]⟩ : ByteArray) = mk digL := rfl
      simp only [selvedgelaw03_digits.l0, e1, e2, e3, eL, Int.toNat_natCast, hd.1, mk_size, mk_app]
      exact E.pos (by omega) (E.neg (by omega) (E.pos (by omega) (E.pos (by omega) (E.pos (by omega) (E.pos (by rw [List.length_singleton]; omega) d5)))))
theorem digits_ev (base : Nat) (hb : 2 ≤ base ∧ base ≤ 16) (z : Nat) (hz : z ≤ 255) (n : Nat) (h0 : 0 < n) (hn : n ≤ 4294967295) :
    ∃ D : List UInt8, (∀ c ∈ D, dg c < base) ∧ D ≠ [] ∧ D.length ≤ 5000000000 ∧ valU base D 0 = n ∧ Ev (fun k => selvedgelaw03_digits.f k (n : Int) (base : Int) (z : Int)) (mk D) := by
  obtain ⟨D, d1, d2, d3, d4, d5⟩ := dig_l0 base hb z hz n n [] (Nat.le_refl _) hn (fun c hc => by cases hc) (by rw [List.length_nil]; omega) (.inl h0)
  exact ⟨D, d1, d2, by rw [List.length_nil] at d3; omega, d4, d5⟩
theorem val_min (base : Nat) (hb : 1 ≤ base) : ∀ (l : List UInt8) (n : Nat), valF base l (min n 1114112) = min (valU base l n) 1114112
  | [], n => rfl
  | c :: l, n => by
    rw [valF, valU, ← val_min base hb l]
    congr 1
    rcases Nat.le_total n 1114112 with q | q
    · rw [Nat.min_eq_left q]
    · rw [Nat.min_eq_right q]
      have h1 : 1114112 * 1 ≤ 1114112 * base := Nat.mul_le_mul (Nat.le_refl _) hb
      have h2 : 1114112 * base ≤ n * base := Nat.mul_le_mul q (Nat.le_refl _)
      omega
theorem tw_all (base : Nat) (D r : List UInt8) (h : ∀ c ∈ D, dg c < base) : tw base (D ++ r) = D ++ tw base r := by
  induction D with
  | nil => rfl
  | cons c D ih => rw [List.cons_append, tw_cons_pos (h c (by simp)), ih (fun x hx => h x (List.mem_cons_of_mem _ hx))]; rfl
/-- A number's digits, and what does not go on with them. -/
theorem numB_dig (base y : Nat) (hb : 1 ≤ base) (D r : List UInt8) (hD : ∀ c ∈ D, dg c < base) (hne : D ≠ []) (hr : tw base r = []) : numB base y (D ++ r) = some (fixC (min (valU base D 0) 1114112), y + D.length + semi r) := by
  unfold numB
  rw [tw_all base D r hD, hr, List.append_nil]
  have : D.length ≠ 0 := fun q => hne (List.length_eq_zero_iff.1 q)
  rw [if_neg this, List.drop_left]
  have := val_min base hb D 0
  rw [Nat.zero_min] at this
  rw [this]
theorem numF_10 (D r : List UInt8) (hD : ∀ c ∈ D, dg c < 10) (hne : D ≠ []) (hr : tw 10 r = []) : numF (D ++ r) = some (fixC (min (valU 10 D 0) 1114112), D.length + semi r) := by
  have := numB_dig 10 0 (by decide) D r hD hne hr
  rw [Nat.zero_add] at this
  rw [← this]
  cases D with
  | nil => exact absurd rfl hne
  | cons c D =>
    have hc := hD c (by simp)
    show (if c = 120 ∨ c = 88 then numB 16 1 (D ++ r) else numB 10 0 (c :: (D ++ r))) = _
    rw [if_neg]
    · rfl
    · rintro (q | q)
      · rw [q] at hc; exact absurd hc (by decide)
      · rw [q] at hc; exact absurd hc (by decide)
theorem numF_16 (D r : List UInt8) (hD : ∀ c ∈ D, dg c < 16) (hne : D ≠ []) (hr : tw 16 r = []) : numF (120 :: (D ++ r)) = some (fixC (min (valU 16 D 0) 1114112), 1 + D.length + semi r) := by
  rw [← numB_dig 16 1 (by decide) D r hD hne hr]
  rfl
theorem dec_num {u : List UInt8} {v : Int} {n : Nat} (h : numF u = some (v, n)) (attr : Bool) : dec attr (38 :: 35 :: u) = Lib.encodeRune v ++ dec attr (u.drop n) := by
  have hf : findF (38 :: 35 :: u) attr = some (v, n + 2) := by
    show (numF u).map (fun x => (x.1, x.2 + 2)) = _
    rw [h]
    rfl
  rw [dec_some hf]
  rfl
theorem enc_fix (r : Nat) (h0 : 0 < r) (h1 : ¬ (128 ≤ r ∧ r ≤ 159)) : Lib.encodeRune (fixC (min r 1114112)) = Lib.encodeRune (r : Int) := by
  unfold fixC
  by_cases hbad : 1114111 < r ∨ (55296 ≤ r ∧ r ≤ 57343)
  · rw [if_pos (by omega)]
    unfold Lib.encodeRune
    have e1 : Lib.encodeRuneZ (65533 : Int) = [239, 191, 189] := by decide
    rw [e1, encZ_bad (r := (r : Int)) (by omega)]
  · rw [if_neg (by omega), if_neg (fun q => h1 (by omega))]
    have : min r 1114112 = r := by omega
    rw [this]
theorem string1_ev (r : Int) : Ev (fun k => selvedgeref02_String.f k [r]) (mk (Lib.encodeRune r)) := by
  unfold selvedgeref02_String.f
  have he := enc_len r
  have hez : (Lib.encodeRuneZ r).length = (Lib.encodeRune r).length := by unfold Lib.encodeRune; rw [List.length_map]
  refine E.succ ?_
  simp only [selvedgeref02_String.l0]
  refine E.pos (by simp) (E.pos (by simp) (E.bnd (One_ev r) (E.pos (by rw [hez, List.length_nil]; omega) (E.succ ?_))))
  simp only [selvedgeref02_String.l0]
  refine E.neg (by rw [E.w64 (by omega) (by omega)]; simp) (E.ret ?_)
  rw [List.nil_append, ← ints_enc, strs]
end Go.Proofs.YtaohghcmlohngaaDoor.Pure
