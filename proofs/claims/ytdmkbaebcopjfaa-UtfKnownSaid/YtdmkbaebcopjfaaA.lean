import Derived.Test.YtdmkbaebcopjfaaX
import Derived.Test.YtdmkbaebcopjfaaE
import Derived.Laws.BitsLemmas
/-! The parts of a text: what the program and the reference make of them. -/
namespace Go.Proofs.Ytdmkbaebcopjfaa.A
open Go.RowKit Go.Proofs.Ytdmkbaebcopjfaa.X Go.Proofs.YtdmkbaebcopjfaaW.PrintWords Go.Proofs.YtdmkbaebcopjfaaW.PrintLast Go.Proofs.Ytdmkbaebcopjfaa
set_option linter.unusedVariables false
set_option linter.unusedSimpArgs false

/-- How many bytes a part has that begins so; 0: none does. -/
def ld (b : Int) : Int := if b < 128 then 1 else if 194 ≤ b ∧ b ≤ 223 then 2 else if 224 ≤ b ∧ b ≤ 239 then 3 else if 240 ≤ b ∧ b ≤ 244 then 4 else 0
/-- From byte k on; r: what the bytes ahead tell. -/
def scan (s : ByteArray) (n : Int) : Nat → Int → Int → Int → Int → Int × Int × Bool
  | 0, k, _, _, r => (r, k, true)
  | d + 1, k, lo, hi, r => if k < n then (if k < s.size ∧ lo ≤ bt s k ∧ bt s k ≤ hi then scan s n d (k + 1) 128 191 (r * 64 + bt s k % 64) else (65533, k, false)) else (r, n, true)
/-- What the first byte tells of the character. -/
def hd (b n : Int) : Int := if n = 2 then b % 32 else if n = 3 then b % 16 else b % 8
/-- The first part: its character, how many bytes, whether it is well-formed. -/
def cut (s : ByteArray) : Int × Int × Bool :=
  if ld (bt s 0) = 0 then (65533, 1, false) else if ld (bt s 0) = 1 then (bt s 0, 1, true) else scan s (ld (bt s 0)) 4 1 (uN (bt s 0)).2.1 (uN (bt s 0)).2.2.1 (hd (bt s 0) (ld (bt s 0)))
theorem bt_in (s : ByteArray) (i : Int) : 0 ≤ bt s i ∧ bt s i ≤ 255 := bt_range s i
theorem ld1 {b : Int} (h : b < 128) : ld b = 1 := if_pos h
theorem ld2 {b : Int} (h : 194 ≤ b ∧ b ≤ 223) : ld b = 2 := by unfold ld; rw [if_neg (show ¬ b < 128 by omega), if_pos h]
theorem ld3 {b : Int} (h : 224 ≤ b ∧ b ≤ 239) : ld b = 3 := by unfold ld; rw [if_neg (show ¬ b < 128 by omega), if_neg (show ¬ (194 ≤ b ∧ b ≤ 223) by omega), if_pos h]
theorem ld4 {b : Int} (h : 240 ≤ b ∧ b ≤ 244) : ld b = 4 := by unfold ld; rw [if_neg (show ¬ b < 128 by omega), if_neg (show ¬ (194 ≤ b ∧ b ≤ 223) by omega), if_neg (show ¬ (224 ≤ b ∧ b ≤ 239) by omega), if_pos h]
theorem ld0 {b : Int} (h0 : ¬ b < 128) (h : b < 194 ∨ 244 < b) : ld b = 0 := by unfold ld; rw [if_neg h0, if_neg (show ¬ (194 ≤ b ∧ b ≤ 223) by omega), if_neg (show ¬ (224 ≤ b ∧ b ≤ 239) by omega), if_neg (show ¬ (240 ≤ b ∧ b ≤ 244) by omega)]
theorem ld_cases (b : Int) : (b < 128 ∧ ld b = 1) ∨ ((194 ≤ b ∧ b ≤ 223) ∧ ld b = 2) ∨ ((224 ≤ b ∧ b ≤ 239) ∧ ld b = 3) ∨ ((240 ≤ b ∧ b ≤ 244) ∧ ld b = 4) ∨ ((¬ b < 128 ∧ (b < 194 ∨ 244 < b)) ∧ ld b = 0) := by
  by_cases h1 : b < 128
  · exact .inl ⟨h1, ld1 h1⟩
  by_cases h2 : 194 ≤ b ∧ b ≤ 223
  · exact .inr (.inl ⟨h2, ld2 h2⟩)
  by_cases h3 : 224 ≤ b ∧ b ≤ 239
  · exact .inr (.inr (.inl ⟨h3, ld3 h3⟩))
  by_cases h4 : 240 ≤ b ∧ b ≤ 244
  · exact .inr (.inr (.inr (.inl ⟨h4, ld4 h4⟩)))
  · exact .inr (.inr (.inr (.inr ⟨⟨h1, by omega⟩, ld0 h1 (by omega)⟩)))
theorem uN1 {b : Int} (h : b < 128) : uN b = (0, 0, 0, true) := if_pos h
theorem uN0 {b : Int} (h0 : ¬ b < 128) (h : b < 194 ∨ 244 < b) : uN b = (0, 0, 0, false) := by unfold uN; rw [if_neg h0, if_pos h]
theorem uN2 {b : Int} (h : 194 ≤ b ∧ b ≤ 223) : uN b = (1, 128, 191, true) := by unfold uN; rw [if_neg (show ¬ b < 128 by omega), if_neg (show ¬ (b < 194 ∨ 244 < b) by omega), if_pos (show b < 224 by omega)]
theorem uN3 {b : Int} (h : 224 ≤ b ∧ b ≤ 239) : uN b = (2, if b = 224 then 160 else 128, if b = 237 then 159 else 191, true) := by unfold uN; rw [if_neg (show ¬ b < 128 by omega), if_neg (show ¬ (b < 194 ∨ 244 < b) by omega), if_neg (show ¬ b < 224 by omega), if_pos (show b < 240 by omega)]
theorem uN4 {b : Int} (h : 240 ≤ b ∧ b ≤ 244) : uN b = (3, if b = 240 then 144 else 128, if b = 244 then 143 else 191, true) := by unfold uN; rw [if_neg (show ¬ b < 128 by omega), if_neg (show ¬ (b < 194 ∨ 244 < b) by omega), if_neg (show ¬ b < 224 by omega), if_neg (show ¬ b < 240 by omega)]
theorem ld_uN (b : Int) : (uN b).1 = (if ld b = 0 then 0 else ld b - 1) ∧ ((uN b).2.2.2 = true ↔ ld b ≠ 0) := by
  rcases ld_cases b with ⟨h, e⟩ | ⟨h, e⟩ | ⟨h, e⟩ | ⟨h, e⟩ | ⟨h, e⟩
  · rw [e, uN1 h]; simp
  · rw [e, uN2 h]; simp
  · rw [e, uN3 h]; simp
  · rw [e, uN4 h]; simp
  · rw [e, uN0 h.1 h.2]; simp
theorem ld_in (b : Int) : 0 ≤ ld b ∧ ld b ≤ 4 := by
  rcases ld_cases b with ⟨h, e⟩ | ⟨h, e⟩ | ⟨h, e⟩ | ⟨h, e⟩ | ⟨h, e⟩ <;> rw [e] <;> omega
theorem pk_scan (s : ByteArray) (n : Int) : ∀ (d : Nat) (k lo hi r : Int), k + d = 5 → n ≤ 3 → 1 ≤ k → k ≤ n + 1 → k ≤ s.size → pk s n d k lo hi = ((scan s (n + 1) d k lo hi r).2.1, (scan s (n + 1) d k lo hi r).2.2) := by
  intro d
  induction d with
  | zero => intro k lo hi r h h1 h2 h3 h4; omega
  | succ d ih =>
    intro k lo hi r h h1 h2 h3 h4
    rw [pk, scan]
    by_cases c : k ≤ n
    · rw [if_pos c, if_pos (show k < n + 1 by omega)]
      by_cases e : k = s.size ∨ bt s k < lo ∨ hi < bt s k
      · rw [if_pos e, if_neg (show ¬ (k < s.size ∧ lo ≤ bt s k ∧ bt s k ≤ hi) by omega)]
      · have e2 : k < s.size ∧ lo ≤ bt s k ∧ bt s k ≤ hi := by omega
        rw [if_neg e, if_pos e2]
        exact ih (k + 1) 128 191 _ (by omega) h1 (by omega) (by omega) (by omega)
    · rw [if_neg c, if_neg (show ¬ k < n + 1 by omega)]
      have : k = n + 1 := by omega
      rw [this]
theorem part_cut (s : ByteArray) (h : 0 < s.size) : X.part s = ((cut s).2.1, (cut s).2.2) := by
  have h1 := ld_uN (bt s 0)
  have h2 := ld_in (bt s 0)
  unfold X.part cut
  dsimp only
  by_cases e0 : ld (bt s 0) = 0
  · rw [if_pos e0, if_neg (fun h => h1.2.1 h e0)]
  · have h3 := h1.1
    rw [if_neg e0] at h3
    rw [if_neg e0, if_pos (h1.2.2 e0), h3]
    by_cases e1 : ld (bt s 0) = 1
    · rw [if_pos e1, e1]
      simp [pk]
    · rw [if_neg e1]
      have := pk_scan s (ld (bt s 0) - 1) 4 1 (uN (bt s 0)).2.1 (uN (bt s 0)).2.2.1 (hd (bt s 0) (ld (bt s 0))) (by omega) (by omega) (by omega) (by omega) (by omega)
      rw [Int.sub_add_cancel] at this
      exact this

/-! ### The reference's cut -/
theorem size_ev (b : Int) : Ev (fun k => selvedgeref02_size.f k b) (ld b) := by
  unfold selvedgeref02_size.f
  have j1 : ∀ c r, (c = true → r = 3) → (c = false → r = (if b ≥ 240 then (if b ≤ 244 then 4 else 0) else 0)) → Ev (fun k => selvedgeref02_size.j1 k b c) r := by
    intro c r h1 h2
    refine E.succ ?_
    simp only [selvedgeref02_size.j1]
    cases c with
    | true => exact E.pos rfl (E.ret (h1 rfl).symm)
    | false =>
      refine E.neg (by decide) ?_
      have h2 := h2 rfl
      by_cases f : b ≥ 240
      · rw [if_pos f] at h2
        refine E.pos f ?_
        by_cases g : b ≤ 244
        · rw [if_pos g] at h2; exact E.pos g (E.ret h2.symm)
        · rw [if_neg g] at h2; exact E.neg g (E.ret h2.symm)
      · rw [if_neg f] at h2; exact E.neg f (E.ret h2.symm)
  have j0 : ∀ c, (c = true → 194 ≤ b ∧ b ≤ 223) → (c = false → ¬ b < 128 ∧ ¬ (194 ≤ b ∧ b ≤ 223)) → Ev (fun k => selvedgeref02_size.j0 k b c) (ld b) := by
    intro c h1 h2
    refine E.succ ?_
    simp only [selvedgeref02_size.j0]
    cases c with
    | true => exact E.pos rfl (E.ret (ld2 (h1 rfl)).symm)
    | false =>
      have h2 := h2 rfl
      refine E.neg (by decide) ?_
      have fin : ¬ (224 ≤ b ∧ b ≤ 239) → ld b = (if b ≥ 240 then (if b ≤ 244 then 4 else 0) else 0) := by
        intro q
        rcases ld_cases b with ⟨h, e⟩ | ⟨h, e⟩ | ⟨h, e⟩ | ⟨h, e⟩ | ⟨h, e⟩
        · omega
        · omega
        · omega
        · rw [e, if_pos h.1, if_pos h.2]
        · rw [e]
          by_cases f : b ≥ 240
          · rw [if_pos f, if_neg (show ¬ b ≤ 244 by omega)]
          · rw [if_neg f]
      by_cases f : b ≥ 224
      · exact E.pos f (j1 _ _ (fun h => ld3 ⟨f, of_decide_eq_true h⟩) (fun h => fin (fun q => of_decide_eq_false h q.2)))
      · exact E.neg f (j1 _ _ (fun h => by cases h) (fun _ => fin (by omega)))
  by_cases h2 : b < 128
  · exact E.pos h2 (E.ret (ld1 h2).symm)
  refine E.neg h2 ?_
  by_cases f : b ≥ 194
  · exact E.pos f (j0 _ (fun h => ⟨f, of_decide_eq_true h⟩) (fun h => ⟨h2, fun q => of_decide_eq_false h q.2⟩))
  · exact E.neg f (j0 _ (fun h => by cases h) (fun _ => ⟨h2, by omega⟩))
theorem second_ev {a b : Int} (h : 2 ≤ ld a) : selvedgeref02_second.f a b = some (decide ((uN a).2.1 ≤ b ∧ b ≤ (uN a).2.2.1)) := by
  have ha : 194 ≤ a ∧ a ≤ 244 := by
    rcases ld_cases a with ⟨h', e⟩ | ⟨h', e⟩ | ⟨h', e⟩ | ⟨h', e⟩ | ⟨h', e⟩ <;> omega
  have two : ∀ lo hi : Int, (if b ≥ lo then some (decide (b ≤ hi)) else some false) = some (decide (lo ≤ b ∧ b ≤ hi)) := by
    intro lo hi
    by_cases c : b ≥ lo
    · rw [if_pos c]; simp [show lo ≤ b from c]
    · rw [if_neg c]; simp; omega
  unfold selvedgeref02_second.f
  by_cases c1 : a = 224
  · subst c1; rw [if_pos rfl, two]; rfl
  rw [if_neg c1]
  by_cases c2 : a = 237
  · subst c2; rw [if_pos rfl, two]; rfl
  rw [if_neg c2]
  by_cases c3 : a = 240
  · subst c3; rw [if_pos rfl, two]; rfl
  rw [if_neg c3]
  by_cases c4 : a = 244
  · subst c4; rw [if_pos rfl, two]; rfl
  rw [if_neg c4, two]
  by_cases c5 : a < 224
  · rw [uN2 (by omega)]
  by_cases c6 : a < 240
  · rw [uN3 (by omega), if_neg c1, if_neg c2]
  · rw [uN4 (by omega), if_neg c3, if_neg c4]
theorem w32 {x : Int} (h0 : -2147483648 ≤ x) (h1 : x ≤ 2147483647) : wrap32 x = x := by
  unfold wrap32
  omega
theorem uN_lohi {a : Int} (h : 2 ≤ ld a) : 128 ≤ (uN a).2.1 ∧ (uN a).2.2.1 ≤ 191 := by
  rcases ld_cases a with ⟨h', e⟩ | ⟨h', e⟩ | ⟨h', e⟩ | ⟨h', e⟩ | ⟨h', e⟩
  · omega
  · rw [uN2 h']; decide
  · rw [uN3 h']; constructor <;> dsimp only <;> split <;> decide
  · rw [uN4 h']; constructor <;> dsimp only <;> split <;> decide
  · omega
theorem joined {r b : Int} (h0 : 0 ≤ r) (h1 : r ≤ 131071) (hb : 0 ≤ b ∧ b ≤ 255) : Go.bits .or .i32 (wrap32 (r * 64)) (wrap32 (Go.bits .and .u8 b 63)) = r * 64 + b % 64 := by
  rw [u8_and63 b hb.1 (by omega), w32 (by omega) (by omega), w32 (by omega) (by omega), i32_or6 _ _ (by omega) (by omega) (by omega) (by omega) (by omega)]
theorem cut_l0 (s : ByteArray) (n : Int) (hs : 0 < s.size) (hl : ld (bt s 0) = n) (h2 : 2 ≤ n) (h4 : n ≤ 4) : ∀ (d : Nat) (k r : Int), k + d = 5 → 1 ≤ k → k ≤ n → 0 ≤ r → (k = 1 → r ≤ 31) → (k = 2 → r ≤ 2047) → (k = 3 → r ≤ 131071) →
    Ev (fun q => selvedgeref02_Cut.l0 q s n r k) (scan s n d k (if k = 1 then (uN (bt s 0)).2.1 else 128) (if k = 1 then (uN (bt s 0)).2.2.1 else 191) r) := by
  intro d
  induction d with
  | zero => intro k r h; omega
  | succ d ih =>
    intro k r h h1 hkn hr b1 b2 b3
    have hlh := uN_lohi (a := bt s 0) (by omega)
    rw [scan]
    refine E.succ ?_
    simp only [selvedgeref02_Cut.l0]
    by_cases c : k < n
    · rw [if_pos c]
      refine E.pos c ?_
      by_cases e : k ≥ (s.size : Int)
      · rw [if_neg (show ¬ (k < (s.size : Int) ∧ _ ∧ _) from fun q => by omega)]
        exact E.pos e (E.ret rfl)
      refine E.neg e ?_
      have hb := bt_in s k
      have rest : (128 ≤ bt s k ∧ bt s k ≤ 191) → Ev (fun q => selvedgeref02_Cut.l0 q s n (Go.bits .or .i32 (wrap32 (r * 64)) (wrap32 (Go.bits .and .u8 (bt s k) 63))) (wrap64 (k + 1))) (scan s n d (k + 1) 128 191 (r * 64 + bt s k % 64)) := by
        intro hin
        rw [joined hr (by omega) hb, E.w64 (by omega) (by omega)]
        have := ih (k + 1) (r * 64 + bt s k % 64) (by omega) (by omega) (by omega) (by omega) (by omega) (by omega) (by omega)
        rw [if_neg (show ¬ k + 1 = 1 by omega), if_neg (show ¬ k + 1 = 1 by omega)] at this
        exact this
      have tail : Ev (fun q => if 0 ≤ k then (if k < (s.size : Int) then (if bt s k < 128 then (some (65533, k, false)) else (if bt s k > 191 then (some (65533, k, false)) else (selvedgeref02_Cut.l0 q s n (Go.bits .or .i32 (wrap32 (r * 64)) (wrap32 (Go.bits .and .u8 (bt s k) 63))) (wrap64 (k + 1))))) else none) else none)
          (if 128 ≤ bt s k ∧ bt s k ≤ 191 then scan s n d (k + 1) 128 191 (r * 64 + bt s k % 64) else (65533, k, false)) := by
        refine E.pos (by omega) (E.pos (by omega) ?_)
        by_cases q1 : bt s k < 128
        · rw [if_neg (show ¬ (128 ≤ bt s k ∧ bt s k ≤ 191) by omega)]; exact E.pos q1 (E.ret rfl)
        refine E.neg q1 ?_
        by_cases q2 : bt s k > 191
        · rw [if_neg (show ¬ (128 ≤ bt s k ∧ bt s k ≤ 191) by omega)]; exact E.pos q2 (E.ret rfl)
        · have q3 : 128 ≤ bt s k ∧ bt s k ≤ 191 := by omega
          rw [if_pos q3]
          exact E.neg q2 (rest q3)
      by_cases e1 : k = 1
      · subst e1
        rw [if_pos rfl, if_pos rfl]
        refine E.pos rfl (E.pos (by omega) (E.pos (by omega) (E.bno (second_ev (by omega)) ?_)))
        by_cases q : (uN (bt s 0)).2.1 ≤ bt s 1 ∧ bt s 1 ≤ (uN (bt s 0)).2.2.1
        · rw [if_pos ⟨by omega, q.1, q.2⟩, decide_eq_true q]
          rw [if_pos (show 128 ≤ bt s 1 ∧ bt s 1 ≤ 191 by omega)] at tail
          exact E.pos rfl tail
        · rw [if_neg (fun z => q z.2), decide_eq_false q]
          exact E.neg (by decide) (E.ret rfl)
      · rw [if_neg e1, if_neg e1]
        have e2 : (k < (s.size : Int) ∧ 128 ≤ bt s k ∧ bt s k ≤ 191) ↔ (128 ≤ bt s k ∧ bt s k ≤ 191) := by omega
        simp only [e2]
        exact E.neg e1 tail
    · rw [if_neg c]
      have : k = n := by omega
      exact E.neg c (E.ret rfl)
theorem cut_ev (s : ByteArray) (hs : 0 < s.size) : Ev (fun q => selvedgeref02_Cut.f q s) (cut s) := by
  unfold selvedgeref02_Cut.f
  have hb := bt_in s 0
  refine E.pos (by omega) (E.bnd (size_ev (bt s 0)) ?_)
  unfold cut
  by_cases e0 : ld (bt s 0) = 0
  · rw [if_pos e0]; exact E.pos e0 (E.ret rfl)
  rw [if_neg e0]
  refine E.neg e0 ?_
  by_cases e1 : ld (bt s 0) = 1
  · rw [if_pos e1, w32 (by omega) (by omega)]; exact E.pos e1 (E.ret rfl)
  rw [if_neg e1]
  have hi := ld_in (bt s 0)
  refine E.neg e1 ?_
  rw [E.w64 (by omega) (by omega)]
  refine E.pos (by omega) ?_
  have hh : Go.bits .and .i32 (wrap32 (bt s 0)) (shr .i32 255 (ld (bt s 0) + 1)) = hd (bt s 0) (ld (bt s 0)) := by
    rw [w32 (by omega) (by omega)]
    rcases ld_cases (bt s 0) with ⟨h, e⟩ | ⟨h, e⟩ | ⟨h, e⟩ | ⟨h, e⟩ | ⟨h, e⟩
    · omega
    · rw [e]
      have : shr .i32 255 (2 + 1) = 2 ^ 5 - 1 := by decide
      rw [this, bits_mask .i32 31 (by decide) wraps_i32 5 (by decide) _ hb.1 (by omega)]
      rfl
    · rw [e]
      have : shr .i32 255 (3 + 1) = 2 ^ 4 - 1 := by decide
      rw [this, bits_mask .i32 31 (by decide) wraps_i32 4 (by decide) _ hb.1 (by omega)]
      rfl
    · rw [e]
      have : shr .i32 255 (4 + 1) = 2 ^ 3 - 1 := by decide
      rw [this, bits_mask .i32 31 (by decide) wraps_i32 3 (by decide) _ hb.1 (by omega)]
      rfl
    · omega
  rw [hh]
  have hhd : 0 ≤ hd (bt s 0) (ld (bt s 0)) ∧ hd (bt s 0) (ld (bt s 0)) ≤ 31 := by
    unfold hd
    split
    · omega
    · split <;> omega
  have := cut_l0 s (ld (bt s 0)) hs rfl (by omega) hi.2 4 1 (hd (bt s 0) (ld (bt s 0))) (by omega) (by omega) (by omega) hhd.1 (fun _ => hhd.2) (by omega) (by omega)
  rw [if_pos rfl, if_pos rfl] at this
  exact this
end Go.Proofs.Ytdmkbaebcopjfaa.A
