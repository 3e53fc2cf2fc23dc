import Derived.Test.YtdmkbaebcopjfaaD
import Derived.Test.YtdmkbaebcopjfaaT7
import Derived.Test.YtdmkbaebcopjfaaT8
/-! Well-formed texts: there and back; pieces. -/
namespace Go.Proofs.Ytdmkbaebcopjfaa.A
open Go.RowKit Go.Proofs.Ytdmkbaebcopjfaa.X Go.Proofs.YtdmkbaebcopjfaaW.PrintWords Go.Proofs.YtdmkbaebcopjfaaW.PrintLast Go.Proofs.Ytdmkbaebcopjfaa
set_option linter.unusedVariables false
set_option linter.unusedSimpArgs false

/-- A list's bytes as_ a text. -/
def tx (l : List UInt8) : ByteArray := ⟨l.toArray⟩
theorem tx_size (l : List UInt8) : (tx l).size = l.length := by simp [tx, ByteArray.size]
theorem tx_data (s : ByteArray) : tx s.data.toList = s := by simp [tx]
theorem tx_drop (a b : List UInt8) : (tx (a ++ b)).extract a.length (tx (a ++ b)).size = tx b := by
  apply ByteArray.ext
  apply Array.ext'
  simp [tx, ByteArray.size, ByteArray.data_extract]
theorem rrF_step (f : Nat) (r : Int) (h : okc r) (rest : List UInt8) : rrF (f + 1) (tx (Lib.encodeRune r ++ rest)) = r :: rrF f (tx rest) := by
  have hp := enc_pos r
  rw [rrF, if_neg (by rw [tx_size, List.length_append]; omega)]
  have hc : cut (tx (Lib.encodeRune r ++ rest)) = _ := enc_cut r h rest
  rw [hc]
  dsimp only
  rw [Int.toNat_natCast, tx_drop]
theorem rrF_enc_app (t : List UInt8) : ∀ (l : List Int), (∀ x ∈ l, okc x) → ∀ f : Nat, (encB l).length + t.length ≤ f → rrF f (tx (encB l ++ t)) = l ++ rrF t.length (tx t) := by
  intro l
  induction l with
  | nil => intro _ f h; exact rrF_fuel f t.length (tx t) (by rw [tx_size]; simp [encB] at h; exact h) (by rw [tx_size]; exact Nat.le_refl _)
  | cons r l ih =>
    intro hok f h
    have hp := enc_pos r
    rw [encB_cons, List.length_append] at h
    obtain ⟨f, rfl⟩ : ∃ q, f = q + 1 := ⟨f - 1, by omega⟩
    rw [encB_cons, List.append_assoc, rrF_step f r (hok r List.mem_cons_self), ih (fun x hx => hok x (List.mem_cons_of_mem _ hx)) f (by omega)]
    rfl
theorem rrF_enc (l : List Int) (hok : ∀ x ∈ l, okc x) (f : Nat) (h : (encB l).length ≤ f) : rrF f (tx (encB l)) = l := by
  have := rrF_enc_app [] l hok f (by simpa using h)
  rw [List.append_nil] at this
  rw [this]
  simp [rrF]
/-- Is a text well-formed? -/
def wellF : Nat → ByteArray → Bool
  | 0, _ => true
  | f + 1, s => if s.size = 0 then true else if (cut s).2.2 = true then wellF f (s.extract (cut s).2.1.toNat s.size) else false
theorem wellF_data : ∀ (f : Nat) (s : ByteArray), s.size ≤ f → wellF f s = true → s.data.toList = encB (rrF f s) := by
  intro f
  induction f with
  | zero =>
    intro s hs _
    have : s.data.toList.length = 0 := by rw [data_length]; omega
    rw [List.length_eq_zero_iff] at this
    rw [this]
    rfl
  | succ f ih =>
    intro s hs h
    rw [wellF] at h
    rw [rrF]
    by_cases c : s.size = 0
    · rw [if_pos c]
      have : s.data.toList.length = 0 := by rw [data_length]; omega
      rw [List.length_eq_zero_iff] at this
      rw [this]
      rfl
    · rw [if_neg c] at h ⊢
      have hp := cut_in s (by omega)
      split at h
      · rename_i hok
        have hpe := (part_enc s (by omega)).1
        rw [hok, pb, if_pos rfl] at hpe
        rw [encB_cons, ← hpe, ← ih _ (by rw [ByteArray.size_extract]; omega) h]
        have e : s = s.extract 0 (cut s).2.1.toNat ++ s.extract (cut s).2.1.toNat s.size := by
          rw [ByteArray.extract_append_extract]
          simp
        have e2 := congrArg (fun x : ByteArray => x.data.toList) e
        rw [ByteArray.data_append, Array.toList_append] at e2
        exact e2
      · cases h
theorem wellF_enc : ∀ (l : List Int), (∀ x ∈ l, okc x) → ∀ f : Nat, wellF f (tx (encB l)) = true := by
  intro l
  induction l with
  | nil =>
    intro _ f
    cases f with
    | zero => rfl
    | succ f => rw [wellF, if_pos (by rw [tx_size]; rfl)]
  | cons r l ih =>
    intro hok f
    cases f with
    | zero => rfl
    | succ f =>
      have hp := enc_pos r
      rw [encB_cons, wellF, if_neg (by rw [tx_size, List.length_append]; omega)]
      have hc : cut (tx (Lib.encodeRune r ++ encB l)) = _ := enc_cut r (hok r List.mem_cons_self) (encB l)
      rw [hc]
      dsimp only
      rw [if_pos rfl, Int.toNat_natCast, tx_drop]
      exact ih (fun x hx => hok x (List.mem_cons_of_mem _ hx)) f
theorem Well_l0 (x : ByteArray) (hx : x.size ≤ 1099511627776) : ∀ (f p : Nat), x.size ≤ p + f → p ≤ x.size → Ev (fun k => selvedgeref02_Well.l0 k x p) (wellF f (x.extract p x.size)) := by
  intro f
  induction f with
  | zero =>
    intro p h1 h2
    refine E.succ ?_
    simp only [selvedgeref02_Well.l0]
    exact E.neg (by omega) (E.ret rfl)
  | succ f ih =>
    intro p h1 h2
    have hz : (x.extract p x.size).size = x.size - p := by rw [ByteArray.size_extract]; omega
    refine E.succ ?_
    simp only [selvedgeref02_Well.l0]
    rw [wellF, hz]
    by_cases c : p < x.size
    · rw [if_neg (show ¬ x.size - p = 0 by omega)]
      have hp := cut_in (x.extract p x.size) (by omega)
      rw [hz] at hp
      refine E.pos (by omega) (E.pos (by omega) (E.pos (by omega) (E.bnd (cut_ev (x.extract p x.size) (by omega)) ?_)))
      by_cases q : (cut (x.extract p x.size)).2.2 = true
      · rw [if_pos q]
        refine E.pos q ?_
        have := ih (p + (cut (x.extract p x.size)).2.1.toNat) (by omega) (by omega)
        rw [← hz, extract_on x p _ h2]
        rw [E.w64 (by omega) (by omega)]
        rw [show (((p + (cut (x.extract p x.size)).2.1.toNat : Nat)) : Int) = (p : Int) + (cut (x.extract p x.size)).2.1 by omega] at this
        exact this
      · rw [if_neg q]
        exact E.neg q (E.ret rfl)
    · rw [if_pos (show x.size - p = 0 by omega)]
      exact E.neg (by omega) (E.ret rfl)
theorem Well_ev (x : ByteArray) (hx : x.size ≤ 1099511627776) : Ev (fun k => selvedgeref02_Well.f k x) (wellF x.size x) := by
  have := Well_l0 x hx x.size 0 (by omega) (by omega)
  rw [extract_all] at this
  exact this
/-! ### Lists without carriage returns -/
theorem norm_ok : ∀ (l : List Int) (st : Int), (∀ x ∈ l, okc x) → ∀ x ∈ norm st l, okc x ∧ x ≠ 13 := by
  intro l
  induction l with
  | nil => intro st _ x hx; cases hx
  | cons r l ih =>
    intro st hok x hx
    rw [norm] at hx
    rcases List.mem_append.1 hx with hx | hx
    · split at hx
      · cases hx
      · split at hx
        · rcases List.mem_singleton.1 hx with rfl
          exact ⟨⟨by decide, by decide, by decide⟩, by decide⟩
        · rename_i h1 h2
          rcases List.mem_singleton.1 hx with rfl
          exact ⟨hok x List.mem_cons_self, h2⟩
    · exact ih r (fun y hy => hok y (List.mem_cons_of_mem _ hy)) x hx
theorem norm_id : ∀ (l : List Int) (st : Int), st ≠ 13 → (∀ x ∈ l, x ≠ 13) → norm st l = l := by
  intro l
  induction l with
  | nil => intro st _ _; rfl
  | cons r l ih =>
    intro st h0 h
    have hr := h r List.mem_cons_self
    rw [norm, if_neg (fun q => h0 q.2), if_neg hr, ih r hr (fun x hx => h x (List.mem_cons_of_mem _ hx))]
    rfl
theorem norm_st (l : List Int) (st st' : Int) (h : st ≠ 13) (h' : st' ≠ 13) : norm st l = norm st' l := by
  cases l with
  | nil => rfl
  | cons r l => rw [norm, norm, if_neg (fun q : r = 10 ∧ st = 13 => h q.2), if_neg (fun q : r = 10 ∧ st' = 13 => h' q.2)]
theorem norm_append : ∀ (a b : List Int) (st : Int), norm st (a ++ b) = norm st a ++ norm (a.getLastD st) b := by
  intro a
  induction a with
  | nil => intro b st; rfl
  | cons r a ih =>
    intro b st
    rw [List.cons_append, norm, norm, ih, List.append_assoc]
    congr 2
    cases a <;> rfl
theorem encZ_big {r : Int} (h : okc r) (hr : r ≠ 13) : ∀ x ∈ Lib.encodeRuneZ r, x ≠ 13 ∧ 0 ≤ x ∧ x ≤ 255 := by
  obtain ⟨h0, h1, h2⟩ := h
  intro x hx
  by_cases c1 : r ≤ 127
  · rw [Lib.encodeRuneZ_one h0 c1] at hx
    simp at hx
    omega
  by_cases c2 : r ≤ 2047
  · rw [Lib.encodeRuneZ_two (by omega) c2] at hx
    simp at hx
    omega
  by_cases c3 : r ≤ 65535
  · rw [Lib.encodeRuneZ_three (by omega)] at hx
    simp at hx
    omega
  · rw [encZ4 (by omega)] at hx
    simp at hx
    omega
theorem enc_no13 {l : List Int} (hok : ∀ x ∈ l, okc x) (h : ∀ x ∈ l, x ≠ 13) : ∀ b ∈ encB l, b.toNat ≠ 13 := by
  intro b hb
  unfold encB at hb
  obtain ⟨r, hr, hb⟩ := List.mem_flatMap.1 hb
  unfold Lib.encodeRune at hb
  obtain ⟨x, hx, rfl⟩ := List.mem_map.1 hb
  have := encZ_big (hok r hr) (h r hr) x hx
  have e := enc_at x this.2
  omega
theorem encB_encs (l : List Int) : strOfNums (X.encs l) = tx (encB l) := by
  have : (X.encs l).map (fun n => UInt8.ofNat n.toNat) = encB l := by
    induction l with
    | nil => rfl
    | cons r l ih =>
      rw [encB_cons, ← ih]
      unfold X.encs
      rw [List.flatMap_cons, List.map_append]
      rfl
  unfold strOfNums tx
  rw [this]
theorem fx_ok (a : Int) : okc (fx a) := by
  unfold fx
  split
  · exact ⟨by decide, by decide, by decide⟩
  · rename_i h
    exact ⟨by omega, by omega, by omega⟩
theorem fx_enc (a : Int) : Lib.encodeRune (fx a) = Lib.encodeRune a := by
  unfold fx
  split
  · rename_i h
    have : Lib.encodeRuneZ a = [239, 191, 189] := by
      unfold Lib.encodeRuneZ
      rw [if_neg (show ¬ (0 ≤ a ∧ a ≤ 127) by omega), if_neg (show ¬ (128 ≤ a ∧ a ≤ 2047) by omega), if_neg (show ¬ ((2048 ≤ a ∧ a < 55296) ∨ (57343 < a ∧ a ≤ 65535)) by omega), if_neg (show ¬ (65536 ≤ a ∧ a ≤ 1114111) by omega)]
    unfold Lib.encodeRune
    rw [this]
    rfl
  · rfl
theorem encB_fx (l : List Int) : encB (l.map fx) = encB l := by
  induction l with
  | nil => rfl
  | cons r l ih => rw [List.map_cons, encB_cons, encB_cons, ih, fx_enc]
theorem encB_le (l : List Int) : (encB l).length ≤ 4 * l.length := by
  induction l with
  | nil => simp [encB]
  | cons r l ih =>
    have := Lib.encodeRuneZ_length r
    rw [encB_cons, List.length_append, encB_len, List.length_cons]
    omega
theorem norm_len : ∀ (l : List Int) (st : Int), (norm st l).length ≤ l.length := by
  intro l
  induction l with
  | nil => intro st; exact Nat.le_refl _
  | cons r l ih =>
    intro st
    have := ih r
    rw [norm, List.length_append, List.length_cons]
    split
    · simp; omega
    · split <;> simp <;> omega
theorem runes_enc (l : List Int) (hok : ∀ x ∈ l, okc x) (h : (encB l).length ≤ 1099511627776) : utf_Runes.f (tx (encB l)) = some l := by
  unfold utf_Runes.f
  rw [if_pos (by rw [tx_size]; exact h), runV_rr, tx_size, rrF_enc l hok _ (Nat.le_refl _)]
theorem string_enc (l : List Int) (h : l.length ≤ 1099511627776) (h2 : l.all in32 = true) : utf_String.f l = some (tx (encB l)) := by
  unfold utf_String.f
  rw [if_pos ⟨h, h2⟩, encB_encs]
theorem decV_norm (l : List Int) : decV l = tx (encB (norm 32 (rrF (strOfNums l).size (strOfNums l)))) := decV_enc l
end Go.Proofs.Ytdmkbaebcopjfaa.A
