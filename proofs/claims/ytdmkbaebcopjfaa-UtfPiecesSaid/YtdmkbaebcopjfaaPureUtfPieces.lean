import Derived.Test.YtdmkbaebcopjfaaT9
import Derived.Test.YtdmkbaebcopjfaaF
namespace Go.Proofs.Ytdmkbaebcopjfaa.Pure
open Go.RowKit Go.Proofs.Ytdmkbaebcopjfaa.X Go.Proofs.YtdmkbaebcopjfaaW.PrintWords Go.Proofs.YtdmkbaebcopjfaaW.PrintLast Go.Proofs.Ytdmkbaebcopjfaa Go.Proofs.Ytdmkbaebcopjfaa.A
set_option linter.unusedVariables false

theorem and192 : ∀ n : Nat, n < 256 → (Go.bits .and .u8 (n : Int) 192 = 128 ↔ 128 ≤ n ∧ n ≤ 191) := by decide +kernel
/-- How many of a list's bytes begin a character. -/
def cntL (l : List UInt8) : Int := l.foldr (fun b c => if 128 ≤ b.toNat ∧ b.toNat ≤ 191 then c else c + 1) 0
theorem cntL_cons (b : UInt8) (l : List UInt8) : cntL (b :: l) = if 128 ≤ b.toNat ∧ b.toNat ≤ 191 then cntL l else cntL l + 1 := rfl
theorem cntL_append : ∀ a b : List UInt8, cntL (a ++ b) = cntL a + cntL b := by
  intro a b
  induction a with
  | nil => simp [cntL]
  | cons x a ih =>
    rw [List.cons_append, cntL_cons, cntL_cons, ih]
    split <;> omega
theorem cnt_list (l : List UInt8) : ∀ n : Nat, n ≤ l.length → cnt (tx l) n = cntL (l.take n) := by
  intro n
  induction n with
  | zero => intro _; simp [cnt, cntL]
  | succ n ih =>
    intro h
    have hn : n < l.length := by omega
    have hb : bt (tx l) (n : Int) = (l[n].toNat : Int) := bt_at_list l n hn
    have h8 : l[n].toNat < 256 := UInt8.toNat_lt _
    rw [cnt, hb, ih (by omega), List.take_succ_eq_append_getElem hn, cntL_append, cntL_cons]
    have : cntL [] = 0 := rfl
    rw [this]
    by_cases c : 128 ≤ l[n].toNat ∧ l[n].toNat ≤ 191
    · rw [if_pos ((and192 _ h8).2 c), if_pos c]; omega
    · rw [if_neg (fun q => c ((and192 _ h8).1 q)), if_neg c]; omega
theorem cntL_rune {r : Int} (h : okc r) : cntL (Lib.encodeRune r) = 1 := by
  obtain ⟨h0, h1, h2⟩ := h
  have e : ∀ x : Int, 0 ≤ x → x ≤ 255 → x.toNat.toUInt8.toNat = x.toNat := by
    intro x a b
    have := enc_at x ⟨a, b⟩
    omega
  have n0 : cntL [] = 0 := rfl
  by_cases c1 : r ≤ 127
  · have q : Lib.encodeRune r = [r.toNat.toUInt8] := by rw [Lib.encodeRune, Lib.encodeRuneZ_one h0 c1]; rfl
    rw [q, cntL_cons, e r h0 (by omega), if_neg (by omega), n0]; rfl
  by_cases c2 : r ≤ 2047
  · have q : Lib.encodeRune r = [(192 + r / 64).toNat.toUInt8, (128 + r % 64).toNat.toUInt8] := by rw [Lib.encodeRune, Lib.encodeRuneZ_two (by omega) c2]; rfl
    rw [q, cntL_cons, e (192 + r / 64) (by omega) (by omega), if_neg (by omega), cntL_cons, e (128 + r % 64) (by omega) (by omega), if_pos (by omega), n0]; rfl
  by_cases c3 : r ≤ 65535
  · have q : Lib.encodeRune r = [(224 + r / 4096).toNat.toUInt8, (128 + r / 64 % 64).toNat.toUInt8, (128 + r % 64).toNat.toUInt8] := by rw [Lib.encodeRune, Lib.encodeRuneZ_three (by omega)]; rfl
    rw [q, cntL_cons, e (224 + r / 4096) (by omega) (by omega), if_neg (by omega), cntL_cons, e (128 + r / 64 % 64) (by omega) (by omega), if_pos (by omega), cntL_cons, e (128 + r % 64) (by omega) (by omega), if_pos (by omega), n0]; rfl
  · have q : Lib.encodeRune r = [(240 + r / 262144).toNat.toUInt8, (128 + r / 4096 % 64).toNat.toUInt8, (128 + r / 64 % 64).toNat.toUInt8, (128 + r % 64).toNat.toUInt8] := by rw [Lib.encodeRune, encZ4 (by omega)]; rfl
    rw [q, cntL_cons, e (240 + r / 262144) (by omega) (by omega), if_neg (by omega), cntL_cons, e (128 + r / 4096 % 64) (by omega) (by omega), if_pos (by omega), cntL_cons, e (128 + r / 64 % 64) (by omega) (by omega), if_pos (by omega), cntL_cons, e (128 + r % 64) (by omega) (by omega), if_pos (by omega), n0]; rfl
theorem cntL_enc : ∀ l : List Int, (∀ x ∈ l, okc x) → cntL (encB l) = l.length := by
  intro l
  induction l with
  | nil => intro _; rfl
  | cons r l ih =>
    intro h
    rw [encB_cons, cntL_append, cntL_rune (h r List.mem_cons_self), ih (fun x hx => h x (List.mem_cons_of_mem _ hx)), List.length_cons]
    omega
theorem last13 : ∀ (l : List Int) (st : Int), st ≠ 13 → l.getLastD st = 13 → ∃ p, l = p ++ [13] := by
  intro l st h0 h
  rcases List.eq_nil_or_concat l with rfl | ⟨p, x, rfl⟩
  · exact absurd h h0
  · simp at h
    exact ⟨p, by rw [h]; simp⟩
theorem UtfPieces : selvedgelaw02_UtfPieces.Pure := by
  intro a b h1 h2
  refine E.out (r := true) ?_
  unfold selvedgelaw02_UtfPieces.f
  by_cases c : 20000 < a.size ∨ 20000 < b.size
  · exact E.pos c (E.ret rfl)
  refine E.neg c (E.bnd (Well_ev a (by omega)) ?_)
  by_cases c2 : wellF a.size a = false ∨ (0 < a.size ∧ bt a ((a.size : Int) - 1) = 13)
  · exact E.pos c2 (E.ret rfl)
  refine E.neg c2 ?_
  have hw : wellF a.size a = true := by
    cases h : wellF a.size a with
    | true => rfl
    | false => exact absurd (.inl h) c2
  have hd := wellF_data a.size a (Nat.le_refl _) hw
  have hok := rrF_ok a.size a
  have hokb := rrF_ok b.size b
  generalize hLa : rrF a.size a = La at hd hok
  generalize hLb : rrF b.size b = Lb at hokb
  have ea : a = tx (encB La) := by rw [← hd, tx_data]
  have asz : (encB La).length = a.size := by rw [← hd, data_length]
  have lla : La.length ≤ a.size := by rw [← hLa]; exact rrF_len _ _
  have llb : Lb.length ≤ b.size := by rw [← hLb]; exact rrF_len _ _
  have hab : rrF (a ++ b).size (a ++ b) = La ++ Lb := by
    have e : a ++ b = tx (encB La ++ b.data.toList) := by
      rw [← hd]
      apply ByteArray.ext
      apply Array.ext'
      simp [tx]
    have hs : (a ++ b).size = (encB La).length + b.data.toList.length := by rw [ByteArray.size_append, asz, data_length]
    rw [hs]
    rw [e, rrF_enc_app b.data.toList La hok _ (Nat.le_refl _), data_length, tx_data, hLb]
  have hlast : La.getLastD 32 ≠ 13 := by
    intro h
    obtain ⟨p, rfl⟩ := last13 La 32 (by decide) h
    have e13 : encB (p ++ [13]) = encB p ++ [13] := by rw [encB_append]; rfl
    have hn : a.size = (encB p).length + 1 := by rw [← asz, e13]; simp
    refine c2 (.inr ⟨by omega, ?_⟩)
    rw [show (a.size : Int) - 1 = ((encB p).length : Int) by omega, ea, e13]
    exact (bt_at_list _ _ (by simp)).trans (by simp)
  have dec : ∀ x : ByteArray, x.size ≤ 65536 → utf_Decode.f (bytesOf x) = some (tx (encB (norm 32 (rrF x.size x))), 0) := by
    intro x hx
    unfold utf_Decode.f
    rw [if_pos (by rw [bytesOf_length]; exact hx), decV_norm, strOfNums_bytesOf]
  have la := norm_len La 32
  have lb := norm_len Lb 32
  have ba := encB_le (norm 32 La)
  have bb := encB_le (norm 32 Lb)
  have hx := dec a (by omega)
  have hy := dec b (by omega)
  have hz := dec (a ++ b) (by rw [ByteArray.size_append]; omega)
  rw [hLa] at hx
  rw [hLb] at hy
  rw [hab, norm_append, norm_st Lb _ 32 hlast (by decide), encB_append] at hz
  have hru : utf_Runes.f a = some La := by rw [ea]; exact runes_enc La hok (by omega)
  refine E.bno hx (E.bno hy (E.bno hz (E.bno hru ?_)))
  refine E.pos ⟨rfl, rfl, ?_, ?_, ?_⟩ (E.ret rfl)
  · dsimp only
    refine Prod.ext ?_ rfl
    apply ByteArray.ext
    apply Array.ext'
    simp [tx]
  · rw [← cntL_enc La hok, ← asz]
    have := cnt_list (encB La) (encB La).length (Nat.le_refl _)
    rw [List.take_length, ← ea] at this
    exact this.symm
  · dsimp only
    rw [tx_size, tx_size]
    omega

end Go.Proofs.Ytdmkbaebcopjfaa.Pure
