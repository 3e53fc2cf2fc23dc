import Derived.Test.YtdmkbaebcopjfaaB
/-! Characters and their bytes. -/
namespace Go.Proofs.Ytdmkbaebcopjfaa.A
open Go.RowKit Go.Proofs.Ytdmkbaebcopjfaa.X Go.Proofs.YtdmkbaebcopjfaaW.PrintWords Go.Proofs.YtdmkbaebcopjfaaW.PrintLast Go.Proofs.Ytdmkbaebcopjfaa
set_option linter.unusedVariables false
set_option linter.unusedSimpArgs false

def lo3 (b : Int) : Int := if b = 224 then 160 else 128
def hi3 (b : Int) : Int := if b = 237 then 159 else 191
def lo4 (b : Int) : Int := if b = 240 then 144 else 128
def hi4 (b : Int) : Int := if b = 244 then 143 else 191
theorem lo3_or (b : Int) : (b = 224 ∧ lo3 b = 160) ∨ (b ≠ 224 ∧ lo3 b = 128) := by unfold lo3; split <;> omega
theorem hi3_or (b : Int) : (b = 237 ∧ hi3 b = 159) ∨ (b ≠ 237 ∧ hi3 b = 191) := by unfold hi3; split <;> omega
theorem lo4_or (b : Int) : (b = 240 ∧ lo4 b = 144) ∨ (b ≠ 240 ∧ lo4 b = 128) := by unfold lo4; split <;> omega
theorem hi4_or (b : Int) : (b = 244 ∧ hi4 b = 143) ∨ (b ≠ 244 ∧ hi4 b = 191) := by unfold hi4; split <;> omega
def C1 (s : ByteArray) : Prop := bt s 0 < 128
def C2 (s : ByteArray) : Prop := (194 ≤ bt s 0 ∧ bt s 0 ≤ 223) ∧ 1 < s.size ∧ 128 ≤ bt s 1 ∧ bt s 1 ≤ 191
def C3 (s : ByteArray) : Prop := (224 ≤ bt s 0 ∧ bt s 0 ≤ 239) ∧ 2 < s.size ∧ (lo3 (bt s 0) ≤ bt s 1 ∧ bt s 1 ≤ hi3 (bt s 0)) ∧ 128 ≤ bt s 2 ∧ bt s 2 ≤ 191
def C4 (s : ByteArray) : Prop := (240 ≤ bt s 0 ∧ bt s 0 ≤ 244) ∧ 3 < s.size ∧ (lo4 (bt s 0) ≤ bt s 1 ∧ bt s 1 ≤ hi4 (bt s 0)) ∧ (128 ≤ bt s 2 ∧ bt s 2 ≤ 191) ∧ 128 ≤ bt s 3 ∧ bt s 3 ≤ 191
def R2 (s : ByteArray) : Int := bt s 0 % 32 * 64 + bt s 1 % 64
def R3 (s : ByteArray) : Int := (bt s 0 % 16 * 64 + bt s 1 % 64) * 64 + bt s 2 % 64
def R4 (s : ByteArray) : Int := ((bt s 0 % 8 * 64 + bt s 1 % 64) * 64 + bt s 2 % 64) * 64 + bt s 3 % 64
theorem cut1 {s : ByteArray} (h : C1 s) : cut s = (bt s 0, 1, true) := by
  unfold cut
  rw [ld1 h, if_neg (by decide), if_pos rfl]
theorem cut2 {s : ByteArray} (h : C2 s) : cut s = (R2 s, 2, true) := by
  obtain ⟨h0, h1, h2⟩ := h
  unfold cut
  rw [ld2 h0, if_neg (by decide), if_neg (by decide), uN2 h0, scan, if_pos (show (1 : Int) < 2 by decide), if_pos ⟨by omega, h2⟩, scan, if_neg (show ¬ (1 : Int) + 1 < 2 by decide)]
  rfl
theorem cut3 {s : ByteArray} (h : C3 s) : cut s = (R3 s, 3, true) := by
  obtain ⟨h0, h1, h2, h3⟩ := h
  unfold cut
  rw [ld3 h0, if_neg (by decide), if_neg (by decide), uN3 h0]
  rw [scan, if_pos (show (1 : Int) < 3 by decide), if_pos ⟨by omega, h2⟩, scan, if_pos (show (1 : Int) + 1 < 3 by decide), if_pos ⟨by omega, h3⟩, scan, if_neg (show ¬ (1 : Int) + 1 + 1 < 3 by decide)]
  rfl
theorem cut4 {s : ByteArray} (h : C4 s) : cut s = (R4 s, 4, true) := by
  obtain ⟨h0, h1, h2, h3, h4⟩ := h
  unfold cut
  rw [ld4 h0, if_neg (by decide), if_neg (by decide), uN4 h0]
  rw [scan, if_pos (show (1 : Int) < 4 by decide), if_pos ⟨by omega, h2⟩, scan, if_pos (show (1 : Int) + 1 < 4 by decide), if_pos ⟨by omega, h3⟩, scan, if_pos (show (1 : Int) + 1 + 1 < 4 by decide), if_pos ⟨by omega, h4⟩, scan, if_neg (show ¬ (1 : Int) + 1 + 1 + 1 < 4 by decide)]
  rfl
theorem cut_ok {s : ByteArray} (hok : (cut s).2.2 = true) : C1 s ∨ C2 s ∨ C3 s ∨ C4 s := by
  rcases ld_cases (bt s 0) with ⟨h, e⟩ | ⟨h, e⟩ | ⟨h, e⟩ | ⟨h, e⟩ | ⟨h, e⟩
  · exact .inl h
  · have hc : cut s = scan s 2 4 1 128 191 (bt s 0 % 32) := by unfold cut; rw [e, if_neg (by decide), if_neg (by decide), uN2 h]; rfl
    by_cases c1 : (1 : Int) < s.size ∧ 128 ≤ bt s 1 ∧ bt s 1 ≤ 191
    · exact .inr (.inl ⟨h, by omega, c1.2⟩)
    · exfalso
      rw [hc, scan, if_pos (show (1 : Int) < 2 by decide), if_neg c1] at hok
      cases hok
  · have hc : cut s = scan s 3 4 1 (lo3 (bt s 0)) (hi3 (bt s 0)) (bt s 0 % 16) := by unfold cut; rw [e, if_neg (by decide), if_neg (by decide), uN3 h]; rfl
    by_cases c1 : (1 : Int) < s.size ∧ lo3 (bt s 0) ≤ bt s 1 ∧ bt s 1 ≤ hi3 (bt s 0)
    · by_cases c2 : (1 : Int) + 1 < s.size ∧ 128 ≤ bt s (1 + 1) ∧ bt s (1 + 1) ≤ 191
      · exact .inr (.inr (.inl ⟨h, by omega, c1.2, c2.2⟩))
      · exfalso
        rw [hc, scan, if_pos (show (1 : Int) < 3 by decide), if_pos c1, scan, if_pos (show (1 : Int) + 1 < 3 by decide), if_neg c2] at hok
        cases hok
    · exfalso
      rw [hc, scan, if_pos (show (1 : Int) < 3 by decide), if_neg c1] at hok
      cases hok
  · have hc : cut s = scan s 4 4 1 (lo4 (bt s 0)) (hi4 (bt s 0)) (bt s 0 % 8) := by unfold cut; rw [e, if_neg (by decide), if_neg (by decide), uN4 h]; rfl
    by_cases c1 : (1 : Int) < s.size ∧ lo4 (bt s 0) ≤ bt s 1 ∧ bt s 1 ≤ hi4 (bt s 0)
    · by_cases c2 : (1 : Int) + 1 < s.size ∧ 128 ≤ bt s (1 + 1) ∧ bt s (1 + 1) ≤ 191
      · by_cases c3 : (1 : Int) + 1 + 1 < s.size ∧ 128 ≤ bt s (1 + 1 + 1) ∧ bt s (1 + 1 + 1) ≤ 191
        · exact .inr (.inr (.inr ⟨h, by omega, c1.2, c2.2, c3.2⟩))
        · exfalso
          rw [hc, scan, if_pos (show (1 : Int) < 4 by decide), if_pos c1, scan, if_pos (show (1 : Int) + 1 < 4 by decide), if_pos c2, scan, if_pos (show (1 : Int) + 1 + 1 < 4 by decide), if_neg c3] at hok
          cases hok
      · exfalso
        rw [hc, scan, if_pos (show (1 : Int) < 4 by decide), if_pos c1, scan, if_pos (show (1 : Int) + 1 < 4 by decide), if_neg c2] at hok
        cases hok
    · exfalso
      rw [hc, scan, if_pos (show (1 : Int) < 4 by decide), if_neg c1] at hok
      cases hok
  · exfalso
    unfold cut at hok
    rw [if_pos e] at hok
    cases hok
/-- A character that may stand. -/
def okc (r : Int) : Prop := 0 ≤ r ∧ r ≤ 1114111 ∧ ¬ (55296 ≤ r ∧ r ≤ 57343)
theorem encZ4 {r : Int} (h : 65536 ≤ r ∧ r ≤ 1114111) : Lib.encodeRuneZ r = [240 + r / 262144, 128 + r / 4096 % 64, 128 + r / 64 % 64, 128 + r % 64] := by
  unfold Lib.encodeRuneZ
  rw [if_neg (show ¬ (0 ≤ r ∧ r ≤ 127) by omega), if_neg (show ¬ (128 ≤ r ∧ r ≤ 2047) by omega), if_neg (show ¬ ((2048 ≤ r ∧ r < 55296) ∨ (57343 < r ∧ r ≤ 65535)) by omega), if_pos h]
/-- A part's bytes, counted. -/
def bys (s : ByteArray) (n : Nat) : List Int := (List.range n).map fun i : Nat => bt s (i : Int)
theorem cut_enc {s : ByteArray} (hok : (cut s).2.2 = true) : Lib.encodeRuneZ (cut s).1 = bys s (cut s).2.1.toNat ∧ okc (cut s).1 := by
  have z0 := bt_in s 0
  have z1 := bt_in s 1
  have z2 := bt_in s 2
  have z3 := bt_in s 3
  rcases cut_ok hok with h | h | h | h
  · rw [cut1 h]
    unfold C1 at h
    refine ⟨?_, by unfold okc; dsimp only; omega⟩
    rw [Lib.encodeRuneZ_one (by omega) (by omega)]
    rfl
  · rw [cut2 h]
    obtain ⟨h0, h1, h2⟩ := h
    unfold R2
    refine ⟨?_, by unfold okc; dsimp only; omega⟩
    rw [Lib.encodeRuneZ_two (by dsimp only; omega) (by dsimp only; omega)]
    show _ = [bt s 0, bt s 1]
    dsimp only
    congr 1
    · omega
    · congr 1
      omega
  · rw [cut3 h]
    obtain ⟨h0, h1, h2, h3⟩ := h
    have q1 := lo3_or (bt s 0)
    have q2 := hi3_or (bt s 0)
    unfold R3
    have hr : (2048 ≤ (bt s 0 % 16 * 64 + bt s 1 % 64) * 64 + bt s 2 % 64 ∧ (bt s 0 % 16 * 64 + bt s 1 % 64) * 64 + bt s 2 % 64 < 55296) ∨ (57343 < (bt s 0 % 16 * 64 + bt s 1 % 64) * 64 + bt s 2 % 64 ∧ (bt s 0 % 16 * 64 + bt s 1 % 64) * 64 + bt s 2 % 64 ≤ 65535) := by omega
    refine ⟨?_, by unfold okc; dsimp only; omega⟩
    rw [Lib.encodeRuneZ_three hr]
    show _ = [bt s 0, bt s 1, bt s 2]
    congr 1
    · omega
    · congr 1
      · omega
      · congr 1
        omega
  · rw [cut4 h]
    obtain ⟨h0, h1, h2, h3, h4⟩ := h
    have q1 := lo4_or (bt s 0)
    have q2 := hi4_or (bt s 0)
    unfold R4
    have hr : 65536 ≤ ((bt s 0 % 8 * 64 + bt s 1 % 64) * 64 + bt s 2 % 64) * 64 + bt s 3 % 64 ∧ ((bt s 0 % 8 * 64 + bt s 1 % 64) * 64 + bt s 2 % 64) * 64 + bt s 3 % 64 ≤ 1114111 := by omega
    refine ⟨?_, by unfold okc; dsimp only; omega⟩
    rw [encZ4 hr]
    show _ = [bt s 0, bt s 1, bt s 2, bt s 3]
    congr 1
    · omega
    · congr 1
      · omega
      · congr 1
        · omega
        · congr 1
          omega
theorem encB_len (r : Int) : (Lib.encodeRune r).length = (Lib.encodeRuneZ r).length := by simp [Lib.encodeRune]
/-- What comes of a part is its character's bytes. -/
theorem part_enc (s : ByteArray) (hs : 0 < s.size) : pb (s.extract 0 (cut s).2.1.toNat) (cut s).2.2 = Lib.encodeRune (cut s).1 ∧ okc (cut s).1 := by
  cases hok : (cut s).2.2 with
  | true =>
    obtain ⟨h1, h2⟩ := cut_enc hok
    refine ⟨?_, h2⟩
    rw [pb, if_pos rfl, Lib.encodeRune, h1]
    have hp := cut_in s hs
    apply List.ext_getElem
    · rw [Array.length_toList]
      show (s.extract 0 (cut s).2.1.toNat).size = _
      rw [ByteArray.size_extract]
      simp [bys]
      omega
    · intro n a b
      simp [bys] at b
      have hn : n < s.size := by omega
      simp [bys]
      unfold bt
      rw [dif_pos (show ((n : Int)).toNat < s.size by omega)]
      simp [ByteArray.getElem_eq_getElem_data]
  | false =>
    rw [cut_bad s hs hok, pb, if_neg (by decide)]
    exact ⟨rfl, by decide, by decide, by decide⟩
/-- The text of characters. -/
def encB (l : List Int) : List UInt8 := l.flatMap Lib.encodeRune
theorem encB_cons (x : Int) (l : List Int) : encB (x :: l) = Lib.encodeRune x ++ encB l := rfl
theorem encB_append (a b : List Int) : encB (a ++ b) = encB a ++ encB b := by unfold encB; rw [List.flatMap_append]
theorem mend_enc : ∀ (f : Nat) (s : ByteArray), mend f s = encB (rrF f s) := by
  intro f
  induction f with
  | zero => intro s; rfl
  | succ f ih =>
    intro s
    rw [mend, rrF]
    by_cases c : s.size = 0
    · rw [if_pos c, if_pos c]; rfl
    · rw [if_neg c, if_neg c, encB_cons, part_cut s (by omega)]
      dsimp only
      rw [(part_enc s (by omega)).1, ih]
theorem rrF_ok : ∀ (f : Nat) (s : ByteArray), ∀ x ∈ rrF f s, okc x := by
  intro f
  induction f with
  | zero => intro s x hx; cases hx
  | succ f ih =>
    intro s x hx
    rw [rrF] at hx
    by_cases c : s.size = 0
    · rw [if_pos c] at hx; cases hx
    · rw [if_neg c] at hx
      rcases List.mem_cons.1 hx with rfl | hx
      · exact (part_enc s (by omega)).2
      · exact ih _ x hx
theorem bt_at_list (l : List UInt8) (n : Nat) (h : n < l.length) : bt ⟨l.toArray⟩ (n : Int) = (l[n].toNat : Int) := by
  unfold bt
  rw [dif_pos (show ((n : Int)).toNat < (⟨l.toArray⟩ : ByteArray).size by simp [ByteArray.size]; omega)]
  simp [ByteArray.getElem_eq_getElem_data]
theorem enc_at (x : Int) (h : 0 ≤ x ∧ x ≤ 255) : ((x.toNat.toUInt8).toNat : Int) = x := by
  have : x.toNat.toUInt8.toNat = x.toNat % 256 := by simp [Nat.toUInt8]
  rw [this]
  omega
/-- A character's bytes are cut as it. -/
theorem enc_cut (r : Int) (h : okc r) (rest : List UInt8) : cut ⟨(Lib.encodeRune r ++ rest).toArray⟩ = (r, ((Lib.encodeRune r).length : Int), true) := by
  obtain ⟨h0, h1, h2⟩ := h
  have sz : ∀ l : List UInt8, (⟨l.toArray⟩ : ByteArray).size = l.length := fun l => by simp [ByteArray.size]
  by_cases c1 : r ≤ 127
  · have e : Lib.encodeRune r = [r.toNat.toUInt8] := by rw [Lib.encodeRune, Lib.encodeRuneZ_one h0 c1]; rfl
    rw [e]
    have b0 : bt ⟨([r.toNat.toUInt8] ++ rest).toArray⟩ 0 = r := (bt_at_list _ 0 (by simp)).trans (enc_at r (by omega))
    rw [cut1 (by unfold C1; rw [b0]; omega), b0]
    rfl
  by_cases c2 : r ≤ 2047
  · have e : Lib.encodeRune r = [(192 + r / 64).toNat.toUInt8, (128 + r % 64).toNat.toUInt8] := by rw [Lib.encodeRune, Lib.encodeRuneZ_two (by omega) c2]; rfl
    rw [e]
    have b0 : bt ⟨([(192 + r / 64).toNat.toUInt8, (128 + r % 64).toNat.toUInt8] ++ rest).toArray⟩ 0 = 192 + r / 64 := (bt_at_list _ 0 (by simp)).trans (enc_at _ (by omega))
    have b1 : bt ⟨([(192 + r / 64).toNat.toUInt8, (128 + r % 64).toNat.toUInt8] ++ rest).toArray⟩ 1 = 128 + r % 64 := (bt_at_list _ 1 (by simp)).trans (enc_at _ (by omega))
    rw [cut2 ⟨by rw [b0]; omega, by rw [sz]; simp, by rw [b1]; omega⟩]
    unfold R2
    rw [b0, b1]
    refine Prod.ext ?_ rfl
    dsimp only
    omega
  by_cases c3 : r ≤ 65535
  · have e : Lib.encodeRune r = [(224 + r / 4096).toNat.toUInt8, (128 + r / 64 % 64).toNat.toUInt8, (128 + r % 64).toNat.toUInt8] := by rw [Lib.encodeRune, Lib.encodeRuneZ_three (by omega)]; rfl
    rw [e]
    have b0 : bt ⟨([(224 + r / 4096).toNat.toUInt8, (128 + r / 64 % 64).toNat.toUInt8, (128 + r % 64).toNat.toUInt8] ++ rest).toArray⟩ 0 = 224 + r / 4096 := (bt_at_list _ 0 (by simp)).trans (enc_at _ (by omega))
    have b1 : bt ⟨([(224 + r / 4096).toNat.toUInt8, (128 + r / 64 % 64).toNat.toUInt8, (128 + r % 64).toNat.toUInt8] ++ rest).toArray⟩ 1 = 128 + r / 64 % 64 := (bt_at_list _ 1 (by simp)).trans (enc_at _ (by omega))
    have b2 : bt ⟨([(224 + r / 4096).toNat.toUInt8, (128 + r / 64 % 64).toNat.toUInt8, (128 + r % 64).toNat.toUInt8] ++ rest).toArray⟩ 2 = 128 + r % 64 := (bt_at_list _ 2 (by simp)).trans (enc_at _ (by omega))
    have q1 := lo3_or (224 + r / 4096)
    have q2 := hi3_or (224 + r / 4096)
    rw [cut3 ⟨by rw [b0]; omega, by rw [sz]; simp, by rw [b0, b1]; omega, by rw [b2]; omega⟩]
    unfold R3
    rw [b0, b1, b2]
    refine Prod.ext ?_ rfl
    dsimp only
    omega
  · have e : Lib.encodeRune r = [(240 + r / 262144).toNat.toUInt8, (128 + r / 4096 % 64).toNat.toUInt8, (128 + r / 64 % 64).toNat.toUInt8, (128 + r % 64).toNat.toUInt8] := by rw [Lib.encodeRune, encZ4 (by omega)]; rfl
    rw [e]
    have b0 : bt ⟨([(240 + r / 262144).toNat.toUInt8, (128 + r / 4096 % 64).toNat.toUInt8, (128 + r / 64 % 64).toNat.toUInt8, (128 + r % 64).toNat.toUInt8] ++ rest).toArray⟩ 0 = 240 + r / 262144 := (bt_at_list _ 0 (by simp)).trans (enc_at _ (by omega))
    have b1 : bt ⟨([(240 + r / 262144).toNat.toUInt8, (128 + r / 4096 % 64).toNat.toUInt8, (128 + r / 64 % 64).toNat.toUInt8, (128 + r % 64).toNat.toUInt8] ++ rest).toArray⟩ 1 = 128 + r / 4096 % 64 := (bt_at_list _ 1 (by simp)).trans (enc_at _ (by omega))
    have b2 : bt ⟨([(240 + r / 262144).toNat.toUInt8, (128 + r / 4096 % 64).toNat.toUInt8, (128 + r / 64 % 64).toNat.toUInt8, (128 + r % 64).toNat.toUInt8] ++ rest).toArray⟩ 2 = 128 + r / 64 % 64 := (bt_at_list _ 2 (by simp)).trans (enc_at _ (by omega))
    have b3 : bt ⟨([(240 + r / 262144).toNat.toUInt8, (128 + r / 4096 % 64).toNat.toUInt8, (128 + r / 64 % 64).toNat.toUInt8, (128 + r % 64).toNat.toUInt8] ++ rest).toArray⟩ 3 = 128 + r % 64 := (bt_at_list _ 3 (by simp)).trans (enc_at _ (by omega))
    have q1 := lo4_or (240 + r / 262144)
    have q2 := hi4_or (240 + r / 262144)
    rw [cut4 ⟨by rw [b0]; omega, by rw [sz]; simp, by rw [b0, b1]; omega, by rw [b2]; omega, by rw [b3]; omega⟩]
    unfold R4
    rw [b0, b1, b2, b3]
    refine Prod.ext ?_ rfl
    dsimp only
    omega
theorem enc_pos (r : Int) : 1 ≤ (Lib.encodeRune r).length := by
  rw [encB_len]
  unfold Lib.encodeRuneZ
  repeat' split
  all_goals simp
/-- .. and decoded as it, wherever they stand. -/
theorem decode_enc (pre rest : List UInt8) (r : Int) (h : okc r) : Utf8.decode ⟨(pre ++ (Lib.encodeRune r ++ rest)).toArray⟩ pre.length = (r.toNat, (Lib.encodeRune r).length) := by
  have hc := enc_cut r h rest
  have hp := enc_pos r
  have hd := decode_cut ⟨(Lib.encodeRune r ++ rest).toArray⟩ ⟨(pre ++ (Lib.encodeRune r ++ rest)).toArray⟩ pre.length (by simp [ByteArray.size]; omega) (by rw [hc]) (fun k hk => by
    rw [hc] at hk
    dsimp only at hk
    have hk2 : k < (Lib.encodeRune r).length := by omega
    rw [get_pre pre (Lib.encodeRune r) rest k hk2, bt_at_list _ k (by simp; omega), List.getElem_append_left hk2]) (by rw [hc]; simp [ByteArray.size]; omega)
  rw [hc] at hd
  dsimp only at hd
  have := h.1
  exact Prod.ext (by dsimp only; omega) (by dsimp only; omega)
/-- The list without carriage returns; st: what stands ahead. -/
def norm : Int → List Int → List Int
  | _, [] => []
  | st, r :: l => (if r = 10 ∧ st = 13 then [] else if r = 13 then [10] else [r]) ++ norm r l
theorem decOne_norm (r st : Int) : decOne r st = encB (if r = 10 ∧ st = 13 then [] else if r = 13 then [10] else [r]) := by
  unfold decOne
  split
  · rfl
  · split
    · rfl
    · simp [encB]
theorem decF_enc : ∀ (l : List Int), (∀ x ∈ l, okc x) → ∀ (pre : List UInt8) (fuel : Nat) (st : Int), (encB l).length ≤ fuel → decF ⟨(pre ++ encB l).toArray⟩ fuel pre.length st = encB (norm st l) := by
  intro l
  induction l with
  | nil => intro _ pre fuel st h; exact (decF_end _ _ _ _ (by simp [encB, ByteArray.size])).trans rfl
  | cons r l ih =>
    intro hok pre fuel st h
    have hp := enc_pos r
    have hr := hok r (List.mem_cons_self)
    rw [encB_cons] at h ⊢
    rw [List.length_append] at h
    obtain ⟨fuel, rfl⟩ : ∃ q, fuel = q + 1 := ⟨fuel - 1, by omega⟩
    rw [decF, if_pos (by simp [ByteArray.size]; omega), decode_enc pre (encB l) r hr]
    dsimp only
    rw [Int.toNat_of_nonneg hr.1]
    have := ih (fun x hx => hok x (List.mem_cons_of_mem _ hx)) (pre ++ Lib.encodeRune r) fuel r (by omega)
    rw [List.append_assoc, List.length_append] at this
    rw [this, norm, encB_append, decOne_norm]
theorem decV_enc (l : List Int) : decV l = ⟨(encB (norm 32 (rrF (strOfNums l).size (strOfNums l)))).toArray⟩ := by
  unfold decV decM
  rw [mend_enc]
  have := decF_enc (rrF (strOfNums l).size (strOfNums l)) (rrF_ok _ _) [] (encB (rrF (strOfNums l).size (strOfNums l))).length 32 (Nat.le_refl _)
  rw [List.nil_append] at this
  exact congrArg (fun x : List UInt8 => (⟨x.toArray⟩ : ByteArray)) this
end Go.Proofs.Ytdmkbaebcopjfaa.A
