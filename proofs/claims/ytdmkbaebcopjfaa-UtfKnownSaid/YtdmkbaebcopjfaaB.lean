import Derived.Test.YtdmkbaebcopjfaaA
/-! The characters of a text: the program's and the reference's. -/
namespace Go.Proofs.Ytdmkbaebcopjfaa.A
open Go.RowKit Go.Proofs.Ytdmkbaebcopjfaa.X Go.Proofs.YtdmkbaebcopjfaaW.PrintWords Go.Proofs.YtdmkbaebcopjfaaW.PrintLast Go.Proofs.Ytdmkbaebcopjfaa
set_option linter.unusedVariables false
set_option linter.unusedSimpArgs false

theorem dec1 {m : ByteArray} {p b0 : Nat} (h0 : (m.get! (p + 0)).toNat = b0) (hb : b0 < 128) : Utf8.decode m p = (b0, 1) := by
  unfold Utf8.decode
  simp only [h0]
  rw [if_pos hb]
theorem dec2 {m : ByteArray} {p b0 b1 : Nat} (h0 : (m.get! (p + 0)).toNat = b0) (h1 : (m.get! (p + 1)).toNat = b1) (hs : p + 1 < m.size) (hb : 194 ≤ b0 ∧ b0 ≤ 223) (hb1 : 128 ≤ b1 ∧ b1 ≤ 191) : Utf8.decode m p = (b0 % 32 * 64 + b1 % 64, 2) := by
  have e0 : b0 / 32 = 6 := by omega
  have e1 : b1 / 64 = 2 := by omega
  unfold Utf8.decode
  simp only [h0, h1]
  rw [if_neg (by omega), if_pos (by simp [e0, e1, hs]), if_pos (by omega)]
theorem dec3 {m : ByteArray} {p b0 b1 b2 : Nat} (h0 : (m.get! (p + 0)).toNat = b0) (h1 : (m.get! (p + 1)).toNat = b1) (h2 : (m.get! (p + 2)).toNat = b2) (hs : p + 2 < m.size) (hb : 224 ≤ b0 ∧ b0 ≤ 239)
    (hb1 : (if b0 = 224 then 160 else 128) ≤ b1 ∧ b1 ≤ (if b0 = 237 then 159 else 191)) (hb2 : 128 ≤ b2 ∧ b2 ≤ 191) : Utf8.decode m p = (b0 % 16 * 4096 + b1 % 64 * 64 + b2 % 64, 3) := by
  have q : 128 ≤ b1 ∧ b1 ≤ 191 ∧ (b0 = 224 → 160 ≤ b1) ∧ (b0 = 237 → b1 ≤ 159) := by
    refine ⟨?_, ?_, fun e => ?_, fun e => ?_⟩
    · have := hb1.1; split at this <;> omega
    · have := hb1.2; split at this <;> omega
    · have := hb1.1; rw [if_pos e] at this; exact this
    · have := hb1.2; rw [if_pos e] at this; exact this
  clear hb1
  have e0 : b0 / 16 = 14 := by omega
  have e0' : ¬ b0 / 32 = 6 := by omega
  have e1 : b1 / 64 = 2 := by omega
  have e2 : b2 / 64 = 2 := by omega
  have hs1 : p + 1 < m.size := by omega
  unfold Utf8.decode
  simp only [h0, h1, h2]
  rw [if_neg (by omega), if_neg (by simp [e0']), if_pos (by simp [e0, e1, e2, hs, hs1]), if_pos ?_]
  have v : Utf8.valid ((b0 % 16 * 4096 + b1 % 64 * 64 + b2 % 64 : Nat) : Int) = true := by
    unfold Utf8.valid
    simp
    omega
  rw [Bool.and_eq_true]
  exact ⟨decide_eq_true (by omega), v⟩
theorem dec4 {m : ByteArray} {p b0 b1 b2 b3 : Nat} (h0 : (m.get! (p + 0)).toNat = b0) (h1 : (m.get! (p + 1)).toNat = b1) (h2 : (m.get! (p + 2)).toNat = b2) (h3 : (m.get! (p + 3)).toNat = b3) (hs : p + 3 < m.size) (hb : 240 ≤ b0 ∧ b0 ≤ 244)
    (hb1 : (if b0 = 240 then 144 else 128) ≤ b1 ∧ b1 ≤ (if b0 = 244 then 143 else 191)) (hb2 : 128 ≤ b2 ∧ b2 ≤ 191) (hb3 : 128 ≤ b3 ∧ b3 ≤ 191) : Utf8.decode m p = (b0 % 8 * 262144 + b1 % 64 * 4096 + b2 % 64 * 64 + b3 % 64, 4) := by
  have q : 128 ≤ b1 ∧ b1 ≤ 191 ∧ (b0 = 240 → 144 ≤ b1) ∧ (b0 = 244 → b1 ≤ 143) := by
    refine ⟨?_, ?_, fun e => ?_, fun e => ?_⟩
    · have := hb1.1; split at this <;> omega
    · have := hb1.2; split at this <;> omega
    · have := hb1.1; rw [if_pos e] at this; exact this
    · have := hb1.2; rw [if_pos e] at this; exact this
  clear hb1
  have e0 : b0 / 8 = 30 := by omega
  have e0' : ¬ b0 / 32 = 6 := by omega
  have e0'' : ¬ b0 / 16 = 14 := by omega
  have e1 : b1 / 64 = 2 := by omega
  have e2 : b2 / 64 = 2 := by omega
  have e3 : b3 / 64 = 2 := by omega
  have hs1 : p + 1 < m.size := by omega
  have hs2 : p + 2 < m.size := by omega
  unfold Utf8.decode
  simp only [h0, h1, h2, h3]
  rw [if_neg (by omega), if_neg (by simp [e0']), if_neg (by simp [e0'']), if_pos (by simp [e0, e1, e2, e3, hs, hs1, hs2]), if_pos ?_]
  have v : Utf8.valid ((b0 % 8 * 262144 + b1 % 64 * 4096 + b2 % 64 * 64 + b3 % 64 : Nat) : Int) = true := by
    unfold Utf8.valid
    simp
    omega
  rw [Bool.and_eq_true]
  exact ⟨decide_eq_true (by omega), v⟩
/-- What a well-formed part decodes to. -/
theorem decode_cut (s m : ByteArray) (p : Nat) (hs : 0 < s.size) (hok : (cut s).2.2 = true) (hat : ∀ k : Nat, (k : Int) < (cut s).2.1 → ((m.get! (p + k)).toNat : Int) = bt s k) (hsz : (p : Int) + (cut s).2.1 ≤ m.size) :
    ((Utf8.decode m p).1 : Int) = (cut s).1 ∧ ((Utf8.decode m p).2 : Int) = (cut s).2.1 := by
  have z0 := bt_in s 0
  have z1 := bt_in s 1
  have z2 := bt_in s 2
  have z3 := bt_in s 3
  rcases ld_cases (bt s 0) with ⟨h, e⟩ | ⟨h, e⟩ | ⟨h, e⟩ | ⟨h, e⟩ | ⟨h, e⟩
  · have hc : cut s = (bt s 0, 1, true) := by unfold cut; rw [e, if_neg (by decide), if_pos rfl]
    rw [hc] at hat hsz ⊢
    have a0 : ((m.get! (p + 0)).toNat : Int) = bt s 0 := hat 0 (show ((0 : Nat) : Int) < 1 by decide)
    rw [dec1 (b0 := (bt s 0).toNat) (by omega) (by omega)]
    exact ⟨by dsimp only; omega, rfl⟩
  · have hc : cut s = scan s 2 4 1 128 191 (bt s 0 % 32) := by unfold cut; rw [e, if_neg (by decide), if_neg (by decide), uN2 h]; rfl
    by_cases c1 : (1 : Int) < s.size ∧ 128 ≤ bt s 1 ∧ bt s 1 ≤ 191
    · have hc : cut s = (bt s 0 % 32 * 64 + bt s 1 % 64, 2, true) := by
        rw [hc, scan, if_pos (show (1 : Int) < 2 by decide), if_pos c1, scan, if_neg (show ¬ (1 : Int) + 1 < 2 by decide)]
      rw [hc] at hat hsz ⊢
      have a0 : ((m.get! (p + 0)).toNat : Int) = bt s 0 := hat 0 (show ((0 : Nat) : Int) < 2 by decide)
      have a1 : ((m.get! (p + 1)).toNat : Int) = bt s 1 := hat 1 (show ((1 : Nat) : Int) < 2 by decide)
      rw [dec2 (b0 := (bt s 0).toNat) (b1 := (bt s 1).toNat) (by omega) (by omega) (by have := hsz; dsimp only at this; omega) (by omega) (by omega)]
      exact ⟨by dsimp only; omega, rfl⟩
    · exfalso
      rw [hc, scan, if_pos (show (1 : Int) < 2 by decide), if_neg c1] at hok
      cases hok
  · have hc : cut s = scan s 3 4 1 (if bt s 0 = 224 then 160 else 128) (if bt s 0 = 237 then 159 else 191) (bt s 0 % 16) := by unfold cut; rw [e, if_neg (by decide), if_neg (by decide), uN3 h]; rfl
    by_cases c1 : (1 : Int) < s.size ∧ (if bt s 0 = 224 then 160 else 128) ≤ bt s 1 ∧ bt s 1 ≤ (if bt s 0 = 237 then 159 else 191)
    · by_cases c2 : (1 : Int) + 1 < s.size ∧ 128 ≤ bt s (1 + 1) ∧ bt s (1 + 1) ≤ 191
      · have hc : cut s = ((bt s 0 % 16 * 64 + bt s 1 % 64) * 64 + bt s 2 % 64, 3, true) := by
          rw [hc, scan, if_pos (show (1 : Int) < 3 by decide), if_pos c1, scan, if_pos (show (1 : Int) + 1 < 3 by decide), if_pos c2, scan, if_neg (show ¬ (1 : Int) + 1 + 1 < 3 by decide)]
          rfl
        rw [hc] at hat hsz ⊢
        have a0 : ((m.get! (p + 0)).toNat : Int) = bt s 0 := hat 0 (show ((0 : Nat) : Int) < 3 by decide)
        have a1 : ((m.get! (p + 1)).toNat : Int) = bt s 1 := hat 1 (show ((1 : Nat) : Int) < 3 by decide)
        have a2 : ((m.get! (p + 2)).toNat : Int) = bt s 2 := hat 2 (show ((2 : Nat) : Int) < 3 by decide)
        have d2 : 128 ≤ bt s 2 ∧ bt s 2 ≤ 191 := c2.2
        have d1 : (if (bt s 0).toNat = 224 then 160 else 128) ≤ (bt s 1).toNat ∧ (bt s 1).toNat ≤ (if (bt s 0).toNat = 237 then 159 else 191) := by
          obtain ⟨_, u, v⟩ := c1
          constructor
          · split <;> split at u <;> omega
          · split <;> split at v <;> omega
        rw [dec3 (b0 := (bt s 0).toNat) (b1 := (bt s 1).toNat) (b2 := (bt s 2).toNat) (by omega) (by omega) (by omega) (by have := hsz; dsimp only at this; omega) (by omega) d1 (by omega)]
        exact ⟨by dsimp only; omega, rfl⟩
      · exfalso
        rw [hc, scan, if_pos (show (1 : Int) < 3 by decide), if_pos c1, scan, if_pos (show (1 : Int) + 1 < 3 by decide), if_neg c2] at hok
        cases hok
    · exfalso
      rw [hc, scan, if_pos (show (1 : Int) < 3 by decide), if_neg c1] at hok
      cases hok
  · have hc : cut s = scan s 4 4 1 (if bt s 0 = 240 then 144 else 128) (if bt s 0 = 244 then 143 else 191) (bt s 0 % 8) := by unfold cut; rw [e, if_neg (by decide), if_neg (by decide), uN4 h]; rfl
    by_cases c1 : (1 : Int) < s.size ∧ (if bt s 0 = 240 then 144 else 128) ≤ bt s 1 ∧ bt s 1 ≤ (if bt s 0 = 244 then 143 else 191)
    · by_cases c2 : (1 : Int) + 1 < s.size ∧ 128 ≤ bt s (1 + 1) ∧ bt s (1 + 1) ≤ 191
      · by_cases c3 : (1 : Int) + 1 + 1 < s.size ∧ 128 ≤ bt s (1 + 1 + 1) ∧ bt s (1 + 1 + 1) ≤ 191
        · have hc : cut s = (((bt s 0 % 8 * 64 + bt s 1 % 64) * 64 + bt s 2 % 64) * 64 + bt s 3 % 64, 4, true) := by
            rw [hc, scan, if_pos (show (1 : Int) < 4 by decide), if_pos c1, scan, if_pos (show (1 : Int) + 1 < 4 by decide), if_pos c2, scan, if_pos (show (1 : Int) + 1 + 1 < 4 by decide), if_pos c3, scan, if_neg (show ¬ (1 : Int) + 1 + 1 + 1 < 4 by decide)]
            rfl
          rw [hc] at hat hsz ⊢
          have a0 : ((m.get! (p + 0)).toNat : Int) = bt s 0 := hat 0 (show ((0 : Nat) : Int) < 4 by decide)
          have a1 : ((m.get! (p + 1)).toNat : Int) = bt s 1 := hat 1 (show ((1 : Nat) : Int) < 4 by decide)
          have a2 : ((m.get! (p + 2)).toNat : Int) = bt s 2 := hat 2 (show ((2 : Nat) : Int) < 4 by decide)
          have a3 : ((m.get! (p + 3)).toNat : Int) = bt s 3 := hat 3 (show ((3 : Nat) : Int) < 4 by decide)
          have d2 : 128 ≤ bt s 2 ∧ bt s 2 ≤ 191 := c2.2
          have d3 : 128 ≤ bt s 3 ∧ bt s 3 ≤ 191 := c3.2
          have d1 : (if (bt s 0).toNat = 240 then 144 else 128) ≤ (bt s 1).toNat ∧ (bt s 1).toNat ≤ (if (bt s 0).toNat = 244 then 143 else 191) := by
            obtain ⟨_, u, v⟩ := c1
            constructor
            · split <;> split at u <;> omega
            · split <;> split at v <;> omega
          rw [dec4 (b0 := (bt s 0).toNat) (b1 := (bt s 1).toNat) (b2 := (bt s 2).toNat) (b3 := (bt s 3).toNat) (by omega) (by omega) (by omega) (by omega) (by have := hsz; dsimp only at this; omega) (by omega) d1 (by omega) (by omega)]
          exact ⟨by dsimp only; omega, rfl⟩
        · exfalso
          rw [hc, scan, if_pos (show (1 : Int) < 4 by decide), if_pos c1, scan, if_pos (show (1 : Int) + 1 < 4 by decide), if_pos c2, scan, if_pos (show (1 : Int) + 1 + 1 < 4 by decide), if_neg c3] at hok
          cases hok
      · exfalso
        rw [hc, scan, if_pos (show (1 : Int) < 4 by decide), if_pos c1, scan, if_pos (show (1 : Int) + 1 < 4 by decide), if_neg c2] at hok
        cases hok
    · exfalso
      rw [hc, scan, if_pos (show (1 : Int) < 4 by decide), if_neg c1] at hok
      cases hok
  · exfalso
    unfold cut at hok
    rw [if_pos e] at hok
    cases hok
theorem decode_bad (m : ByteArray) (p : Nat) (h0 : (m.get! (p + 0)).toNat = 239) (h1 : (m.get! (p + 1)).toNat = 191) (h2 : (m.get! (p + 2)).toNat = 189) (hs : p + 2 < m.size) : Utf8.decode m p = (65533, 3) := by
  rw [dec3 h0 h1 h2 hs (by decide) (by decide) (by decide)]
theorem cut_in (s : ByteArray) (h : 0 < s.size) : 1 ≤ (cut s).2.1 ∧ (cut s).2.1 ≤ s.size := by
  have := part_in s h
  rw [part_cut s h] at this
  exact this
theorem cut_bad (s : ByteArray) (h : 0 < s.size) (hok : (cut s).2.2 = false) : (cut s).1 = 65533 := by
  have sc : ∀ n d k lo hi r, (scan s n d k lo hi r).2.2 = false → (scan s n d k lo hi r).1 = 65533 := by
    intro n d
    induction d with
    | zero => intro k lo hi r q; cases q
    | succ d ih =>
      intro k lo hi r q
      rw [scan] at q ⊢
      split
      · rename_i c1
        rw [if_pos c1] at q
        split
        · rename_i c2
          rw [if_pos c2] at q
          exact ih _ _ _ _ q
        · rfl
      · rename_i c1
        rw [if_neg c1] at q
        cases q
  unfold cut at hok ⊢
  split
  · rfl
  · rename_i c1
    rw [if_neg c1] at hok
    split
    · rename_i c2
      rw [if_pos c2] at hok
      cases hok
    · rename_i c2
      rw [if_neg c2] at hok
      exact sc _ _ _ _ _ _ hok
/-- The text's characters. -/
def rrF : Nat → ByteArray → List Int
  | 0, _ => []
  | f + 1, s => if s.size = 0 then [] else (cut s).1 :: rrF f (s.extract (cut s).2.1.toNat s.size)
theorem get_pre (a b c : List UInt8) (k : Nat) (h : k < b.length) : (⟨(a ++ (b ++ c)).toArray⟩ : ByteArray).get! (a.length + k) = b[k] := by
  have e : (⟨(a ++ (b ++ c)).toArray⟩ : ByteArray).get! (a.length + k) = (a ++ (b ++ c)).toArray[a.length + k]! := rfl
  rw [e]
  simp [List.getElem!_eq_getElem?_getD, List.getElem?_append_right, List.getElem?_append_left h, h]
theorem runF_mend : ∀ (f : Nat) (s : ByteArray), s.size ≤ f → ∀ (pre : List UInt8) (fuel : Nat), (mend f s).length ≤ fuel → runF ⟨(pre ++ mend f s).toArray⟩ fuel pre.length = rrF f s := by
  intro f
  induction f with
  | zero => intro s hs pre fuel h; exact (runF_end _ _ _ (by simp [mend, ByteArray.size])).trans rfl
  | succ f ih =>
    intro s hs pre fuel h
    rw [mend] at h ⊢
    rw [rrF]
    by_cases c : s.size = 0
    · rw [if_pos c, if_pos c]
      exact runF_end _ _ _ (by simp [ByteArray.size])
    have hp := cut_in s (by omega)
    rw [if_neg c] at h ⊢
    rw [if_neg c]
    rw [part_cut s (by omega)] at h ⊢
    dsimp only at h ⊢
    have ex : (s.extract 0 (cut s).2.1.toNat).size = (cut s).2.1.toNat := by rw [ByteArray.size_extract]; omega
    have exl : (s.extract 0 (cut s).2.1.toNat).data.toList.length = (cut s).2.1.toNat := by rw [Array.length_toList]; exact ex
    have hsz : (s.extract (cut s).2.1.toNat s.size).size ≤ f := by rw [ByteArray.size_extract]; omega
    generalize hm : mend f (s.extract (cut s).2.1.toNat s.size) = M at h ⊢
    generalize hb : pb (s.extract 0 (cut s).2.1.toNat) (cut s).2.2 = b at h ⊢
    have key : Utf8.decode ⟨(pre ++ (b ++ M)).toArray⟩ pre.length = ((cut s).1.toNat, b.length) ∧ 0 ≤ (cut s).1 ∧ 1 ≤ b.length := by
      cases hok : (cut s).2.2 with
      | true =>
        rw [hok, pb, if_pos rfl] at hb
        have bl : b.length = (cut s).2.1.toNat := by rw [← hb]; exact exl
        have d := decode_cut s ⟨(pre ++ (b ++ M)).toArray⟩ pre.length (by omega) hok (fun k hk => by
          rw [get_pre pre b M k (by omega)]
          unfold bt
          rw [dif_pos (show ((k : Int)).toNat < s.size by omega)]
          have : b[k]'(by omega) = s[k]'(by omega) := by
            subst hb
            simp [ByteArray.getElem_eq_getElem_data]
          rw [this]
          rfl) (by simp [ByteArray.size]; omega)
        refine ⟨Prod.ext ?_ ?_, ?_, by omega⟩
        · dsimp only; omega
        · dsimp only; omega
        · omega
      | false =>
        rw [hok, pb, if_neg (by decide)] at hb
        subst hb
        rw [cut_bad s (by omega) hok]
        refine ⟨decode_bad _ _ ?_ ?_ ?_ ?_, by decide, by decide⟩
        · rw [get_pre pre bad3 M 0 (by decide)]; rfl
        · rw [get_pre pre bad3 M 1 (by decide)]; rfl
        · rw [get_pre pre bad3 M 2 (by decide)]; rfl
        · simp [ByteArray.size, bad3]
    rw [List.length_append] at h
    obtain ⟨fuel, rfl⟩ : ∃ q, fuel = q + 1 := ⟨fuel - 1, by omega⟩
    rw [runF, if_pos (by simp [ByteArray.size]; omega), key.1]
    dsimp only
    have := ih _ hsz (pre ++ b) fuel (by rw [hm]; omega)
    rw [hm, List.append_assoc, List.length_append] at this
    rw [this, Int.toNat_of_nonneg key.2.1]
theorem runV_rr (s : ByteArray) : runV s = rrF s.size s := by
  have := runF_mend s.size s (Nat.le_refl _) [] (mend s.size s).length (Nat.le_refl _)
  exact this
/-! ### The reference's characters -/
theorem extract_on (x : ByteArray) (p n : Nat) (h : p ≤ x.size) : (x.extract p x.size).extract n (x.extract p x.size).size = x.extract (p + n) x.size := by
  rw [ByteArray.extract_extract, ByteArray.size_extract]
  congr 1
  omega
theorem Runes_l0 (x : ByteArray) (hx : x.size ≤ 70000) : ∀ (f p : Nat) (acc : List Int), x.size ≤ p + f → p ≤ x.size → acc.length ≤ p → Ev (fun k => selvedgeref02_Runes.l0 k x acc p) (acc ++ rrF f (x.extract p x.size)) := by
  intro f
  induction f with
  | zero =>
    intro p acc h1 h2 h3
    refine E.succ ?_
    simp only [selvedgeref02_Runes.l0]
    exact E.neg (by omega) (E.ret (by simp [rrF]))
  | succ f ih =>
    intro p acc h1 h2 h3
    have hz : (x.extract p x.size).size = x.size - p := by rw [ByteArray.size_extract]; omega
    refine E.succ ?_
    simp only [selvedgeref02_Runes.l0]
    rw [rrF, hz]
    by_cases c : p < x.size
    · rw [if_neg (show ¬ x.size - p = 0 by omega)]
      have hp := cut_in (x.extract p x.size) (by omega)
      rw [hz] at hp
      refine E.pos (by omega) (E.pos (by omega) (E.pos (by omega) (E.bnd (cut_ev (x.extract p x.size) (by omega)) (E.pos (by omega) ?_))))
      have := ih (p + (cut (x.extract p x.size)).2.1.toNat) (acc ++ [(cut (x.extract p x.size)).1]) (by omega) (by omega) (by simp; omega)
      rw [← hz, extract_on x p _ h2]
      rw [E.w64 (by omega) (by omega)]
      rw [show (((p + (cut (x.extract p x.size)).2.1.toNat : Nat)) : Int) = (p : Int) + (cut (x.extract p x.size)).2.1 by omega, List.append_assoc] at this
      exact this
    · rw [if_pos (show x.size - p = 0 by omega)]
      exact E.neg (by omega) (E.ret (by simp))
theorem extract_all (x : ByteArray) : x.extract 0 x.size = x := by simp
theorem Runes_ev (x : ByteArray) (hx : x.size ≤ 70000) : Ev (fun k => selvedgeref02_Runes.f k x) (rrF x.size x) := by
  have := Runes_l0 x hx x.size 0 [] (by omega) (by omega) (by simp)
  rw [extract_all] at this
  exact this
theorem rrF_len : ∀ (f : Nat) (s : ByteArray), (rrF f s).length ≤ f := by
  intro f
  induction f with
  | zero => intro s; exact Nat.le_refl _
  | succ f ih =>
    intro s
    rw [rrF]
    split
    · simp
    · have := ih (s.extract (cut s).2.1.toNat s.size)
      simp
      exact this
end Go.Proofs.Ytdmkbaebcopjfaa.A
