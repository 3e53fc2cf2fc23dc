import Derived.Test.YtdmkbaebcopjfaaC
/-! What is decoded, by the reference. -/
namespace Go.Proofs.Ytdmkbaebcopjfaa.A
open Go.RowKit Go.Proofs.Ytdmkbaebcopjfaa.X Go.Proofs.YtdmkbaebcopjfaaW.PrintWords Go.Proofs.YtdmkbaebcopjfaaW.PrintLast Go.Proofs.Ytdmkbaebcopjfaa
set_option linter.unusedVariables false
set_option linter.unusedSimpArgs false

def nums8 (l : List UInt8) : List Int := l.map fun b => (b.toNat : Int)
theorem nums8_append (a b : List UInt8) : nums8 (a ++ b) = nums8 a ++ nums8 b := List.map_append
theorem nums8_len (a : List UInt8) : (nums8 a).length = a.length := List.length_map ..
theorem strOfNums8 (l : List UInt8) : strOfNums (nums8 l) = ⟨l.toArray⟩ := by
  unfold strOfNums nums8
  rw [List.map_map]
  have : ((fun n : Int => UInt8.ofNat n.toNat) ∘ fun b : UInt8 => (b.toNat : Int)) = id := by funext b; simp
  rw [this, List.map_id]
theorem enc_small {r : Int} (h : (Lib.encodeRune r).length = 1) (hk : okc r) : r ≤ 127 := by
  rw [encB_len] at h
  unfold okc at hk
  by_cases c : r ≤ 127
  · exact c
  exfalso
  unfold Lib.encodeRuneZ at h
  rw [if_neg (by omega)] at h
  split at h
  · cases h
  · split at h
    · cases h
    · split at h <;> cases h
/-- A character of one byte is that byte. -/
theorem cut_one (s : ByteArray) (hs : 0 < s.size) (h0 : 0 ≤ (cut s).1) (h : (cut s).1 ≤ 127) : bt s 0 = (cut s).1 ∧ (cut s).2.1 = 1 ∧ (cut s).2.2 = true := by
  have hp := cut_in s hs
  cases hok : (cut s).2.2 with
  | false => have := cut_bad s hs hok; omega
  | true =>
    have := (cut_enc hok).1
    rw [Lib.encodeRuneZ_one h0 h] at this
    have hl := congrArg List.length this
    simp [bys] at hl
    have e : (cut s).2.1 = 1 := by omega
    rw [e] at this
    have h2 : [(cut s).1] = [bt s 0] := this
    injection h2 with h2
    exact ⟨h2.symm, e, rfl⟩
theorem byte_cut (s : ByteArray) (hs : 0 < s.size) (h : bt s 0 < 128) : cut s = (bt s 0, 1, true) := cut1 h
theorem rrF_fuel : ∀ (f g : Nat) (s : ByteArray), s.size ≤ f → s.size ≤ g → rrF f s = rrF g s := by
  intro f
  induction f with
  | zero =>
    intro g s h1 h2
    cases g with
    | zero => rfl
    | succ g => rw [rrF, rrF, if_pos (by omega)]
  | succ f ih =>
    intro g s h1 h2
    by_cases c : s.size = 0
    · cases g with
      | zero => rw [rrF, rrF, if_pos c]
      | succ g => rw [rrF, rrF, if_pos c, if_pos c]
    · have hp := cut_in s (by omega)
      have hsz : (s.extract (cut s).2.1.toNat s.size).size = s.size - (cut s).2.1.toNat := by rw [ByteArray.size_extract]; omega
      obtain ⟨g, rfl⟩ : ∃ q, g = q + 1 := ⟨g - 1, by omega⟩
      rw [rrF, rrF, if_neg c, if_neg c, ih g _ (by omega) (by omega)]
theorem bt_extract (x : ByteArray) (p : Nat) (h : p < x.size) : bt (x.extract p x.size) 0 = bt x p := by
  unfold bt
  rw [dif_pos (show ((p : Int)).toNat < x.size by omega), dif_pos (show ((0 : Int)).toNat < (x.extract p x.size).size by rw [ByteArray.size_extract]; simp; omega)]
  simp [ByteArray.getElem_eq_getElem_data]
theorem bytesOf_extract (x : ByteArray) (p n : Nat) (h : p + n ≤ x.size) : bytesOf (x.extract p (p + n)) = nums8 ((x.extract p x.size).extract 0 n).data.toList := by
  have : x.extract p (p + n) = (x.extract p x.size).extract 0 n := by
    rw [ByteArray.extract_extract]
    congr 1
    omega
  rw [this]
  rfl
theorem encB_size (x : ByteArray) (f : Nat) : (encB (rrF f x)).length ≤ 3 * x.size := by
  rw [← mend_enc]
  exact mend_len f x
theorem Decode_l0 (x : ByteArray) (hx : x.size ≤ 70000) : ∀ (f p : Nat) (st : Int) (acc : List Int), x.size ≤ p + f → p ≤ x.size → acc.length ≤ 3 * p → (st = 13 → p < x.size → bt x p ≠ 10) →
    Ev (fun k => selvedgeref02_Decode.l0 k x acc p) (strOfNums (acc ++ nums8 (encB (norm st (rrF f (x.extract p x.size))))), 0) := by
  intro f
  induction f using Nat.strongRecOn with
  | _ f ih =>
  intro p st acc h1 h2 h3 h4
  have hz : (x.extract p x.size).size = x.size - p := by rw [ByteArray.size_extract]; omega
  refine E.succ ?_
  simp only [selvedgeref02_Decode.l0]
  by_cases c : p < x.size
  · obtain ⟨f, rfl⟩ : ∃ q, f = q + 1 := ⟨f - 1, by omega⟩
    rw [rrF, hz, if_neg (show ¬ x.size - p = 0 by omega)]
    have hp := cut_in (x.extract p x.size) (by omega)
    have hpe := part_enc (x.extract p x.size) (by omega)
    have hone := cut_one (x.extract p x.size) (by omega) hpe.2.1
    rw [bt_extract x p c] at hone
    rw [hz] at hp
    rw [← hz, extract_on x p _ h2, norm]
    refine E.pos (by omega) (E.pos (by omega) (E.pos (by omega) (E.bnd (cut_ev (x.extract p x.size) (by omega)) ?_)))
    rw [E.w64 (show -9223372036854775808 ≤ (p : Int) + 1 by omega) (by omega), E.w64 (show -9223372036854775808 ≤ (p : Int) + (cut (x.extract p x.size)).2.1 by omega) (by omega)]
    generalize hcg : cut (x.extract p x.size) = ct at hp hpe hone ⊢
    obtain ⟨R, N, ok⟩ := ct
    dsimp only at hp hpe hone ⊢
    obtain ⟨n, rfl⟩ : ∃ n : Nat, N = n := ⟨N.toNat, by omega⟩
    rw [Int.toNat_natCast n] at hpe ⊢
    by_cases hR : R = 10 ∧ st = 13
    · exfalso
      obtain ⟨rfl, rfl⟩ := hR
      exact h4 rfl c (hone (by decide)).1
    rw [if_neg hR]
    cases ok with
    | true =>
      refine E.pos rfl ?_
      by_cases e13 : R = 13
      · subst e13
        obtain ⟨e0, e1, _⟩ := hone (by decide)
        have e1 : n = 1 := by omega
        subst e1
        refine E.pos rfl (E.pos (by omega) (E.bno rfl ?_))
        rw [if_pos rfl, encB_append, nums8_append, ← List.append_assoc]
        have eacc : acc ++ nums8 (encB [10]) = acc ++ [10] := rfl
        rw [eacc]
        have next : ¬ (p + 1 < x.size ∧ bt x ((p + 1 : Nat) : Int) = 10) → Ev (fun k => selvedgeref02_Decode.l0 k x (acc ++ [10]) (((p + 1 : Nat)) : Int)) (strOfNums ((acc ++ [10]) ++ nums8 (encB (norm 13 (rrF f (x.extract (p + 1) x.size))))), 0) := by
          intro hn
          exact ih f (by omega) (p + 1) 13 (acc ++ [10]) (by omega) (by omega) (by simp; omega) (fun _ hlt hb => hn ⟨hlt, hb⟩)
        have ep : (((p + 1 : Nat)) : Int) = (p : Int) + 1 := by omega
        rw [ep] at next
        by_cases q1 : p + 1 < x.size
        · refine E.pos (by omega) (E.pos (by omega) ?_)
          by_cases q2 : bt x ((p : Int) + 1) = 10
          · refine E.pos q2 ?_
            obtain ⟨f, rfl⟩ : ∃ q, f = q + 1 := ⟨f - 1, by omega⟩
            have hz1 : (x.extract (p + 1) x.size).size = x.size - (p + 1) := by rw [ByteArray.size_extract]; omega
            have hb : bt (x.extract (p + 1) x.size) 0 = 10 := (bt_extract x (p + 1) q1).trans (by rw [ep]; exact q2)
            have hc1 := byte_cut (x.extract (p + 1) x.size) (by omega) (by rw [hb]; decide)
            rw [hb] at hc1
            rw [rrF, if_neg (by omega), hc1]
            dsimp only
            rw [norm, if_pos ⟨rfl, rfl⟩, List.nil_append]
            have := ih f (by omega) (p + 1 + 1) 10 (acc ++ [10]) (by omega) (by omega) (by simp; omega) (fun h => by cases h)
            rw [show (1 : Int).toNat = 1 from rfl, extract_on x (p + 1) 1 (by omega)]
            rw [E.w64 (by omega) (by omega)]
            rw [show (((p + 1 + 1 : Nat)) : Int) = (p : Int) + 1 + ((1 : Nat) : Int) by omega] at this
            exact this
          · exact E.neg q2 (next (fun q => q2 q.2))
        · exact E.neg (by omega) (next (fun q => q1 q.1))
      · rw [if_neg e13]
        refine E.neg e13 (E.pos (by omega) (E.pos (by omega) ?_))
        have eb : bytesOf (x.extract ((p : Int)).toNat ((p : Int) + (n : Int)).toNat) = nums8 (Lib.encodeRune R) := by
          rw [show ((p : Int)).toNat = p by omega, show ((p : Int) + (n : Int)).toNat = p + n by omega, bytesOf_extract x p n (by omega), ← hpe.1, pb, if_pos rfl]
        have ebl : (x.extract ((p : Int)).toNat ((p : Int) + (n : Int)).toNat).size = n := by
          rw [ByteArray.size_extract]; omega
        rw [eb]
        have hl : (nums8 (Lib.encodeRune R)).length = n := by rw [← eb, bytesOf_length, ebl]
        refine E.pos (by rw [ebl]; omega) ?_
        have := ih f (by omega) (p + n) R (acc ++ nums8 (Lib.encodeRune R)) (by omega) (by omega) (by rw [List.length_append, hl]; omega) (fun h => absurd h e13)
        rw [show (((p + n : Nat)) : Int) = (p : Int) + (n : Int) by omega] at this
        rw [encB_append, nums8_append, ← List.append_assoc]
        have er : encB [R] = Lib.encodeRune R := by simp [encB]
        rw [er]
        exact this
    | false =>
      have hbad : R = 65533 := by
        have := cut_bad (x.extract p x.size) (by omega) (by rw [hcg])
        rw [hcg] at this
        exact this
      subst hbad
      rw [if_neg (by decide)]
      refine E.neg (by decide) (E.bno rfl (E.pos (by simp; omega) ?_))
      have := ih f (by omega) (p + n) 65533 (acc ++ [239, 191, 189]) (by omega) (by omega) (by simp; omega) (fun h => by cases h)
      rw [show (((p + n : Nat)) : Int) = (p : Int) + (n : Int) by omega] at this
      rw [encB_append, nums8_append, ← List.append_assoc]
      exact this
  · have hc : f = f := rfl
    have hr : rrF f (x.extract p x.size) = [] := by
      cases f with
      | zero => rfl
      | succ f => rw [rrF, hz, if_pos (by omega)]
    rw [hr]
    exact E.neg (by omega) (E.ret (by simp [norm, encB, nums8]))
/-- What the reference decodes. -/
theorem Decode_ev (l : List Int) (h : l.length ≤ 65536) : Ev (fun k => selvedgeref02_Decode.f k l) (decV l, 0) := by
  unfold selvedgeref02_Decode.f
  refine E.neg (by omega) ?_
  have hs : (strOfNums l).size = l.length := sons_size l
  have := Decode_l0 (strOfNums l) (by omega) (strOfNums l).size 0 32 [] (by omega) (by omega) (by simp) (fun h => by cases h)
  rw [extract_all, List.nil_append, strOfNums8, ← decV_enc] at this
  exact this
end Go.Proofs.Ytdmkbaebcopjfaa.A
