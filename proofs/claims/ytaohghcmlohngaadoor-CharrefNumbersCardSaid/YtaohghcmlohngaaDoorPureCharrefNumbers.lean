import Derived.Test.YtaohghcmlohngaaDoorX9
import Derived.Test.YtaohghcmlohngaaDoorG
namespace Go.Proofs.YtaohghcmlohngaaDoor.Pure
open Go.RowKit Go.Proofs.YtaohghcmlohngaaDoor.X Go.Proofs.YtaohghcmlohngaaDoorW.PrintWords Go.Proofs.YtaohghcmlohngaaDoorW.PrintLast
set_option maxRecDepth 100000
set_option linter.unusedSimpArgs false
set_option linter.unusedVariables false
theorem i32_lo {x : Int} (h : (Lit.int .i32 x).wf = true) : -2147483648 ≤ x ∧ x ≤ 2147483647 := by
  simp [Lit.wf, IntKind.min, IntKind.max, IntKind.signed, IntKind.bits] at h
  omega
theorem semi_nil : semi [] = 0 := rfl
/-- a;b; -/
theorem num_one (A B W : List UInt8) (r : Nat) (hA : ∀ c ∈ A, dg c < 10) (hA0 : A ≠ []) (hB : ∀ c ∈ B, dg c < 16) (hB0 : B ≠ []) (vA : valU 10 A 0 = r) (vB : valU 16 B 0 = r) (hW : Lib.encodeRune (fixC (min r 1114112)) = W) (attr : Bool) :
    dec attr ([38, 35] ++ A ++ [59] ++ ([38, 35, 120] ++ B) ++ [59]) = W ++ W := by
  have e : [38, 35] ++ A ++ [59] ++ ([38, 35, 120] ++ B) ++ [59] = 38 :: 35 :: (A ++ 59 :: (38 :: 35 :: 120 :: (B ++ 59 :: []))) := by simp
  rw [e]
  have h1 := numF_10 A (59 :: (38 :: 35 :: 120 :: (B ++ 59 :: []))) hA hA0 (tw_cons_neg (by decide))
  rw [vA] at h1
  rw [dec_num h1, hW]
  have d1 : (A ++ 59 :: (38 :: 35 :: 120 :: (B ++ 59 :: []))).drop (A.length + semi (59 :: (38 :: 35 :: 120 :: (B ++ 59 :: [])))) = 38 :: 35 :: 120 :: (B ++ 59 :: []) := by
    rw [← List.drop_drop, List.drop_left]
    rfl
  rw [d1]
  have h2 := numF_16 B (59 :: []) hB hB0 (tw_cons_neg (by decide))
  rw [vB] at h2
  rw [dec_num h2, hW]
  have d2 : (120 :: (B ++ 59 :: [])).drop (1 + B.length + semi (59 :: [])) = [] := by
    apply List.drop_of_length_le
    rw [List.length_cons, List.length_append]
    show _ ≤ 1 + B.length + 1
    simp
    omega
  rw [d2, dec_nil, List.append_nil]
/-- a!b b -/
theorem num_two (A B W : List UInt8) (r : Nat) (hA : ∀ c ∈ A, dg c < 10) (hA0 : A ≠ []) (hB : ∀ c ∈ B, dg c < 16) (hB0 : B ≠ []) (vA : valU 10 A 0 = r) (vB : valU 16 B 0 = r) (hW : Lib.encodeRune (fixC (min r 1114112)) = W) (attr : Bool) :
    dec attr ([38, 35] ++ A ++ [33] ++ ([38, 35, 120] ++ B) ++ [32] ++ ([38, 35, 120] ++ B)) = W ++ [33] ++ W ++ [32] ++ W := by
  have e : [38, 35] ++ A ++ [33] ++ ([38, 35, 120] ++ B) ++ [32] ++ ([38, 35, 120] ++ B) = 38 :: 35 :: (A ++ 33 :: (38 :: 35 :: 120 :: (B ++ 32 :: (38 :: 35 :: 120 :: (B ++ []))))) := by simp
  rw [e]
  have h3 := numF_16 B [] hB hB0 rfl
  rw [vB] at h3
  have d3 : dec attr (38 :: 35 :: 120 :: (B ++ [])) = W := by
    rw [dec_num h3, hW]
    have : (120 :: (B ++ [])).drop (1 + B.length + semi []) = [] := by
      apply List.drop_of_length_le
      rw [List.length_cons, List.length_append]
      show _ ≤ 1 + B.length + 0
      simp
      omega
    rw [this, dec_nil, List.append_nil]
  have h2 := numF_16 B (32 :: (38 :: 35 :: 120 :: (B ++ []))) hB hB0 (tw_cons_neg (by decide))
  rw [vB] at h2
  have d2 : dec attr (38 :: 35 :: 120 :: (B ++ 32 :: (38 :: 35 :: 120 :: (B ++ [])))) = W ++ 32 :: W := by
    rw [dec_num h2, hW]
    have : (120 :: (B ++ 32 :: (38 :: 35 :: 120 :: (B ++ [])))).drop (1 + B.length + semi (32 :: (38 :: 35 :: 120 :: (B ++ [])))) = 32 :: (38 :: 35 :: 120 :: (B ++ [])) := by
      have : 1 + B.length + semi (32 :: (38 :: 35 :: 120 :: (B ++ []))) = B.length + 1 := by
        show 1 + B.length + 0 = _
        omega
      rw [this, List.drop_succ_cons, List.drop_left]
    rw [this, dec_none (findF_not (by decide)), d3]
  have h1 := numF_10 A (33 :: (38 :: 35 :: 120 :: (B ++ 32 :: (38 :: 35 :: 120 :: (B ++ []))))) hA hA0 (tw_cons_neg (by decide))
  rw [vA] at h1
  rw [dec_num h1, hW]
  have : (A ++ 33 :: (38 :: 35 :: 120 :: (B ++ 32 :: (38 :: 35 :: 120 :: (B ++ []))))).drop (A.length + semi (33 :: (38 :: 35 :: 120 :: (B ++ 32 :: (38 :: 35 :: 120 :: (B ++ [])))))) = 33 :: (38 :: 35 :: 120 :: (B ++ 32 :: (38 :: 35 :: 120 :: (B ++ [])))) := by
    show (A ++ _).drop (A.length + 0) = _
    rw [Nat.add_zero, List.drop_left]
  rw [this, dec_none (findF_not (by decide)), d2]
  simp
theorem numbers_j0 (r : Int) (hr1 : r ≤ 2147483647) (z : Int) (hz : 0 ≤ z ∧ z ≤ 255) (c : Bool) (hc : c = false → 0 < r ∧ ¬ (128 ≤ r ∧ r ≤ 159)) : Ev (fun k => selvedgelaw03_CharrefNumbers.j0 k r z (mk (Lib.encodeRune r)) c) true := by
  refine E.succ ?_
  simp only [selvedgelaw03_CharrefNumbers.j0]
  cases c with
  | true => exact E.pos rfl (E.bnd works_ev (E.ret rfl))
  | false =>
    have h := hc rfl
    refine E.neg (by decide) ?_
    obtain ⟨n, rfl⟩ := Int.eq_ofNat_of_zero_le (show 0 ≤ r by omega)
    obtain ⟨zn, rfl⟩ := Int.eq_ofNat_of_zero_le hz.1
    have em : (n : Int) % 4294967296 = (n : Int) := by omega
    rw [em]
    obtain ⟨A, a1, a2, a3, a4, a5⟩ := digits_ev 10 (by decide) zn (by omega) n (by omega) (by omega)
    obtain ⟨B, b1, b2, b3, b4, b5⟩ := digits_ev 16 (by decide) zn (by omega) n (by omega) (by omega)
    have hW := enc_fix n (by omega) (by omega)
    have w1 := num_one A B _ n a1 a2 b1 b2 a4 b4 hW false
    have w2 := num_two A B _ n a1 a2 b1 b2 a4 b4 hW true
    have he := enc_len (n : Int)
    generalize Lib.encodeRune (n : Int) = W at *
    refine E.bnd a5 ?_
    have x1 : (⟨#[38, 35]⟩ : ByteArray) = mk [38, 35] := rfl
    have x2 : (⟨#[38, 35, 120]⟩ : ByteArray) = mk [38, 35, 120] := rfl
    have x3 : (⟨#[59]⟩ : ByteArray) = mk [59] := rfl
    have x4 : (⟨#[33]⟩ : ByteArray) = mk [33] := rfl
    have x5 : (⟨#[32]⟩ : ByteArray) = mk [32] := rfl
    have l2 : ([38, 35] : List UInt8).length = 2 := rfl
    have l3 : ([38, 35, 120] : List UInt8).length = 3 := rfl
    simp only [mk_size]
    refine E.pos (by omega) (E.bnd b5 ?_)
    simp only [x1, x2, x3, x4, x5, mk_app, mk_size]
    have len : ∀ x y : List UInt8, (x ++ y).length = x.length + y.length := fun x y => List.length_append
    have one : ∀ c : UInt8, ([c] : List UInt8).length = 1 := fun _ => rfl
    refine E.pos (by omega) (E.pos (by simp only [len, one, l2, l3]; omega) (E.pos (by simp only [len, one, l2, l3]; omega) (E.pos (by simp only [len, one, l2, l3]; omega) ?_)))
    refine E.bnd (dec_ev _ false (by simp only [len, one, l2, l3]; omega)) ?_
    rw [w1]
    refine E.pos (by omega) (E.pos rfl (E.pos (by simp only [len, one, l2, l3]; omega) (E.pos (by simp only [len, one, l2, l3]; omega) (E.pos (by simp only [len, one, l2, l3]; omega) ?_))))
    refine E.bnd (dec_ev _ true (by simp only [len, one, l2, l3]; omega)) ?_
    rw [w2]
    exact E.pos (by omega) (E.pos (by simp only [len, one]; omega) (E.pos (by simp only [len, one]; omega) (E.pos (by simp only [len, one]; omega) (E.pos rfl (E.bnd works_ev (E.ret rfl))))))
theorem CharrefNumbers : selvedgelaw03_CharrefNumbers.Pure := by
  intro a0 a1 w0 w1
  have h0 := i32_lo w0
  have h1 := E.u8_lo w1
  refine E.out (g := fun k => selvedgelaw03_CharrefNumbers.f k a0 a1) ?_
  unfold selvedgelaw03_CharrefNumbers.f
  refine E.bnd (string1_ev a0) ?_
  by_cases c1 : a0 ≤ 0
  · exact E.pos c1 (numbers_j0 a0 h0.2 a1 h1 true (fun q => by cases q))
  refine E.neg c1 ?_
  by_cases c2 : a0 ≥ 128
  · exact E.pos c2 (numbers_j0 a0 h0.2 a1 h1 _ (fun q => ⟨by omega, by have := of_decide_eq_false q; omega⟩))
  · exact E.neg c2 (numbers_j0 a0 h0.2 a1 h1 false (fun _ => ⟨by omega, by omega⟩))
end Go.Proofs.YtaohghcmlohngaaDoor.Pure
