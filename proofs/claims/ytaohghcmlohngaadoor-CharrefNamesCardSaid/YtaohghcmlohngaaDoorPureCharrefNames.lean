import Derived.Test.YtaohghcmlohngaaDoorX10
import Derived.Test.YtaohghcmlohngaaDoorG
namespace Go.Proofs.YtaohghcmlohngaaDoor.Pure
open Go.RowKit Go.Proofs.YtaohghcmlohngaaDoor.X Go.Proofs.YtaohghcmlohngaaDoorW.PrintWords Go.Proofs.YtaohghcmlohngaaDoorW.PrintLast
set_option maxRecDepth 100000
set_option linter.unusedSimpArgs false
set_option linter.unusedVariables false
theorem names_l0 (x0 : Int) (h0 : 0 ≤ x0 ∧ x0 ≤ 255) (a b : List UInt8) (attr : Bool) (ha : a.length ≤ 2000) (hb : b.length ≤ 2000) : ∀ (d p : List UInt8), a = p ++ d → (∀ c ∈ p, c ≠ 38) → Ev (fun k => selvedgelaw03_CharrefNames.l0 k x0 (mk a) (mk b) attr (p.length : Int)) true := by
  intro d
  induction d with
  | nil =>
    intro p hp hn
    rw [List.append_nil] at hp
    subst hp
    refine E.succ ?_
    simp only [selvedgelaw03_CharrefNames.l0, mk_size]
    refine E.neg (by omega) (E.bno RT_f ?_)
    have hl : (RT.length : Int) = 59 := by rw [RT_len]; rfl
    rw [hl, E.w64 (by omega) (by omega)]
    have hm : 0 ≤ Int.tmod x0 59 ∧ Int.tmod x0 59 < 59 := by
      rw [Int.tmod_eq_emod_of_nonneg h0.1]
      omega
    have hmem : rd_T26 RT (Int.tmod x0 59) ∈ RT := by
      obtain ⟨n, hn⟩ := Int.eq_ofNat_of_zero_le hm.1
      have hn' : n < RT.length := by rw [RT_len]; omega
      rw [hn]
      unfold rd_T26
      rw [Int.toNat_natCast, List.getD_eq_getElem?_getD, List.getElem?_eq_getElem hn']
      exact List.getElem_mem hn'
    have hq := RT_look hmem
    generalize rd_T26 RT (Int.tmod x0 59) = e at *
    have x1 : (⟨#[38]⟩ : ByteArray) = mk [38] := rfl
    have x2 : (⟨#[59]⟩ : ByteArray) = mk [59] := rfl
    have he : e.f0 = mk (nm e) := mk_nm e
    have hd : dec attr (a ++ [38] ++ nm e ++ [59] ++ b) = a ++ Lib.encodeRune e.f1 ++ dec attr b := by
      have : a ++ [38] ++ nm e ++ [59] ++ b = a ++ (38 :: (nm e ++ 59 :: b)) := by simp
      rw [this, dec_plain attr a _ hn, dec_name hq.1, List.append_assoc]
    have hen := enc_len e.f1
    have hdb := dec_len attr b.length b (Nat.le_refl _)
    have len : ∀ x y : List UInt8, (x ++ y).length = x.length + y.length := fun x y => List.length_append
    have one : ∀ c : UInt8, ([c] : List UInt8).length = 1 := fun _ => rfl
    simp only [x1, x2, he, mk_app, mk_size]
    refine E.neg (by decide) (E.pos hm.1 (E.pos hm.2 (E.pos (by omega) (E.pos (by simp only [len, one]; omega) (E.pos (by simp only [len, one]; omega) (E.pos (by simp only [len, one]; omega) ?_))))))
    refine E.bnd (dec_ev _ attr (by simp only [len, one]; omega)) (E.bnd (string1_ev e.f1) ?_)
    rw [mk_size]
    refine E.pos (by omega) (E.bnd (dec_ev b attr (by omega)) ?_)
    simp only [mk_app, mk_size]
    refine E.pos (by simp only [len]; omega) (E.pos ?_ (E.bnd works_ev (E.ret rfl)))
    rw [hd]
  | cons c d ih =>
    intro p hp hn
    have hl : p.length + (d.length + 1) = a.length := by rw [hp]; simp
    refine E.succ ?_
    simp only [selvedgelaw03_CharrefNames.l0, mk_size]
    have hbt : bt (mk a) (p.length : Int) = (c.toNat : Int) := by
      rw [mk_bt, hp, List.getD_eq_getElem?_getD, List.getElem?_append_right (Nat.le_refl _)]
      simp
    rw [hbt]
    refine E.pos (by omega) (E.pos (by omega) ?_)
    by_cases q : c = 38
    · exact E.pos ((byte_eq c 38 (by omega)).2 q) (E.bnd works_ev (E.ret rfl))
    · refine E.neg (fun z => q ((byte_eq c 38 (by omega)).1 z)) ?_
      have nx := ih (p ++ [c]) (by rw [hp]; simp) (fun x hx => by
        rcases List.mem_append.1 hx with z | z
        · exact hn x z
        · rw [List.mem_singleton] at z; rw [z]; exact q)
      rw [List.length_append, List.length_singleton] at nx
      rw [E.w64 (by omega) (by omega)]
      exact nx
theorem names_j0 (x0 : Int) (h0 : 0 ≤ x0 ∧ x0 ≤ 255) (a b : List UInt8) (attr : Bool) (c : Bool) (hc : c = false → a.length ≤ 2000 ∧ b.length ≤ 2000) : Ev (fun k => selvedgelaw03_CharrefNames.j0 k x0 (mk a) (mk b) attr c) true := by
  refine E.succ ?_
  simp only [selvedgelaw03_CharrefNames.j0]
  cases c with
  | true => exact E.pos rfl (E.bnd works_ev (E.ret rfl))
  | false => exact E.neg (by decide) (names_l0 x0 h0 a b attr (hc rfl).1 (hc rfl).2 a [] rfl (fun _ h => by cases h))
theorem CharrefNames : selvedgelaw03_CharrefNames.Pure := by
  intro a0 a1 a2 a3 w0 _ _
  have h0 := E.u8_lo w0
  have : Ev (fun k => selvedgelaw03_CharrefNames.f k a0 (mk a1.data.toList) (mk a2.data.toList) a3) true := by
    unfold selvedgelaw03_CharrefNames.f
    simp only [mk_size]
    by_cases h : (a1.data.toList.length : Int) > 2000
    · exact E.pos h (names_j0 a0 h0 _ _ _ _ (fun z => by cases z))
    · exact E.neg h (names_j0 a0 h0 _ _ _ _ (fun z => ⟨by omega, by have := of_decide_eq_false z; omega⟩))
  rw [← mk_of, ← mk_of] at this
  exact E.out this
end Go.Proofs.YtaohghcmlohngaaDoor.Pure
