import Derived.Test.YtaohghcmlohngaaDoorX7
import Derived.Test.YtaohghcmlohngaaDoorF
namespace Go.Proofs.YtaohghcmlohngaaDoor.Pure
open Go.RowKit Go.Proofs.YtaohghcmlohngaaDoor.X Go.Proofs.YtaohghcmlohngaaDoorW.PrintWords Go.Proofs.YtaohghcmlohngaaDoorW.PrintLast
theorem finds_l0 (attr : Bool) (L : List ByteArray) (hL : L.length ≤ 1000) (hs : ∀ s ∈ L, s.size ≤ 100000) : ∀ (b a : List ByteArray), L = a ++ b → Ev (fun k => selvedgelaw03_CharrefFinds.l0 k attr L (L.length : Int) (a.length : Int)) true := by
  intro b
  induction b with
  | nil =>
    intro a ha
    refine E.succ ?_
    simp only [selvedgelaw03_CharrefFinds.l0]
    have : a.length = L.length := by rw [ha]; simp
    exact E.neg (by omega) (E.bnd works_ev (E.ret rfl))
  | cons s b ih =>
    intro a ha
    have hl : a.length + (b.length + 1) = L.length := by rw [ha]; simp
    have hr : rdOf ByteArray.empty L (a.length : Int) = mk s.data.toList := by
      rw [← mk_of]
      unfold rdOf
      rw [Int.toNat_natCast, List.getD_eq_getElem?_getD, ha, List.getElem?_append_right (Nat.le_refl _)]
      simp
    have hsz : s.data.toList.length ≤ 100000 := by
      have := hs s (by rw [ha]; simp)
      rw [Array.length_toList]
      exact this
    refine E.succ ?_
    simp only [selvedgelaw03_CharrefFinds.l0, hr]
    refine E.pos (by omega) (E.pos (by omega) (E.pos (by omega) (E.bnd (find_ev s.data.toList attr (by omega)) (E.bnd (rfind_ev s.data.toList attr (by omega)) (E.pos rfl (E.pos rfl (E.neg (by simp) ?_)))))))
    have := ih (a ++ [s]) (by rw [ha]; simp)
    rw [List.length_append, List.length_singleton] at this
    rw [E.w64 (by omega) (by omega)]
    exact this
theorem RT_size : RT.all (fun e => decide (e.f0.size ≤ 6)) = true := by decide +kernel
theorem finds_ev (a0 a2 : ByteArray) (a1 : Int) (h0 : 0 ≤ a1) (h1 : a1 ≤ 255) (a3 : Bool) : Ev (fun k => selvedgelaw03_CharrefFinds.f k a0 a1 a2 a3) true := by
  have j0 : ∀ c : Bool, (c = false → a0.size ≤ 5000 ∧ a2.size ≤ 5000) → Ev (fun k => selvedgelaw03_CharrefFinds.j0 k a0 a1 a2 a3 c) true := by
    intro c hc
    refine E.succ ?_
    simp only [selvedgelaw03_CharrefFinds.j0]
    cases c with
    | true => exact E.pos rfl (E.bnd works_ev (E.ret rfl))
    | false =>
      have h := hc rfl
      refine E.neg (by decide) (E.bno RT_f ?_)
      have hl : (RT.length : Int) = 59 := by rw [RT_len]; rfl
      rw [hl, E.w64 (by omega) (by omega)]
      have hm : 0 ≤ Int.tmod a1 59 ∧ Int.tmod a1 59 < 59 := by
        rw [Int.tmod_eq_emod_of_nonneg h0]
        omega
      have hsz : (rd_T26 RT (Int.tmod a1 59)).f0.size ≤ 6 := by
        obtain ⟨n, hn⟩ := Int.eq_ofNat_of_zero_le hm.1
        have hn' : n < RT.length := by rw [RT_len]; omega
        rw [hn]
        unfold rd_T26
        rw [Int.toNat_natCast, List.getD_eq_getElem?_getD, List.getElem?_eq_getElem hn']
        exact of_decide_eq_true (List.all_eq_true.1 RT_size _ (List.getElem_mem hn'))
      generalize rd_T26 RT (Int.tmod a1 59) = e at *
      have e1 : (⟨#[38]⟩ : ByteArray).size = 1 := rfl
      have e2 : (⟨#[38, 35]⟩ : ByteArray).size = 2 := rfl
      have e3 : (⟨#[38, 35, 120]⟩ : ByteArray).size = 3 := rfl
      refine E.neg (by decide) (E.pos hm.1 (E.pos hm.2 (E.pos (by omega) (E.pos (by rw [ByteArray.size_append, e1]; omega) (E.pos (by omega) (E.pos (by omega) (E.bno rfl ?_)))))))
      refine finds_l0 a3 _ (by simp) ?_ _ [] rfl
      intro s hs
      simp only [List.mem_cons, List.not_mem_nil, or_false] at hs
      rcases hs with rfl | rfl | rfl | rfl
      · omega
      · rw [ByteArray.size_append, ByteArray.size_append, e1]; omega
      · rw [ByteArray.size_append, e2]; omega
      · rw [ByteArray.size_append, e3]; omega
  unfold selvedgelaw03_CharrefFinds.f
  by_cases h : (a0.size : Int) > 5000
  · exact E.pos h (j0 true (fun z => by cases z))
  · exact E.neg h (j0 _ (fun z => ⟨by omega, by have := of_decide_eq_false z; omega⟩))
theorem CharrefFinds : selvedgelaw03_CharrefFinds.Pure := by
  intro a0 a1 a2 a3 _ w1 _
  have := E.u8_lo w1
  exact E.out (finds_ev a0 a2 a1 this.1 this.2 a3)
end Go.Proofs.YtaohghcmlohngaaDoor.Pure
