import Derived.Test.YtdmkbaebcopjfaaT4
import Derived.Lib.SlBytesConst
import Derived.Lib.ConvBytes
/-! The law's works: the chapter's examples. -/
namespace Go.Proofs.Ytdmkbaebcopjfaa.X
open Go.RowKit Go.Proofs.YtdmkbaebcopjfaaW.PrintWords Go.Proofs.YtdmkbaebcopjfaaW.PrintLast Go.Proofs.YtdmkbaebcopjfaaW.PrintMore
attribute [local go_sem] max2_int min2_int max_two min_two max_three min_three max_four min_four   -- for this text's walks alone
set_option linter.unusedVariables false
set_option linter.unusedSimpArgs false

/-- A row of bytes, from its block: the first cells are the bytes. -/
theorem C_of_cells {W : World} {g : Nat} {xs : List Int} {rest : List Value} {t : TypeId} {fr : Nat × Nat} (h : W.heap[g]? = some (.cells (xs.map (Value.int .u8) ++ rest).toArray t fr)) (hm : xs.length ≤ 9223372036854775807) : Kd.C (Kd.int .u8) W (some ⟨g, 0, none⟩) xs.length xs := by
  refine ⟨rfl, hm, fun _ => ⟨⟨g, 0, none⟩, rfl, fun j p hj => ⟨[.int .u8 p], rfl, rfl, fun i u hu => ?_⟩⟩⟩
  have hj2 := (List.getElem?_eq_some_iff.1 hj).1
  match i, hu with
  | 0, hu =>
    simp at hu
    subst hu
    show W.cell? ((⟨g, 0, none⟩ : Addr).add (j * 1 + 0)) = _
    have e : (⟨g, 0, none⟩ : Addr).add (j * 1 + 0) = ⟨g, j, none⟩ := by simp [Addr.add]; omega
    rw [e]
    simp only [World.cell?, h]
    rw [List.getElem?_toArray, List.getElem?_append_left (by simpa using hj2), List.getElem?_map, hj]
    rfl
def exIn : List Int := [97, 13, 10, 98, 13, 99, 195, 40]
set_option maxHeartbeats 4000000 in
set_option maxRecDepth 100000 in
theorem works_c (w : World) : Calls Try.prog 9 #[] w fun e w' => e = .returned (.bool true) ∧ Below w.heap.size w w' := by
  have hcc := Lib.run_convert_bytes_const (P := Try.prog) w 22 5 #[.int .u8 97, .int .u8 13, .int .u8 10, .int .u8 98, .int .u8 13, .int .u8 99, .int .u8 195, .int .u8 40] 8 8 Try.underlying22 Try.underlying5
  have hC : Kd.C (Kd.int .u8) (w.alloc (.cells #[.int .u8 97, .int .u8 13, .int .u8 10, .int .u8 98, .int .u8 13, .int .u8 99, .int .u8 195, .int .u8 40] 5 (8, 9))) (some ⟨w.heap.size, 0, none⟩) 8 exIn :=
    C_of_cells (xs := exIn) (rest := []) (heap_alloc_new w _) (by decide)
  have DC := utf_Decode.calls (some ⟨w.heap.size, 0, none⟩) 8 exIn ⟨#[97, 10, 98, 10, 99, 239, 191, 189, 40]⟩ 0 _ hC (by decide) (by decide +kernel)
  have RU := fun W => utf_Runes.calls ⟨#[215, 144, 255]⟩ [1488, 65533] W (by decide +kernel)
  have HDC := Aside0.mk DC
  clear hC DC
  go_enter Try.func9, Try.ntmps9
  go_wp2_with (go_at_call 10; fail)
  refine HDC.out.mono ?_
  rintro e w1 ⟨rfl, hB⟩
  have HB := Aside0.mk hB
  clear hB hcc
  go_wp2_with (go_at_call 13; fail)
  refine (RU _).mono ?_
  rintro e w2 ⟨v2, rfl, hR, hB2⟩
  obtain ⟨A2, c2, e2, hc2, hC2⟩ := Kd.R_reads hR
  subst e2
  obtain ⟨ad0, ea0, x0⟩ := Kd.at_int hC2 0 (by decide) (by decide)
  obtain ⟨ad1, ea1, x1⟩ := Kd.at_int hC2 1 (by decide) (by decide)
  subst ea0
  injection ea1 with ea1
  subst ea1
  have g0 : rd [1488, 65533] 0 = 1488 := rfl
  have g1 : rd [1488, 65533] 1 = 65533 := rfl
  rw [g0] at x0
  rw [g1] at x1
  have ST : Calls Try.prog 14 #[.slice (some ad0) 2 c2] w2 _ := utf_String.calls (some ad0) c2 [1488, 65533] ⟨#[215, 144, 239, 191, 189]⟩ w2 hC2 hc2 (by decide +kernel)
  have HST := Aside0.mk ST
  have HB2 := Aside0.mk hB2
  clear hR hB2 hC2 hc2 ST RU g0 g1
  have y0 : w2.cell? ad0 = some (.int .i32 1488) := by simpa [Addr.add] using x0
  have y1 := x1
  simp [Addr.add] at y1
  go_wp2_with (go_at_call 14; fail)
  refine HST.out.mono ?_
  rintro e w3 ⟨rfl, hB3⟩
  have HB3 := Aside0.mk hB3
  clear hB3
  go_wp2
  go_ret
  have s1 : w.heap.size ≤ w1.heap.size := by have := HB.out.size; simp at this; omega
  have s2 : w1.heap.size ≤ w2.heap.size := HB2.out.size
  exact ⟨rfl, (((below_alloc (Below.refl _ w) _).trans (HB.out.mono (by simp))).trans (HB2.out.mono s1)).trans (HB3.out.mono (Nat.le_trans s1 s2))⟩
def selvedgelaw02_works.f : Option Bool := some true
theorem selvedgelaw02_works.calls (r : Bool) (w : World) (h : selvedgelaw02_works.f = some r) : Calls Try.prog 9 #[] w fun e w' => e = .returned (.bool r) ∧ Below w.heap.size w w' := by
  unfold selvedgelaw02_works.f at h
  injection h with h
  subst h
  exact works_c w
end Go.Proofs.Ytdmkbaebcopjfaa.X
