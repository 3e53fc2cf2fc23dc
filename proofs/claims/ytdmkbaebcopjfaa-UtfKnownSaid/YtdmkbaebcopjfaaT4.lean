import Derived.Test.YtdmkbaebcopjfaaT3
/-! utf.String. -/
namespace Go.Proofs.Ytdmkbaebcopjfaa.X
open Go.RowKit Go.Proofs.YtdmkbaebcopjfaaW.PrintWords Go.Proofs.YtdmkbaebcopjfaaW.PrintLast Go.Proofs.YtdmkbaebcopjfaaW.PrintMore
attribute [local go_sem] max2_int min2_int max_two min_two max_three min_three max_four min_four   -- for this text's walks alone
set_option linter.unusedVariables false
set_option linter.unusedSimpArgs false

def in32 (x : Int) : Bool := decide (-2147483648 ≤ x ∧ x ≤ 2147483647)
def encs (l : List Int) : List Int := l.flatMap Lib.encodeRuneZ
theorem encs_len (l : List Int) : (encs l).length ≤ 4 * l.length := by
  induction l with
  | nil => simp [encs]
  | cons c l ih =>
    have := Lib.encodeRuneZ_length c
    unfold encs at ih ⊢
    rw [List.flatMap_cons, List.length_append, List.length_cons]
    omega
theorem encs_take {l : List Int} {i : Int} (h0 : 0 ≤ i) (h1 : i < l.length) : encs (l.take (i + 1).toNat) = encs (l.take i.toNat) ++ Lib.encodeRuneZ (rd l i) := by
  obtain ⟨n, rfl⟩ := Int.eq_ofNat_of_zero_le h0
  have hn : n < l.length := by omega
  have e : ((n : Int) + 1).toNat = n + 1 := by omega
  have e2 : rd l (n : Int) = l[n] := by simp [rd, hn]
  unfold encs
  rw [e, e2, Int.toNat_natCast, List.take_succ_eq_append_getElem hn, List.flatMap_append]
  simp
def StrS (w : World) (l : List Int) (i : Int) (v : Value) (W : World) : Prop := W.ownsRow w.heap.size 5 1 v (encs (l.take i.toNat)).length ((encs (l.take i.toNat)).map (Value.int .u8)) ∧ Below w.heap.size w W
set_option maxHeartbeats 4000000 in
set_option maxRecDepth 100000 in
theorem string_c (A0 : Option Addr) (c0 : Nat) (l0 : List Int) (w : World) (hr0 : Kd.C (Kd.int .i32) w A0 l0.length l0) (hl : l0.length ≤ 1099511627776) (hx : l0.all in32 = true) : Calls Try.prog 14 #[.slice A0 l0.length c0] w fun e w' => e = .returned (.string (strOfNums (encs l0))) ∧ Below w.heap.size w w' := by
  have HR0 := Aside0.mk hr0
  have HL := Aside0.mk hl
  have HX := Aside0.mk hx
  clear hr0 hl hx
  go_enter Try.func14, Try.ntmps14
  go_wp2
  go_loopw [3, 8] (fun v3 v8 wr => ∃ i : Int, 0 ≤ i ∧ i ≤ (l0.length : Int) ∧ v8 = .int .i64 i ∧ Aside0 (StrS w l0 i v3 wr)) (fun _ v8 _ => l0.length - (intOf v8).toNat)
  case atStart => exact ⟨0, by omega, by omega, rfl, ⟨World.ownsRow_nil _ _ _ _, Below.refl _ _⟩⟩
  case round =>
    obtain ⟨i, hi0, hi1, rfl, HS⟩ := hrel
    by_cases hlt : i < (l0.length : Int)
    · have bl : decide (i < (l0.length : Int)) = true := decide_eq_true hlt
      have hw64 : i + 1 ≤ 9223372036854775807 := by have := HL.out; omega
      obtain ⟨ad, e1, x0⟩ := Kd.at_int HR0.out i hi0 hlt
      subst e1
      replace x0 := (HS.out.2.cell (World.block_lt_of_cell? w _ x0)).trans x0
      have hrange : -2147483648 ≤ rd l0 i ∧ rd l0 i ≤ 2147483647 := by
        have hm : rd l0 i ∈ l0 := by
          obtain ⟨n, rfl⟩ := Int.eq_ofNat_of_zero_le hi0
          have hn : n < l0.length := by omega
          have e2 : rd l0 (n : Int) = l0[n] := by simp [rd, hn]
          rw [e2]
          exact List.getElem_mem hn
        exact of_decide_eq_true (List.all_eq_true.1 HX.out _ hm)
      have HRG := Aside0.mk hrange
      have htk := encs_take hi0 hlt
      have HTK := Aside0.mk htk
      have hlen := encs_len (l0.take i.toNat)
      have HLEN := Aside0.mk (show (encs (l0.take i.toNat)).length + 4 ≤ 140737488355328 by have := HL.out; rw [List.length_take] at hlen; omega)
      clear hrange htk hlen
      generalize rd l0 i = r at *
      go_wp2_with (go_at_call 22; fail)
      refine (Any.utf8_AppendRune_plain lays242 bextra.infoByte w.heap.size _ _ _ r HRG.out.1 HRG.out.2 wr HS.out.1 HLEN.out HS.out.2.size).mono ?_
      rintro e w1 ⟨v', rfl, hown, o, hg⟩
      have hown' : w1.ownsRow w.heap.size 5 1 v' (encs (l0.take (i + 1).toNat)).length ((encs (l0.take (i + 1).toNat)).map (Value.int .u8)) := by
        rw [HTK.out, List.length_append, List.map_append]
        have e2 : (Lib.runeCells r).length = (Lib.encodeRuneZ r).length := by simp [Lib.runeCells]
        rw [← e2]
        exact hown
      have hB : Below w.heap.size w w1 := (HS.out.2.alloc HS.out.2.size o).grown hg (by have := HS.out.2.size; simp; omega) (own_base HS.out.1)
      have HN := Aside0.mk (And.intro hown' hB)
      clear hown hown' hg hB
      go_wp2
      go_roundw
      case rel => exact ⟨i + 1, by omega, by omega, by go_num, HN⟩
      case measure => simp [intOf]; omega
    · obtain rfl : i = l0.length := by omega
      have bl : decide ((l0.length : Int) < (l0.length : Int)) = false := by simp
      have hown := HS.out.1
      have hB := HS.out.2
      rw [Int.toNat_natCast, List.take_length] at hown
      have hR : Kd.R (Kd.int .u8) 5 wr w.heap.size (fun _ => True) u3 (encs l0) := Kd.R_of_own (xs := encs l0) hown (fun _ _ => trivial)
      obtain ⟨Av, cv, e1, hcv1, hC⟩ := Kd.R_reads hR
      subst e1
      have hcv := Kd.C_string (P := Try.prog) (A := Av) (c := cv) Try.underlying22 Try.underlying5 Try.underlying9 hC
      have HB := Aside0.mk hB
      clear hown hB hR hC HS hcv1
      go_wp2
      go_ret
      exact ⟨rfl, HB.out⟩
def utf_String.f (l : List Int) : Option ByteArray := if l.length ≤ 1099511627776 ∧ l.all in32 = true then some (strOfNums (encs l)) else none
theorem utf_String.calls (A0 : Option Addr) (c0 : Nat) (l0 : List Int) (r : ByteArray) (w : World) (hr0 : Kd.C (Kd.int .i32) w A0 l0.length l0) (hc0 : l0.length ≤ c0) (h : utf_String.f l0 = some r) :
    Calls Try.prog 14 #[.slice A0 l0.length c0] w fun e w' => e = .returned (.string r) ∧ Below w.heap.size w w' := by
  unfold utf_String.f at h
  by_cases hl : l0.length ≤ 1099511627776 ∧ l0.all in32 = true
  · rw [if_pos hl] at h
    injection h with h
    subst h
    exact string_c A0 c0 l0 w hr0 hl.1 hl.2
  · rw [if_neg hl] at h
    cases h
end Go.Proofs.Ytdmkbaebcopjfaa.X
