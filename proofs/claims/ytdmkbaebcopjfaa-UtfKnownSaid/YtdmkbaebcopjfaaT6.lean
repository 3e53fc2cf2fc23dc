import Derived.Test.YtdmkbaebcopjfaaX3
import Derived.Test.YtdmkbaebcopjfaaT5
/-! The law UtfDecodes: its walk, where all it asks for holds. -/
namespace Go.Proofs.Ytdmkbaebcopjfaa.X
open Go.RowKit Go.Proofs.YtdmkbaebcopjfaaW.PrintWords Go.Proofs.YtdmkbaebcopjfaaW.PrintLast Go.Proofs.YtdmkbaebcopjfaaW.PrintMore
attribute [local go_sem] max2_int min2_int max_two min_two max_three min_three max_four min_four   -- for this text's walks alone
set_option linter.unusedVariables false
set_option linter.unusedSimpArgs false

/-- '[]byte(s)': a row that is read. -/
theorem bs_C (W : World) (s : ByteArray) (hs : s.size ≤ 9223372036854775807) : Kd.C (Kd.int .u8) (Lib.bytesWorld W 5 s) (some ⟨W.heap.size, 0, none⟩) (bytesOf s).length (bytesOf s) := by
  have := bytes_reads W 5 s hs
  rw [bytesOf_length]
  exact Kd.C_of_reads this
theorem strOfNums_bytesOf (s : ByteArray) : strOfNums (bytesOf s) = s := by
  have h : ∀ l : List UInt8, strOfNums (l.map fun b => (b.toNat : Int)) = ⟨l.toArray⟩ := by
    intro l
    unfold strOfNums
    rw [List.map_map]
    have : ((fun n : Int => UInt8.ofNat n.toNat) ∘ fun b : UInt8 => (b.toNat : Int)) = id := by funext b; simp
    rw [this, List.map_id]
  exact (h s.data.toList).trans (by simp)
theorem bs_size (W : World) (s : ByteArray) : W.heap.size ≤ (Lib.bytesWorld W 5 s).heap.size := by rw [Lib.bytesWorld_size]; omega
set_option maxHeartbeats 4000000 in
set_option maxRecDepth 100000 in
theorem decodes_c (k : Nat) (A0 : Option Addr) (c0 : Nat) (l0 : List Int) (w : World) (hr0 : Kd.C (Kd.int .u8) w A0 l0.length l0) (hc0 : l0.length ≤ c0) (hl : l0.length ≤ 70000) (t : ByteArray) (f : Int)
    (hd : utf_Decode.f (bytesOf (strOfNums l0)) = some (t, f)) (hrf : selvedgeref02_Decode.f k l0 = some (t, f)) :
    Calls Try.prog 3 #[.slice A0 l0.length c0] w fun e w' => e = .returned (.bool true) ∧ Below w.heap.size w w' := by
  have c2b0 : decide (70000 < (l0.length : Int)) = false := decide_eq_false (by omega)
  have hss : (strOfNums l0).size ≤ 9223372036854775807 := by rw [strOfNums_size]; omega
  have hcv1 := Kd.C_string (P := Try.prog) (A := A0) (c := c0) Try.underlying22 Try.underlying5 Try.underlying9 hr0
  have HR0 := Aside0.mk hr0
  have HC0 := Aside0.mk hc0
  have HF := Aside0.mk hrf
  generalize hS : strOfNums l0 = S at hcv1 hd hss
  have hcv2 := print_bytes (P := Try.prog) 9 22 5 Try.underlying9 Try.underlying22 Try.underlying5 S w
  have DC := utf_Decode.calls (some ⟨w.heap.size, 0, none⟩) (grownCap w S.size 0 5) (bytesOf S) t f (Lib.bytesWorld w 5 S) (bs_C w S hss) (by rw [bytesOf_length]; exact grownCap_ge _ _ _ _) hd
  have HC := Aside0.mk (bs_C w S hss)
  rw [bytesOf_length] at DC HC
  have HDC := Aside0.mk DC
  clear hr0 hc0 hrf DC hd
  go_enter Try.func3, Try.ntmps3
  go_wp2_with (go_at_call 10; fail)
  refine HDC.out.mono ?_
  rintro e w1 ⟨rfl, hB⟩
  have HB := Aside0.mk hB
  have HB1 := Aside0.mk ((bytes_below (Below.refl w.heap.size w) (Nat.le_refl _) 5 S).trans (hB.mono (bs_size w S)))
  clear hB hcv1 hcv2 HDC
  go_wp2_with (go_at_call 11; fail)
  refine (selvedgeref02_Decode.calls k A0 c0 l0 t f _ (Kd.C_below HR0.out HB1.out) HC0.out HF.out).mono ?_
  rintro e w2 ⟨rfl, hB2⟩
  have HB2 := Aside0.mk (HB1.out.trans (hB2.mono HB1.out.size))
  have hcv3 := Kd.C_string (P := Try.prog) (c := c0) Try.underlying22 Try.underlying5 Try.underlying9 (Kd.C_below HR0.out HB2.out)
  have hcv4 := Kd.C_string (P := Try.prog) (c := grownCap w S.size 0 5) Try.underlying22 Try.underlying5 Try.underlying9 (Kd.C_below HC.out (HB.out.trans (hB2.mono HB.out.size)))
  have e1 : strOfNums (bytesOf S) = strOfNums l0 := (strOfNums_bytesOf S).trans hS.symm
  rw [e1] at hcv4
  have e2 : (t.toList == t.toList) = true := beq_self_eq_true _
  have e3 : ((strOfNums l0).toList == (strOfNums l0).toList) = true := beq_self_eq_true _
  clear hB2 HB1 HB HF HC HR0 HC0
  go_wp2_with (go_at_call 9; fail)
  refine (selvedgelaw02_works.calls true _ rfl).mono ?_
  rintro e w3 ⟨rfl, hB3⟩
  have HB3 := Aside0.mk (HB2.out.trans (hB3.mono HB2.out.size))
  clear hB3
  go_wp2
  go_ret
  exact ⟨rfl, HB3.out⟩
def selvedgelaw02_UtfDecodes.f (k : Nat) (l0 : List Int) : Option Bool := if 70000 < l0.length then some true else ((utf_Decode.f (bytesOf (strOfNums l0))).bind fun p => ((selvedgeref02_Decode.f k l0).bind fun q => (if p = q then some true else none)))
theorem selvedgelaw02_UtfDecodes.mono : ∀ a0 k, LeO (selvedgelaw02_UtfDecodes.f k a0) (selvedgelaw02_UtfDecodes.f (k + 1) a0) := by
  intro a0 k
  unfold selvedgelaw02_UtfDecodes.f
  exact LeO.ite (LeO.refl _) (LeO.bind (LeO.refl _) (fun _ => LeO.bind (selvedgeref02_Decode.mono a0 k) (fun _ => LeO.refl _)))
set_option maxHeartbeats 4000000 in
set_option maxRecDepth 100000 in
theorem selvedgelaw02_UtfDecodes.calls (k : Nat) (A0 : Option Addr) (c0 : Nat) (l0 : List Int) (r : Bool) (w : World) (hr0 : Kd.C (Kd.int .u8) w A0 l0.length l0) (hc0 : l0.length ≤ c0) (h : selvedgelaw02_UtfDecodes.f k l0 = some r) :
    Calls Try.prog 3 #[.slice A0 l0.length c0] w fun e w' => e = .returned (.bool r) ∧ Below w.heap.size w w' := by
  unfold selvedgelaw02_UtfDecodes.f at h
  by_cases c : 70000 < l0.length
  · rw [if_pos c] at h
    injection h with h
    subst h
    have c2b0 : decide (70000 < (l0.length : Int)) = true := decide_eq_true (by omega)
    clear hr0 hc0
    go_enter Try.func3, Try.ntmps3
    go_wp2_with (go_at_call 9; fail)
    refine (selvedgelaw02_works.calls true _ rfl).mono ?_
    rintro e w3 ⟨rfl, hB3⟩
    have HB3 := Aside0.mk hB3
    clear hB3
    go_wp2
    go_ret
    exact ⟨rfl, HB3.out⟩
  · rw [if_neg c] at h
    obtain ⟨p, hp, h⟩ := Option.bind_eq_some_iff.mp h
    obtain ⟨q, hq, h⟩ := Option.bind_eq_some_iff.mp h
    by_cases e : p = q
    · rw [if_pos e] at h
      injection h with h
      subst h
      subst e
      obtain ⟨t, f⟩ := p
      exact decodes_c k A0 c0 l0 w hr0 hc0 (by omega) t f hp hq
    · rw [if_neg e] at h
      cases h
/-- The pure statement. -/
def selvedgelaw02_UtfDecodes.Pure : Prop := ∀ (l0 : List Int), l0.length ≤ maxLen → l0.length * 1 ≤ 140737488351232 → (∀ x ∈ l0, (Lit.int .u8 x).wf = true) → ∃ k, selvedgelaw02_UtfDecodes.f k l0 = some true
theorem selvedgelaw02_UtfDecodes.walk (P : selvedgelaw02_UtfDecodes.Pure) (a0 : Option Addr) (len0 cap0 : Nat) (z0 : List Int) (w : World) (w0 : (a0 = none ∧ len0 = 0 ∧ cap0 = 0 ∧ z0 = []) ∨ ∃ x, a0 = some x ∧ len0 ≤ cap0 ∧ cap0 ≤ maxLen ∧ z0.length = cap0 ∧ (∀ i, i < z0.length → w.cell? (x.add i) = some (.int .u8 (z0.getD i 0))) ∧ ∀ n ∈ z0, (Lit.int .u8 n).wf = true) (y0 : len0 * 1 ≤ 140737488351232) :
  Calls Try.prog 3 #[.slice a0 len0 cap0] w fun e w' => e = .returned (.bool true) ∧ Below w.heap.size w w' := by
 obtain ⟨l0, rfl, hr0, hm0, hw0, hc0⟩ := ReadsInt.ofRowC w0
 obtain ⟨k, h⟩ := P l0 hm0 y0 hw0
 refine (selvedgelaw02_UtfDecodes.calls k _ _ l0 true w (Kd.C_of_reads (d := (0 : Int)) (h1 := fun _ => rfl) hr0) hc0 h).mono ?_
 rintro e w' ⟨rfl, hd⟩
 exact ⟨rfl, hd⟩
end Go.Proofs.Ytdmkbaebcopjfaa.X
