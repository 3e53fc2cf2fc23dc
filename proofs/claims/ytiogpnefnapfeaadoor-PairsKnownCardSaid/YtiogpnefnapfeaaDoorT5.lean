import Derived.Test.YtiogpnefnapfeaaDoorX1
import Derived.Test.YtiogpnefnapfeaaDoorT4
import Derived.Laws.IdiomStrings
/-! The law's become: its walk. -/
namespace Go.Proofs.YtiogpnefnapfeaaDoor.X
open Go.RowKit Go.Proofs.YtiogpnefnapfeaaDoorW.PrintWords Go.Proofs.YtiogpnefnapfeaaDoorW.PrintLast Go.Proofs.YtiogpnefnapfeaaDoorW.PrintMore Go.Proofs.YtiogpnefnapfeaaDoor.Pure
set_option linter.unusedVariables false
set_option linter.unusedSimpArgs false
set_option maxRecDepth 100000
set_option maxHeartbeats 8000000
/-- A text's characters. -/
def rnF (s : ByteArray) : Nat → Nat → List Int
  | 0, _ => []
  | b + 1, i => if i < s.size then ((Utf8.decode s i).1 : Int) :: rnF s b (i + (Utf8.decode s i).2) else []
def runesF (s : ByteArray) : List Int := rnF s s.size 0
theorem runes_acc (s : ByteArray) : ∀ (b i : Nat) (acc : Array Value), (Conv.runesFrom s b i acc).toList = acc.toList ++ (rnF s b i).map (Value.int .i32) := by
  intro b
  induction b with
  | zero => intro i acc; simp [Conv.runesFrom, rnF]
  | succ b ih =>
    intro i acc
    unfold Conv.runesFrom rnF
    split
    · rw [ih]; simp
    · simp
theorem runes_eq (s : ByteArray) : (Conv.runesFrom s s.size 0 #[]).toList = (runesF s).map (Value.int .i32) := by
  rw [runes_acc]; rfl
theorem runes_size (s : ByteArray) : (Conv.runesFrom s s.size 0 #[]).size = (runesF s).length := by
  rw [← Array.length_toList, runes_eq, List.length_map]
theorem rn_len (s : ByteArray) : ∀ (b i : Nat), (rnF s b i).length ≤ b := by
  intro b
  induction b with
  | zero => intro i; exact Nat.le_refl _
  | succ b ih =>
    intro i
    unfold rnF
    split
    · exact Nat.succ_le_succ (ih _)
    · exact Nat.zero_le _
theorem runesF_len (s : ByteArray) : (runesF s).length ≤ s.size := rn_len s _ _
/-- '[]rune(s)': a row of the call's own. -/
theorem conv_row (s : ByteArray) (w : World) (hs : s.size ≤ 65536) : ∃ (w1 : World) (c : Nat), (convert 9 22 (.string s)).run Tryd.prog w = .ok (.slice (some ⟨w.heap.size, 0, none⟩) (runesF s).length c) w1 ∧ (runesF s).length ≤ c ∧ Kd.C (Kd.int .i32) w1 (some ⟨w.heap.size, 0, none⟩) (runesF s).length (runesF s) ∧ Below w.heap.size w w1 := by
  have hl := runesF_len s
  have hz := runes_size s
  have hrun := run_runes_of_string (P := Tryd.prog) w 9 22 21 s Tryd.underlying9 Tryd.underlying22 Tryd.underlying21 (by omega)
  have hcg := grownCap_ge w (Conv.runesFrom s s.size 0 #[]).size 0 21
  have hcm := grownCap_le_maxLen w (Conv.runesFrom s s.size 0 #[]).size 0 21 (by rw [hz]; unfold maxLen; omega)
  rw [hz] at hrun hcg hcm
  refine ⟨_, _, hrun, hcg, ?_, ?_⟩
  · have hb := heap_alloc_new w.drew (.cells (Conv.runesFrom s s.size 0 #[] ++ Array.replicate (grownCap w (runesF s).length 0 21 - (runesF s).length) (.int .i32 0)) 21)
    have hR : Kd.R (Kd.int .i32) 21 (w.drew.alloc (.cells (Conv.runesFrom s s.size 0 #[] ++ Array.replicate (grownCap w (runesF s).length 0 21 - (runesF s).length) (.int .i32 0)) 21)) w.heap.size (fun _ => True) (.slice (some ⟨w.heap.size, 0, none⟩) (runesF s).length (grownCap w (runesF s).length 0 21)) (runesF s) := by
      refine Kd.R_of_own ⟨by simp [encs], Or.inr ⟨w.heap.size, _, _, rfl, Nat.le_refl _, hb, hcg, hcm, ?_, ?_⟩⟩ (fun _ _ => trivial)
      · rw [Array.size_append, hz, Array.size_replicate]; omega
      · rw [Array.toList_append, runes_eq, List.take_left' (by simp)]; rfl
    exact (Kd.R_reads' hR).2.2
  · exact (below_drew (Below.refl w.heap.size w)).alloc (Nat.le_refl _) _
def selvedgelaw17_become.f (k : Nat) (a0 : ByteArray) (a1 : Int) (a2 : Int) (l3 : List Int) : Option Bool :=
  if a0.size ≤ 65536 then (selvedgelaw17_classes.f k (runesF a0)).bind fun t => (pairs_Resolve.f (runesF a0) t t a1 a2).bind fun q => if q.2 = 0 then selvedgelaw17_is.f k q.1 l3 else some false else none
theorem selvedgelaw17_become.mono : ∀ a0 a1 a2 a3 k, LeO (selvedgelaw17_become.f k a0 a1 a2 a3) (selvedgelaw17_become.f (k + 1) a0 a1 a2 a3) := by
  intro a0 a1 a2 a3 k
  unfold selvedgelaw17_become.f
  split
  · refine LeO.bind (selvedgelaw17_classes.mono _ _) fun t => LeO.bind (LeO.refl _) fun q => ?_
    split
    · exact selvedgelaw17_is.mono _ _ _
    · exact LeO.refl _
  · exact LeO.refl _
theorem selvedgelaw17_become.calls (k : Nat) (a0 : ByteArray) (a1 : Int) (a2 : Int) (A3 : Option Addr) (c3 : Nat) (l3 : List Int) (r : Bool) (w : World) (hr3 : Kd.C (Kd.int .u8) w A3 l3.length l3) (hc3 : l3.length ≤ c3) (h : selvedgelaw17_become.f k a0 a1 a2 l3 = some r) (hT : Tabs w) :
  Calls Tryd.prog 16 #[.string a0, .int .u8 a1, .int .u8 a2, .slice A3 l3.length c3] w fun e w' => e = .returned (.bool r) ∧ Below w.heap.size w w' := by
  unfold selvedgelaw17_become.f at h
  split at h
  case isFalse => cases h
  next hs =>
  obtain ⟨t, ht, h⟩ := Option.bind_eq_some_iff.1 h
  obtain ⟨⟨o, er⟩, ho, h⟩ := Option.bind_eq_some_iff.1 h
  dsimp only at h
  obtain ⟨w1, c, hconv, hcc, hC1, hB1⟩ := conv_row a0 w hs
  have X1 := Aside0.mk (And.intro hC1 (And.intro hcc hB1))
  have HF := Aside0.mk (And.intro ht ho)
  have HT := Aside0.mk hT
  have H3 := Aside0.mk (And.intro hr3 hc3)
  have H := Aside0.mk h
  clear hC1 hcc hB1 ht ho hT hr3 hc3 h hs
  obtain ⟨gr, hgr⟩ : ∃ g, w.heap.size = g := ⟨_, rfl⟩
  rw [hgr] at hconv
  have HG := Aside0.mk hgr
  rw [hgr] at X1
  clear hgr
  go_enter Tryd.func16, Tryd.ntmps16
  go_upto_region 4 with (first | (go_at_call 17; refine (selvedgelaw17_classes.calls k _ c (runesF a0) t w1 X1.out.1 X1.out.2.1 HF.out.1).mono ?_; rintro e w2 ⟨v2, rfl, hR2, hB2⟩; obtain ⟨A2, c2, e2⟩ := Kd.R_slice hR2; subst e2; have X2 := Aside0.mk (And.intro hR2 hB2); clear hR2 hB2) | (go_at_call 11; refine (pairs_Resolve.calls _ c (runesF a0) A2 c2 t A2 c2 t a1 a2 o er w2 (Kd.C_below X1.out.1 X2.out.2) X1.out.2.1 (Kd.R_reads' X2.out.1).2.2 (Kd.R_reads' X2.out.1).2.1 (Kd.R_reads' X2.out.1).2.2 (Kd.R_reads' X2.out.1).2.1 HF.out.2 ((HT.out.below (HG.out ▸ X1.out.2.2)).below X2.out.2)).mono ?_; rintro e w3 ⟨v3, rfl, hR3, hB3⟩; obtain ⟨A4, c4, e4⟩ := Kd.R_slice hR3; subst e4; have X3 := Aside0.mk (And.intro hR3 (below_step (below_step (HG.out ▸ X1.out.2.2) X2.out.2) hB3)); clear hR3 hB3))
  by_cases q : er = 0
  · subst q
    have hi := H.out
    rw [if_pos rfl] at hi
    have HI := Aside0.mk hi
    clear hi
    go_wp2_with (go_at_call 13; refine (selvedgelaw17_is.calls k A4 c4 o A3 c3 l3 r w3 (Kd.R_reads' X3.out.1).2.2 (Kd.R_reads' X3.out.1).2.1 (Kd.C_below H3.out.1 X3.out.2) H3.out.2 HI.out).mono ?_; rintro e w4 ⟨rfl, ⟨nd, rfl⟩⟩)
    go_ret
    exact ⟨rfl, mvB ⟨X3.out.2⟩⟩
  · have e0 : (er == 0) = false := beq_eq_false_iff_ne.mpr q
    have hi := H.out
    rw [if_neg q] at hi
    obtain rfl := Option.some.inj hi
    clear hi q
    go_wp2
    go_ret
    exact ⟨rfl, X3.out.2⟩
end Go.Proofs.YtiogpnefnapfeaaDoor.X
