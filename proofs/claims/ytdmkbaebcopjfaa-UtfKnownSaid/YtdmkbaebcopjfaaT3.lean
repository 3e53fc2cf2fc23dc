import Derived.Test.YtdmkbaebcopjfaaT2
import Derived.Lib.OthersKept
import Derived.Shelf.Utf8.AppendRunePlain
/-! utf.Decode, utf.Runes, utf.String. -/
namespace Go.Proofs.Ytdmkbaebcopjfaa.X
open Go.RowKit Go.Proofs.YtdmkbaebcopjfaaW.PrintWords Go.Proofs.YtdmkbaebcopjfaaW.PrintLast Go.Proofs.YtdmkbaebcopjfaaW.PrintMore
attribute [local go_sem] max2_int min2_int max_two min_two max_three min_three max_four min_four   -- for this text's walks alone
set_option linter.unusedVariables false
set_option linter.unusedSimpArgs false

theorem width_pos (s : ByteArray) (pos : Nat) (h : pos < s.size) : 1 ≤ (Utf8.decode s pos).2 := by
  by_cases ha : (s[pos]'h).toNat < 128
  · rw [decode_ascii s pos h ha]
    exact Nat.le_refl _
  · exact (decode_high s pos h (by omega)).2
/-- What comes of a text, from a place on; st: the character ahead. -/
def decOne (r st : Int) : List UInt8 := if r = 10 ∧ st = 13 then [] else if r = 13 then [10] else Lib.encodeRune r
def decF (s : ByteArray) : Nat → Nat → Int → List UInt8
  | 0, _, _ => []
  | f + 1, pos, st => if pos < s.size then decOne ((Utf8.decode s pos).1 : Int) st ++ decF s f (pos + (Utf8.decode s pos).2) ((Utf8.decode s pos).1 : Int) else []
theorem decF_end (s : ByteArray) (f pos : Nat) (st : Int) (h : ¬ pos < s.size) : decF s f pos st = [] := by
  cases f with
  | zero => rfl
  | succ f => simp [decF, h]
theorem decOne_len (r st : Int) : (decOne r st).length ≤ 4 := by
  have := Lib.runeCells_le r
  rw [Lib.runeCells_length] at this
  unfold decOne
  split
  · simp
  · split
    · simp
    · omega
def DecS (w : World) (s : ByteArray) (pos fuel : Nat) (st : Int) (acc : List UInt8) (it : Nat) (wr : World) : Prop :=
  Lib.IsBuilderF 38 5 w.heap.size w.heap.size (Lib.byteCells acc) wr ∧ wr.heap[it]? = some (.stringIter s pos) ∧ Below w.heap.size w wr ∧ acc ++ decF s fuel pos st = decF s s.size 0 32 ∧ s.size ≤ pos + fuel ∧ acc.length ≤ 4 * pos
def decM (l : List Int) : ByteArray := ⟨(mend (strOfNums l).size (strOfNums l)).toArray⟩
def decV (l : List Int) : ByteArray := ⟨(decF (decM l) (decM l).size 0 32).toArray⟩
theorem sons_size (l : List Int) : (strOfNums l).size = l.length := by unfold strOfNums; simp [ByteArray.size]
theorem decM_size (l : List Int) : (decM l).size ≤ 3 * l.length := by
  have h1 := mend_len (strOfNums l).size (strOfNums l)
  have h2 := sons_size l
  have h3 : (decM l).size = (mend (strOfNums l).size (strOfNums l)).length := by
    unfold decM
    generalize mend (strOfNums l).size (strOfNums l) = q
    simp [ByteArray.size]
  omega
def DecPost (w : World) (s : ByteArray) (c : Int) (e : Ending) (w' : World) : Prop := e = .returned (.tuple #[.string s, .int .i64 c]) ∧ Below w.heap.size w w'
set_option maxHeartbeats 8000000 in
set_option maxRecDepth 1000000 in
theorem decode_c (A0 : Option Addr) (c0 : Nat) (l0 : List Int) (w : World) (hr0 : Kd.C (Kd.int .u8) w A0 l0.length l0) (hl : l0.length ≤ 65536) : Calls Try.prog 10 #[.slice A0 l0.length c0] w (DecPost w (decV l0) 0) := by
  have HR0 := Aside0.mk hr0
  have hcv := Kd.C_string (P := Try.prog) (A := A0) (c := c0) Try.underlying22 Try.underlying5 Try.underlying9 (Kd.C_alloc hr0 (.cells #[.pointer none, .slice none 0 0] 38))
  have b0 : decide (65536 < (l0.length : Int)) = false := decide_eq_false (by omega)
  have hsz : (strOfNums l0).size ≤ 35184372088832 := by have := sons_size l0; omega
  have hms := decM_size l0
  have HMS := Aside0.mk (show (decM l0).size ≤ 196608 by omega)
  clear hr0 hl hms
  have MC := mended_c (strOfNums l0) (w.alloc (.cells #[.pointer none, .slice none 0 0] 38)) hsz
  clear hsz
  go_enter Try.func10, Try.ntmps10
  go_wp2_with (go_at_call 17; fail)
  refine MC.mono ?_
  rintro e w1 ⟨rfl, hB⟩
  have hm : (⟨(mend (strOfNums l0).size (strOfNums l0)).toArray⟩ : ByteArray) = decM l0 := rfl
  rw [hm]
  have hfr : Lib.IsBuilderF 38 5 w.heap.size w.heap.size (Lib.byteCells []) w1 := Lib.IsBuilderF.of (.inl ⟨Nat.le_refl _, .slice none 0 0, (hB.block _ (by simp)).trans (heap_alloc_new w _), World.ownsRow_nil _ _ _ _, by simp [Value.ownBlock]⟩)
  have hBw : Below w.heap.size w w1 := (below_alloc (Below.refl _ w) _).trans (hB.mono (by simp))
  have hszw : w.heap.size < w1.heap.size := by have := hB.size; simp at this; omega
  have HB := Aside0.mk (And.intro hfr (And.intro hBw hszw))
  generalize hdm : decM l0 = m at HMS
  have HDM := Aside0.mk hdm
  clear hB hfr hBw hszw hm hdm hcv MC
  go_wp2
  go_loopw [5] (fun v5 wr => ∃ (pos fuel : Nat) (st : Int) (acc : List UInt8), v5 = .int .i32 st ∧ Aside0 (DecS w m pos fuel st acc w1.heap.size wr)) (fun _ wr => m.size - wr.iterPos w1.heap.size)
  case atStart =>
    refine ⟨0, m.size, 32, [], rfl, ⟨HB.out.1.alloc _, ?_, (below_alloc HB.out.2.1 _), rfl, by omega, by simp⟩⟩
    have := World.iter_heap w1 m 0
    simpa using this
  case round =>
    obtain ⟨pos, fuel, st, acc, rfl, HS⟩ := hrel
    obtain ⟨hI, hit, hbw, hacc, hfu, hal⟩ := HS.out
    have hsz1 : w1.heap.size < wr.heap.size := (Array.getElem?_eq_some_iff.1 hit).1
    have hne : w1.heap.size ≠ w.heap.size := by have := HB.out.2.2; omega
    by_cases hp : pos < m.size
    · have hnx : ∀ ty, (Instr.next (.pointer (some ⟨w1.heap.size, 0, none⟩)) true ty).run Try.prog wr = _ := fun ty => Lib.run_next_any_at wr w1.heap.size m pos ty hit hp
      have hwd := width_pos m pos hp
      have hd1 := decode_le m pos
      have hI2 := hI.iterAt hit (pos + (Utf8.decode m pos).2)
      have hit2 := Lib.iterAt_heap wr w1.heap.size m pos (pos + (Utf8.decode m pos).2) hit
      have hbw2 := Lib.below_iterAt hbw (k := w1.heap.size) (by have := HB.out.2.2; omega) m (pos + (Utf8.decode m pos).2)
      have hsz2 : w.heap.size ≤ (wr.iterAt w1.heap.size m (pos + (Utf8.decode m pos).2)).heap.size := by rw [Lib.iterAt_size]; have := HB.out.2.2; omega
      obtain ⟨f, rfl⟩ : ∃ f, fuel = f + 1 := ⟨fuel - 1, by omega⟩
      rw [decF, if_pos hp] at hacc
      have hpos : wr.iterPos w1.heap.size = pos := by simp [World.iterPos, hit]
      obtain ⟨Wn, hWn⟩ : ∃ Wn, Wn = wr.iterAt w1.heap.size m (pos + (Utf8.decode m pos).2) := ⟨_, rfl⟩
      rw [← hWn] at hI2 hit2 hbw2 hsz2 hnx
      obtain ⟨rn, hrn⟩ : ∃ rn : Int, ((Utf8.decode m pos).1 : Int) = rn := ⟨_, rfl⟩
      have hr0 : 0 ≤ rn := by omega
      have hr1 : rn ≤ 2147483647 := by omega
      rw [hrn] at hacc hnx
      obtain ⟨np, hnp⟩ : ∃ np, pos + (Utf8.decode m pos).2 = np := ⟨_, rfl⟩
      rw [hnp] at hit2 hacc
      have hnp1 : pos + 1 ≤ np := by omega
      have HQ := Aside0.mk (And.intro hI2 (And.intro hit2 (And.intro hbw2 (And.intro hsz2 (And.intro hacc (And.intro hfu (And.intro hal (And.intro hnp1 (And.intro hpos (And.intro hp (And.intro hr0 hr1)))))))))))
      clear hI hit hbw hacc hfu hal hwd hd1 hI2 hit2 hbw2 hsz2 hWn hrn hnp HS hp hr0 hr1 hnp1 hpos
      by_cases h10 : rn = 10
      · subst h10
        by_cases h13 : st = 13
        · subst h13
          go_wp2
          go_roundw
          case rel =>
            obtain ⟨q1, q2, q3, q4, q5, q6, q7, q8, q9, q10, q11, q12⟩ := HQ.out
            refine ⟨np, f, 10, acc, rfl, ⟨q1, q2, q3, ?_, by omega, by omega⟩⟩
            simpa [decOne] using q5
          case measure =>
            obtain ⟨q1, q2, q3, q4, q5, q6, q7, q8, q9, q10, q11, q12⟩ := HQ.out
            rw [q9]
            simp only [World.iterPos, q2]
            omega
        · have b13 : (st == 13) = false := beq_eq_false_iff_ne.mpr h13
          go_wp2_with (go_at_call 19; fail)
          refine (Builder_WriteRune_k w.heap.size w.heap.size (Lib.byteCells acc) 10 (by have := HQ.out.2.2.2.2.2.2.2.2.2.2.1; omega) (by have := HQ.out.2.2.2.2.2.2.2.2.2.2.2; omega) _ HQ.out.1 (by have := HQ.out.2.2.2.2.2.2.1; have := HQ.out.2.2.2.2.2.2.2.2.2.1; have := HMS.out; rw [Lib.byteCells_length]; omega) HQ.out.2.2.2.1).mono ?_
          rintro e W1 ⟨rfl, h1, b1, k1⟩
          have HW := Aside0.mk (And.intro h1 (And.intro b1 k1))
          clear h1 b1 k1
          go_wp2
          go_roundw
          case rel =>
            obtain ⟨q1, q2, q3, q4, q5, q6, q7, q8, q9, q10, q11, q12⟩ := HQ.out
            obtain ⟨h1, b1, k1⟩ := HW.out
            refine ⟨np, f, _, acc ++ Lib.encodeRune 10, rfl, ⟨?_, k1.iter q2 hne, q3.trans b1, ?_, by omega, ?_⟩⟩
            · rw [Lib.byteCells_append]; first | exact Or.inr h1 | (rw [Lib.byteCells_encodeRune]; exact Or.inr h1)
            · have e1 : decOne 10 st = Lib.encodeRune 10 := by unfold decOne; simp [*]
              rw [← q5, List.append_assoc, e1]
            · have := Lib.runeCells_le 10; rw [Lib.runeCells_length] at this; rw [List.length_append]; first | omega | (simp; omega)
          case measure =>
            obtain ⟨q1, q2, q3, q4, q5, q6, q7, q8, q9, q10, q11, q12⟩ := HQ.out
            have k1 := HW.out.2.2
            rw [q9]
            simp only [World.iterPos, k1.iter q2 hne]
            omega
      · have b10 : (rn == 10) = false := beq_eq_false_iff_ne.mpr h10
        by_cases h13 : rn = 13
        · subst h13
          go_wp2_with (go_at_call 18; fail)
          refine (Builder_WriteByte_k w.heap.size w.heap.size (Lib.byteCells acc) 10 _ HQ.out.1 (by have := HQ.out.2.2.2.2.2.2.1; have := HQ.out.2.2.2.2.2.2.2.2.2.1; have := HMS.out; rw [Lib.byteCells_length]; omega) HQ.out.2.2.2.1).mono ?_
          rintro e W1 ⟨rfl, h1, b1, k1⟩
          have HW := Aside0.mk (And.intro h1 (And.intro b1 k1))
          clear h1 b1 k1
          go_wp2
          go_roundw
          case rel =>
            obtain ⟨q1, q2, q3, q4, q5, q6, q7, q8, q9, q10, q11, q12⟩ := HQ.out
            obtain ⟨h1, b1, k1⟩ := HW.out
            refine ⟨np, f, _, acc ++ [10], rfl, ⟨?_, k1.iter q2 hne, q3.trans b1, ?_, by omega, ?_⟩⟩
            · rw [Lib.byteCells_append]; first | exact Or.inr h1 | (rw [Lib.byteCells_encodeRune]; exact Or.inr h1)
            · have e1 : decOne 13 st = [10] := by unfold decOne; simp [*]
              rw [← q5, List.append_assoc, e1]
            · have := Lib.runeCells_le 10; rw [Lib.runeCells_length] at this; rw [List.length_append]; first | omega | (simp; omega)
          case measure =>
            obtain ⟨q1, q2, q3, q4, q5, q6, q7, q8, q9, q10, q11, q12⟩ := HQ.out
            have k1 := HW.out.2.2
            rw [q9]
            simp only [World.iterPos, k1.iter q2 hne]
            omega
        · have b13 : (rn == 13) = false := beq_eq_false_iff_ne.mpr h13
          go_wp2_with (go_at_call 19; fail)
          refine (Builder_WriteRune_k w.heap.size w.heap.size (Lib.byteCells acc) rn (by have := HQ.out.2.2.2.2.2.2.2.2.2.2.1; omega) (by have := HQ.out.2.2.2.2.2.2.2.2.2.2.2; omega) _ HQ.out.1 (by have := HQ.out.2.2.2.2.2.2.1; have := HQ.out.2.2.2.2.2.2.2.2.2.1; have := HMS.out; rw [Lib.byteCells_length]; omega) HQ.out.2.2.2.1).mono ?_
          rintro e W1 ⟨rfl, h1, b1, k1⟩
          have HW := Aside0.mk (And.intro h1 (And.intro b1 k1))
          clear h1 b1 k1
          go_wp2
          go_roundw
          case rel =>
            obtain ⟨q1, q2, q3, q4, q5, q6, q7, q8, q9, q10, q11, q12⟩ := HQ.out
            obtain ⟨h1, b1, k1⟩ := HW.out
            refine ⟨np, f, _, acc ++ Lib.encodeRune rn, rfl, ⟨?_, k1.iter q2 hne, q3.trans b1, ?_, by omega, ?_⟩⟩
            · rw [Lib.byteCells_append]; first | exact Or.inr h1 | (rw [Lib.byteCells_encodeRune]; exact Or.inr h1)
            · have e1 : decOne rn st = Lib.encodeRune rn := by unfold decOne; simp [*]
              rw [← q5, List.append_assoc, e1]
            · have := Lib.runeCells_le rn; rw [Lib.runeCells_length] at this; rw [List.length_append]; first | omega | (simp; omega)
          case measure =>
            obtain ⟨q1, q2, q3, q4, q5, q6, q7, q8, q9, q10, q11, q12⟩ := HQ.out
            have k1 := HW.out.2.2
            rw [q9]
            simp only [World.iterPos, k1.iter q2 hne]
            omega
    · have hnx : ∀ ty, (Instr.next (.pointer (some ⟨w1.heap.size, 0, none⟩)) true ty).run Try.prog wr = _ := fun ty => Lib.run_next_end_at wr w1.heap.size m pos ty hit hp
      rw [decF_end m fuel pos st hp, List.append_nil] at hacc
      have HQ := Aside0.mk (And.intro hI (And.intro hbw hacc))
      clear hI hit hbw hacc hfu hal HS hp
      go_wp2_with (go_at_call 20; fail)
      refine (Builder_String_any_k w.heap.size w.heap.size acc _ HQ.out.1 HQ.out.2.1.size).mono ?_
      rintro e W1 ⟨rfl, _, b1, _⟩
      go_wp2
      refine bodyPost_ret (results_tmp2 rfl _ _ _) rfl ?_
      have e1 : decV l0 = ⟨acc.toArray⟩ := by unfold decV; rw [HDM.out, ← HQ.out.2.2]
      refine ⟨?_, HQ.out.2.1.trans b1⟩
      rw [e1]
      rfl
def utf_Decode.f (l0 : List Int) : Option (ByteArray × Int) := some (if l0.length ≤ 65536 then (decV l0, 0) else (⟨#[]⟩, 3))
set_option maxHeartbeats 4000000 in
set_option maxRecDepth 100000 in
theorem utf_Decode.calls (A0 : Option Addr) (c0 : Nat) (l0 : List Int) (r1 : ByteArray) (r2 : Int) (w : World) (hr0 : Kd.C (Kd.int .u8) w A0 l0.length l0) (hc0 : l0.length ≤ c0) (h : utf_Decode.f l0 = some (r1, r2)) :
    Calls Try.prog 10 #[.slice A0 l0.length c0] w fun e w' => e = .returned (.tuple #[.string r1, .int .i64 r2]) ∧ Below w.heap.size w w' := by
  unfold utf_Decode.f at h
  injection h with h
  by_cases hl : l0.length ≤ 65536
  · rw [if_pos hl] at h
    injection h with h1 h2
    subst h1
    subst h2
    exact decode_c A0 c0 l0 w hr0 hl
  · rw [if_neg hl] at h
    injection h with h1 h2
    subst h1
    subst h2
    have b0 : decide (65536 < (l0.length : Int)) = true := decide_eq_true (by omega)
    clear hr0 hc0 hl
    go_enter Try.func10, Try.ntmps10
    go_wp2
    refine bodyPost_ret (results_tmp2 rfl _ _ _) rfl ?_
    exact ⟨rfl, Below.refl _ _⟩

/-! ### utf.Runes -/
def runF (s : ByteArray) : Nat → Nat → List Int
  | 0, _ => []
  | f + 1, pos => if pos < s.size then ((Utf8.decode s pos).1 : Int) :: runF s f (pos + (Utf8.decode s pos).2) else []
theorem runF_end (s : ByteArray) (f pos : Nat) (h : ¬ pos < s.size) : runF s f pos = [] := by
  cases f with
  | zero => rfl
  | succ f => simp [runF, h]
def runV (s : ByteArray) : List Int := runF ⟨(mend s.size s).toArray⟩ (mend s.size s).length 0
theorem R_iter {W W' : World} {base : Nat} {ok : Nat → Prop} {v : Value} {xs : List Int} {k : Nat} {s : ByteArray} {p : Nat} (h : Kd.R (Kd.int .i32) 21 W base ok v xs) (hg : W.grownBy W' (some k)) (hk : W.heap[k]? = some (.stringIter s p)) : Kd.R (Kd.int .i32) 21 W' base ok v xs := by
  refine Kd.R_grown2 h rfl hg (fun j e e2 => ?_)
  injection e with e
  subst e
  obtain ⟨inner, hown⟩ := Kd.R_own h
  obtain ⟨cells, hcs⟩ := own_typed hown _ e2.symm
  rw [hk] at hcs
  cases hcs
theorem grownBy_iterAt (W : World) (k : Nat) (s : ByteArray) (p : Nat) : W.grownBy (W.iterAt k s p) (some k) :=
  ⟨rfl, rfl, rfl, by rw [Lib.iterAt_size]; exact Nat.le_refl _, fun i hi hne => Lib.iterAt_other W k i s p (fun e => hne (by rw [e]))⟩
def RunS (w : World) (s : ByteArray) (pos fuel : Nat) (v : Value) (it : Nat) (W : World) : Prop := ∃ xs : List Int, Kd.R (Kd.int .i32) 21 W w.heap.size (fun _ => True) v xs ∧ W.heap[it]? = some (.stringIter s pos) ∧ Below w.heap.size w W ∧ xs ++ runF s fuel pos = runF s s.size 0 ∧ s.size ≤ pos + fuel ∧ xs.length ≤ pos
def RunPost (w : World) (r : List Int) (e : Ending) (w' : World) : Prop := ∃ v0_ : Value, e = .returned v0_ ∧ Kd.R (Kd.int .i32) 21 w' w.heap.size (fun _ => True) v0_ r ∧ Below w.heap.size w w'
set_option maxHeartbeats 8000000 in
set_option maxRecDepth 1000000 in
theorem runes_c (s : ByteArray) (w : World) (hs : s.size ≤ 1099511627776) : Calls Try.prog 13 #[.string s] w (RunPost w (runV s)) := by
  have MC := mended_c s w (by omega)
  have hml := mend_len s.size s
  go_enter Try.func13, Try.ntmps13
  go_wp2_with (go_at_call 17; fail)
  refine MC.mono ?_
  rintro e w1 ⟨rfl, hB⟩
  have HB := Aside0.mk hB
  have HV := Aside0.mk (show runV s = runF ⟨(mend s.size s).toArray⟩ (mend s.size s).length 0 from rfl)
  have hz : (⟨(mend s.size s).toArray⟩ : ByteArray).size = (mend s.size s).length := by
    generalize mend s.size s = q
    simp [ByteArray.size]
  rw [← hz] at HV hml
  generalize (⟨(mend s.size s).toArray⟩ : ByteArray) = m at HV hml
  have HMS := Aside0.mk (show m.size ≤ 3298534883328 by omega)
  clear hB hz hml hs MC
  go_wp2
  go_loopw [3] (fun v3 wr => ∃ pos fuel : Nat, Aside0 (RunS w m pos fuel v3 w1.heap.size wr)) (fun _ wr => m.size - wr.iterPos w1.heap.size)
  case atStart =>
    refine ⟨0, m.size, ⟨[], Kd.R_nil _ _ _ _ _, ?_, below_alloc HB.out _, rfl, by omega, by simp⟩⟩
    have := World.iter_heap w1 m 0
    simpa using this
  case round =>
    obtain ⟨pos, fuel, HS⟩ := hrel
    obtain ⟨xs, h1, h2, h3, h4, h5, h6⟩ := HS.out
    have hit := h2
    have hws : w.heap.size ≤ w1.heap.size := HB.out.size
    by_cases hp : pos < m.size
    · have hnx : ∀ ty, (Instr.next (.pointer (some ⟨w1.heap.size, 0, none⟩)) true ty).run Try.prog wr = _ := fun ty => Lib.run_next_any_at wr w1.heap.size m pos ty hit hp
      have hwd := width_pos m pos hp
      obtain ⟨f, rfl⟩ : ∃ f, fuel = f + 1 := ⟨fuel - 1, by omega⟩
      have hgi := grownBy_iterAt wr w1.heap.size m (pos + (Utf8.decode m pos).2)
      have q1 := R_iter h1 hgi hit
      have q2 := Lib.iterAt_heap wr w1.heap.size m pos (pos + (Utf8.decode m pos).2) hit
      have q3 := Lib.below_iterAt h3 (k := w1.heap.size) hws m (pos + (Utf8.decode m pos).2)
      rw [runF, if_pos hp] at h4
      have hpos : wr.iterPos w1.heap.size = pos := by simp [World.iterPos, hit]
      obtain ⟨Wn, hWn⟩ : ∃ Wn, Wn = wr.iterAt w1.heap.size m (pos + (Utf8.decode m pos).2) := ⟨_, rfl⟩
      rw [← hWn] at q1 q2 q3 hnx
      obtain ⟨rn, hrn⟩ : ∃ rn : Int, ((Utf8.decode m pos).1 : Int) = rn := ⟨_, rfl⟩
      rw [hrn] at h4 hnx
      obtain ⟨np, hnp⟩ : ∃ np, pos + (Utf8.decode m pos).2 = np := ⟨_, rfl⟩
      rw [hnp] at q2 h4
      have hnp1 : pos + 1 ≤ np := by omega
      have Q := Aside0.mk (And.intro q1 (And.intro q2 (And.intro q3 (And.intro h4 (And.intro h5 (And.intro h6 (And.intro hnp1 (And.intro hp hpos))))))))
      clear h1 h2 h3 h4 h5 h6 hit HS hgi q1 q2 q3 hwd hWn hrn hnp hpos
      go_wp2_with ((with_reducible refine gate_builtin (b := .append) (xs := #[.tmp 12, .tmp 14]) rfl ?_); at_builtin; refine Kd.R_append (Kd.int .i32) (w0 := w) w.heap.size rfl (.tmp 12) (.tmp 14) 28 21 (.int .i32 0) 4 rfl Try.underlying28 info21 rfl (by decide) (by omega) u3 xs rn [.int .i32 rn] (fun _ => True) (fun _ => False) rfl rfl ?aP (fun _ hk => hk.elim) ?aF ?aO ?aB ?aS ?aL ?_; (case aP => exact rfl); (case aB => exact Q.out.2.2.1); (case aF => exact (fun _ _ => trivial)); (case aO => exact Q.out.1); (case aS => exact Q.out.2.2.1.size); (case aL => have := HMS.out; have := Q.out.2.2.2.2.2.1; have := Q.out.2.2.2.2.2.2.2.1; omega); intro v150 w10 ho hb hg hat; have HN := Aside0.mk (And.intro ho (And.intro hb hg)); clear ho hb hg hat)
      go_roundw
      case rel =>
        refine ⟨np, f, ⟨xs ++ [rn], HN.out.1, ?_, HN.out.2.1, ?_, ?_, ?_⟩⟩
        · refine (HN.out.2.2.block _ (Array.getElem?_eq_some_iff.1 Q.out.2.1).1 (fun e => ?_)).trans Q.out.2.1
          obtain ⟨inner, hown⟩ := Kd.R_own Q.out.1
          obtain ⟨cells, hcs⟩ := own_typed hown _ e.symm
          rw [Q.out.2.1] at hcs
          cases hcs
        · have := Q.out.2.2.2.1
          simpa using this
        · have := Q.out.2.2.2.2.1
          have := Q.out.2.2.2.2.2.2.1
          omega
        · have := Q.out.2.2.2.2.2.1
          have := Q.out.2.2.2.2.2.2.1
          simp
          omega
      case measure =>
        have h1 := Q.out.2.2.2.2.2.2.2.2
        have h2 := Q.out.2.2.2.2.2.2.1
        have h3 : w10.heap[w1.heap.size]? = some (.stringIter m np) := by
          refine (HN.out.2.2.block _ (Array.getElem?_eq_some_iff.1 Q.out.2.1).1 (fun e => ?_)).trans Q.out.2.1
          obtain ⟨inner, hown⟩ := Kd.R_own Q.out.1
          obtain ⟨cells, hcs⟩ := own_typed hown _ e.symm
          rw [Q.out.2.1] at hcs
          cases hcs
        have h4 : w10.iterPos w1.heap.size = np := by simp [World.iterPos, h3]
        have h5 := Q.out.2.2.2.2.2.2.2.1
        rw [h1, h4]
        omega
    · have hnx : ∀ ty, (Instr.next (.pointer (some ⟨w1.heap.size, 0, none⟩)) true ty).run Try.prog wr = _ := fun ty => Lib.run_next_end_at wr w1.heap.size m pos ty hit hp
      rw [runF_end m fuel pos hp, List.append_nil] at h4
      have Q := Aside0.mk (And.intro h1 (And.intro h3 h4))
      clear h1 h2 h3 h4 h5 h6 hit HS
      go_wp2
      go_ret
      exact ⟨_, rfl, by rw [HV.out, ← Q.out.2.2]; exact Q.out.1, Q.out.2.1⟩
def utf_Runes.f (s : ByteArray) : Option (List Int) := if s.size ≤ 1099511627776 then some (runV s) else none
theorem utf_Runes.calls (s : ByteArray) (r : List Int) (w : World) (h : utf_Runes.f s = some r) :
    Calls Try.prog 13 #[.string s] w fun e w' => ∃ v0_ : Value, e = .returned v0_ ∧ Kd.R (Kd.int .i32) 21 w' w.heap.size (fun _ => True) v0_ r ∧ Below w.heap.size w w' := by
  unfold utf_Runes.f at h
  by_cases hl : s.size ≤ 1099511627776
  · rw [if_pos hl] at h
    injection h with h
    subst h
    exact runes_c s w hl
  · rw [if_neg hl] at h
    cases h
end Go.Proofs.Ytdmkbaebcopjfaa.X
