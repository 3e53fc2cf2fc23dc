import Derived.Test.YthckihfkhmoafaaT2
import Derived.Lib.OthersKept
namespace Go.Proofs.Ythckihfkhmoafaa.X
open Go.RowKit Go.Proofs.YthckihfkhmoafaaW.PrintWords Go.Proofs.YthckihfkhmoafaaW.PrintLast Go.Proofs.YthckihfkhmoafaaW.PrintMore
attribute [local go_sem] max2_int min2_int max_two min_two max_three min_three max_four min_four   -- for this text's walks alone
set_option linter.unusedVariables false
set_option linter.unusedSimpArgs false

/-- The items of a text, from a place on: plain Lean over the model's own decoding. -/
def brItems (s : ByteArray) (wd : Int) : Nat → Nat → List S36
  | 0, _ => []
  | fuel + 1, pos => if pos < s.size then ⟨(Utf8.decode s pos).1, wd, 0, 0⟩ :: brItems s wd fuel (pos + (Utf8.decode s pos).2) else []
theorem brItems_end (s : ByteArray) (wd : Int) (fuel pos : Nat) (h : ¬ pos < s.size) : brItems s wd fuel pos = [] := by
  cases fuel with
  | zero => rfl
  | succ f => simp [brItems, h]
theorem width_pos (s : ByteArray) (pos : Nat) (h : pos < s.size) : 1 ≤ (Utf8.decode s pos).2 := by
  by_cases ha : (s[pos]'h).toNat < 128
  · rw [decode_ascii s pos h ha]
    exact Nat.le_refl _
  · exact (decode_high s pos h (by omega)).2
theorem grownBy_iterAt (W : World) (k : Nat) (s : ByteArray) (p : Nat) : W.grownBy (W.iterAt k s p) (some k) :=
  ⟨rfl, rfl, rfl, by rw [Lib.iterAt_size]; exact Nat.le_refl _, fun i hi hne => Lib.iterAt_other W k i s p (fun e => hne (by rw [e]))⟩
theorem R36_from {W W' : World} {base : Nat} {ok : Nat → Prop} {v : Value} {xs : List S36} {k : Nat} {s : ByteArray} {p : Nat} (h : Kd.R k36 36 W base ok v xs) (hg : W.grownBy W' (some k)) (hk : W.heap[k]? = some (.stringIter s p)) : Kd.R k36 36 W' base ok v xs := by
  refine Kd.R_grown2 h rfl hg (fun j e e2 => ?_)
  injection e with e
  subst e
  obtain ⟨inner, hown⟩ := Kd.R_own h
  obtain ⟨cells, hcs⟩ := own_typed hown _ e2.symm
  rw [hk] at hcs
  cases hcs
/-- The items under way. -/
def ItS (w : World) (s : ByteArray) (wd : Int) (pos fuel : Nat) (v : Value) (W : World) : Prop := ∃ xs : List S36, Kd.R k36 36 W w.heap.size (fun _ => True) v xs ∧ W.heap[w.heap.size]? = some (.stringIter s pos) ∧ Below w.heap.size w W ∧ xs ++ brItems s wd fuel pos = brItems s wd s.size 0 ∧ s.size ≤ pos + fuel ∧ xs.length ≤ pos
def ResI (w : World) (r : List S36) (e : Ending) (w' : World) : Prop := ∃ v0_ : Value, e = .returned v0_ ∧ Kd.R k36 36 w' w.heap.size (fun _ => True) v0_ r ∧ Below w.heap.size w w'
set_option maxHeartbeats 4000000 in
set_option maxRecDepth 1000000 in
theorem items_c (s : ByteArray) (wd : Int) (w : World) (hs : s.size ≤ 1099511627776) : Calls Try.prog 20 #[.string s, .int .i64 wd] w (ResI w (brItems s wd s.size 0)) := by
  have hu := Try.underlying36
  have HLS := Aside0.mk hs
  clear hs
  go_enter Try.func20, Try.ntmps20
  go_wp2
  go_loopw [5] (fun v5 wr => ∃ pos fuel : Nat, Aside0 (ItS w s wd pos fuel v5 wr)) (fun _ wr => s.size - wr.iterPos w.heap.size)
  case atStart =>
    refine ⟨0, s.size, ⟨[], Kd.R_nil _ _ _ _ _, ?_, (Below.refl _ w).alloc (Nat.le_refl _) _, rfl, by omega, by simp⟩⟩
    have := World.iter_heap w s 0
    simpa using this
  case round =>
    obtain ⟨pos, fuel, HI⟩ := hrel
    obtain ⟨xs, h1, h2, h3, h4, h5, h6⟩ := HI.out
    have hit := h2
    by_cases hp : pos < s.size
    · have hnx : ∀ ty, (Instr.next (.pointer (some ⟨w.heap.size, 0, none⟩)) true ty).run Try.prog wr = _ := fun ty => Lib.run_next_any_at wr w.heap.size s pos ty hit hp
      have hwd := width_pos s pos hp
      obtain ⟨f, rfl⟩ : ∃ f, fuel = f + 1 := ⟨fuel - 1, by omega⟩
      have hgi := grownBy_iterAt wr w.heap.size s (pos + (Utf8.decode s pos).2)
      have q1 := R36_from h1 hgi hit
      have q2 := Lib.iterAt_heap wr w.heap.size s pos (pos + (Utf8.decode s pos).2) hit
      have q3 := Lib.below_iterAt h3 (k := w.heap.size) (Nat.le_refl _) s (pos + (Utf8.decode s pos).2)
      rw [brItems, if_pos hp] at h4
      have hpos : wr.iterPos w.heap.size = pos := by simp [World.iterPos, hit]
      obtain ⟨Wn, hWn⟩ : ∃ Wn, Wn = wr.iterAt w.heap.size s (pos + (Utf8.decode s pos).2) := ⟨_, rfl⟩
      rw [← hWn] at q1 q2 q3 hnx
      obtain ⟨rn, hrn⟩ : ∃ rn : Int, ((Utf8.decode s pos).1 : Int) = rn := ⟨_, rfl⟩
      rw [hrn] at h4 hnx
      obtain ⟨np, hnp⟩ : ∃ np, pos + (Utf8.decode s pos).2 = np := ⟨_, rfl⟩
      rw [hnp] at q2 h4
      have hnp1 : pos + 1 ≤ np := by omega
      have Q := Aside0.mk (And.intro q1 (And.intro q2 (And.intro q3 (And.intro h4 (And.intro h5 (And.intro h6 (And.intro hnp1 (And.intro hp hpos))))))))
      clear h1 h2 h3 h4 h5 h6 hit HI hgi q1 q2 q3 hwd hWn hrn hnp hpos
      go_wp2_with ((with_reducible refine gate_builtin (b := .append) (xs := #[.tmp 13, .tmp 17]) rfl ?_); at_builtin; refine Kd.R_append k36 (w0 := w) w.heap.size rfl (.tmp 13) (.tmp 17) 22 36 (.agg #[(.int .i32 0), (.int .i64 0), (.int .i64 0), (.int .i64 0)]) 32 rfl Try.underlying22 info36 rfl (by decide) (by omega) u5 xs (⟨rn, wd, 0, 0⟩ : S36) [.int .i32 rn, .int .i64 wd, .int .i64 0, .int .i64 0] (fun _ => True) (fun _ => False) rfl rfl ?aP (fun _ hk => hk.elim) ?aF ?aO ?aB ?aS ?aL ?_; (case aP => exact k36_mkM _ _ _ ⟨rn, wd, 0, 0⟩); (case aB => exact Q.out.2.2.1); (case aF => exact (fun _ _ => trivial)); (case aO => exact Q.out.1); (case aS => exact Q.out.2.2.1.size); (case aL => have := HLS.out; have := Q.out.2.2.2.2.2.1; have := Q.out.2.2.2.2.2.2.2.1; omega); intro v150 w10 ho hb hg hat; have HN := Aside0.mk (And.intro ho (And.intro hb hg)); clear ho hb hg hat)
      go_roundw
      case rel =>
        refine ⟨np, f, ⟨xs ++ [⟨rn, wd, 0, 0⟩], HN.out.1, ?_, HN.out.2.1, ?_, ?_, ?_⟩⟩
        · refine (HN.out.2.2.block _ (Array.getElem?_eq_some_iff.1 Q.out.2.1).1 (fun e => ?_)).trans Q.out.2.1
          obtain ⟨inner, hown⟩ := Kd.R_own Q.out.1
          obtain ⟨cells, hcs⟩ := own_typed hown _ e.symm
          rw [Q.out.2.1] at hcs
          cases hcs
        · have := Q.out.2.2.2.1
          simpa using this
        · have := Q.out.2.2.2.2.1
          have := Q.out.2.2.2.2.2.2.1
          omega
        · have := Q.out.2.2.2.2.2.1
          have := Q.out.2.2.2.2.2.2.1
          simp
          omega
      case measure =>
        have h1 := Q.out.2.2.2.2.2.2.2.2
        have h2 := Q.out.2.2.2.2.2.2.1
        have h3 : w10.heap[w.heap.size]? = some (.stringIter s np) := by
          refine (HN.out.2.2.block _ (Array.getElem?_eq_some_iff.1 Q.out.2.1).1 (fun e => ?_)).trans Q.out.2.1
          obtain ⟨inner, hown⟩ := Kd.R_own Q.out.1
          obtain ⟨cells, hcs⟩ := own_typed hown _ e.symm
          rw [Q.out.2.1] at hcs
          cases hcs
        have h4 : w10.iterPos w.heap.size = np := by simp [World.iterPos, h3]
        have h5 := Q.out.2.2.2.2.2.2.2.1
        rw [h1, h4]
        omega
    · have hnx : ∀ ty, (Instr.next (.pointer (some ⟨w.heap.size, 0, none⟩)) true ty).run Try.prog wr = _ := fun ty => Lib.run_next_end_at wr w.heap.size s pos ty hit hp
      rw [brItems_end s wd fuel pos hp, List.append_nil] at h4
      have Q := Aside0.mk (And.intro h1 (And.intro h3 h4))
      clear h1 h2 h3 h4 h5 h6 hit HI
      go_wp2
      go_ret
      exact ⟨_, rfl, Q.out.2.2 ▸ Q.out.1, Q.out.2.1⟩
def selvedgelaw21_items.f (s : ByteArray) (a1 : Int) : Option (List S36) := if s.size ≤ 1099511627776 then some (brItems s a1 s.size 0) else none
theorem selvedgelaw21_items.calls (s : ByteArray) (a1 : Int) (r : List S36) (w : World) (h : selvedgelaw21_items.f s a1 = some r) :
    Calls Try.prog 20 #[.string s, .int .i64 a1] w fun e w' => ∃ v0_ : Value, e = .returned v0_ ∧ Kd.R k36 36 w' w.heap.size (fun _ => True) v0_ r ∧ Below w.heap.size w w' := by
  unfold selvedgelaw21_items.f at h
  by_cases hl : s.size ≤ 1099511627776
  · rw [if_pos hl] at h
    injection h with h
    subst h
    exact items_c s a1 w hl
  · rw [if_neg hl] at h
    cases h
end Go.Proofs.Ythckihfkhmoafaa.X
