import Derived.Test.YtiogpnefnapfeaaDoorB
import Derived.Shelf.SlSortCmp.WholeK
/-! Chapter 17: the pairs, sorted by their opening brackets. -/
namespace Go.Proofs.YtiogpnefnapfeaaDoor.Pure
set_option linter.unusedVariables false
set_option linter.unusedSimpArgs false
/-- A pair whose opening place is no great number. -/
abbrev SP := { x : Int × Int // 0 ≤ x.1 ∧ x.1 < 4611686018427387904 }
instance : Inhabited SP := ⟨⟨(0, 0), by decide⟩⟩
def cmpS (x y : SP) : Int := x.1.1 - y.1.1
def encS (x : SP) : List Value := [.int .i64 x.1.1, .int .i64 x.1.2]
theorem ltS (x y : SP) : ltOf cmpS x y = decide (x.1.1 < y.1.1) := by
  unfold ltOf cmpS
  by_cases h : x.1.1 < y.1.1
  · rw [decide_eq_true h, decide_eq_true (by omega)]
  · rw [decide_eq_false h, decide_eq_false (by omega)]
theorem swoS : Go.Sort.SWO (ltOf cmpS) where
  irrefl x := by rw [ltS]; simp
  trans x y z h1 h2 := by rw [ltS] at *; simp at *; omega
  ntrans x y z h1 h2 := by rw [ltS] at *; simp at *; omega
theorem extract_all (d : Array SP) : (d.extract 0 d.size).toList = d.toList := by simp
theorem sorted_pairs {l now : List Int} {d d' : Array SP} (hd : d.toList.map (·.1) = goF l now) (hp : Go.Sort.PermIn 0 d.size d d') (hs : Go.Sort.SortedIn (ltOf cmpS) 0 d.size d') : d'.toList.map (·.1) = pairsF l now := by
  obtain ⟨h1, _, h3⟩ := hp
  rw [← h1, extract_all, h1, extract_all] at h3
  have hm : (d'.toList.map (·.1)).Perm (goF l now) := by rw [← hd]; exact h3.map _
  have hne : (d'.toList.map (·.1)).Pairwise (fun p q => p.1 ≠ q.1) := (hm.pairwise_iff (fun h e => h e.symm)).2 (goF_ne l now)
  refine inc_same _ _ ?_ (pairsF_inc l now) (fun p => by rw [mem_pairsF]; exact hm.mem_iff)
  rw [List.pairwise_iff_getElem] at hne ⊢
  intro i j hi hj hij
  have hn := hne i j hi hj hij
  rw [List.length_map, Array.length_toList] at hi hj
  have z := hs i j (Nat.zero_le _) hij (by omega)
  rw [ltS, getElem!_pos d' i hi, getElem!_pos d' j hj] at z
  simp only [List.getElem_map, Array.getElem_toList] at hn ⊢
  have := of_decide_eq_false z
  omega
theorem go_len (l now : List Int) : ∀ (m i : Nat) (st : List (Int × Int)), (go l now m i st).length ≤ m := by
  intro m
  induction m with
  | zero => intro i st; exact Nat.le_refl _
  | succ m ih =>
    intro i st
    unfold go
    split
    · exact Nat.le_succ_of_le (ih _ _)
    · split
      · split
        · exact Nat.zero_le _
        · exact Nat.le_succ_of_le (ih _ _)
      · split
        · exact Nat.le_succ_of_le (ih _ _)
        · rw [List.length_cons]; exact Nat.succ_le_succ (ih _ _)
theorem goF_len (l now : List Int) : (goF l now).length ≤ l.length := Nat.le_trans (go_len _ _ _ _ _) (Nat.min_le_left _ _)
theorem scanF_len : ∀ (cs : List Int) (i : Nat), (scanF cs i).length ≤ cs.length := by
  intro cs
  induction cs with
  | nil => intro i; exact Nat.le_refl _
  | cons c cs ih =>
    intro i
    unfold scanF
    split
    · exact Nat.succ_le_succ (ih _)
    · exact Nat.le_succ_of_le (ih _)
theorem pairsF_len (l now : List Int) : (pairsF l now).length ≤ l.length := by
  have := scanF_len (putF (List.replicate l.length 0) (goF l now)) 0
  rw [putF_len, List.length_replicate] at this
  exact this
end Go.Proofs.YtiogpnefnapfeaaDoor.Pure
