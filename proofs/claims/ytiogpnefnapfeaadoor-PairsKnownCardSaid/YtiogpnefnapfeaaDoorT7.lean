import Derived.Test.YtiogpnefnapfeaaDoorX0
import Derived.Test.YtiogpnefnapfeaaDoorC
import Derived.Shelf.SlSortCmp.WholeK
import Derived.BigCall
/-! slices.SortFunc over the pairs: by the library's own proofs, laid at this program. -/
namespace Go.Proofs.YtiogpnefnapfeaaDoor.X
open Go.Shelf Go.RowKit Go.Lib Go.Sort Go.Proofs.YtiogpnefnapfeaaDoorW.PrintWords Go.Proofs.YtiogpnefnapfeaaDoorW.PrintLast Go.Proofs.YtiogpnefnapfeaaDoorW.PrintMore Go.Proofs.YtiogpnefnapfeaaDoor.Pure
set_option linter.unusedVariables false
set_option linter.unusedSimpArgs false
def sren : Go.Shelf.Ren := ⟨fun | 6 => 19 | 15 => 31 | 14 => 30 | 28 => 41 | 29 => 42 | 20 => 33 | 21 => 34 | 22 => 35 | 23 => 36 | 24 => 37 | 25 => 38 | 26 => 39 | 27 => 40 | 46 => 43 | 47 => 44 | 48 => 45 | 49 => 46 | 50 => 47 | 57 => 48 | n => n, fun | 22 => 25 | 24 => 30 | 25 => 49 | 3 => 3 | 39 => 71 | 0 => 0 | 53 => 85 | 55 => 87 | 4 => 4 | 46 => 78 | 45 => 77 | 50 => 82 | 5 => 5 | 9 => 9 | 66 => 88 | 70 => 92 | 76 => 94 | 77 => 95 | n => n, fun | n => n⟩
theorem sortLays : Go.Proofs.SlLaysF0.n6 Tryd.prog sren := {
  mixed := by kernel_rfl
  f6 := ⟨"slices.SortFunc[[]selvedge/pairs.Pair,selvedge/pairs.Pair]", of_decide_eq_true (by kernel_rfl), Tryd.func19.trans (congrArg some (by kernel_rfl))⟩
  f14 := ⟨"slices.pdqsortCmpFunc[selvedge/pairs.Pair]", of_decide_eq_true (by kernel_rfl), Tryd.func30.trans (congrArg some (by kernel_rfl))⟩
  f15 := Tryd.func31.trans (congrArg some (by kernel_rfl))
  f20 := ⟨"slices.insertionSortCmpFunc[selvedge/pairs.Pair]", of_decide_eq_true (by kernel_rfl), Tryd.func33.trans (congrArg some (by kernel_rfl))⟩
  f21 := ⟨"slices.heapSortCmpFunc[selvedge/pairs.Pair]", of_decide_eq_true (by kernel_rfl), Tryd.func34.trans (congrArg some (by kernel_rfl))⟩
  f22 := ⟨"slices.breakPatternsCmpFunc[selvedge/pairs.Pair]", of_decide_eq_true (by kernel_rfl), Tryd.func35.trans (congrArg some (by kernel_rfl))⟩
  f23 := ⟨"slices.choosePivotCmpFunc[selvedge/pairs.Pair]", of_decide_eq_true (by kernel_rfl), Tryd.func36.trans (congrArg some (by kernel_rfl))⟩
  f24 := ⟨"slices.reverseRangeCmpFunc[selvedge/pairs.Pair]", of_decide_eq_true (by kernel_rfl), Tryd.func37.trans (congrArg some (by kernel_rfl))⟩
  f25 := ⟨"slices.partialInsertionSortCmpFunc[selvedge/pairs.Pair]", of_decide_eq_true (by kernel_rfl), Tryd.func38.trans (congrArg some (by kernel_rfl))⟩
  f26 := ⟨"slices.partitionEqualCmpFunc[selvedge/pairs.Pair]", of_decide_eq_true (by kernel_rfl), Tryd.func39.trans (congrArg some (by kernel_rfl))⟩
  f27 := ⟨"slices.partitionCmpFunc[selvedge/pairs.Pair]", of_decide_eq_true (by kernel_rfl), Tryd.func40.trans (congrArg some (by kernel_rfl))⟩
  f28 := Tryd.func41.trans (congrArg some (by kernel_rfl))
  f29 := Tryd.func42.trans (congrArg some (by kernel_rfl))
  f46 := ⟨"slices.siftDownCmpFunc[selvedge/pairs.Pair]", of_decide_eq_true (by kernel_rfl), Tryd.func43.trans (congrArg some (by kernel_rfl))⟩
  f47 := Tryd.func44.trans (congrArg some (by kernel_rfl))
  f48 := Tryd.func45.trans (congrArg some (by kernel_rfl))
  f49 := ⟨"slices.medianAdjacentCmpFunc[selvedge/pairs.Pair]", of_decide_eq_true (by kernel_rfl), Tryd.func46.trans (congrArg some (by kernel_rfl))⟩
  f50 := ⟨"slices.medianCmpFunc[selvedge/pairs.Pair]", of_decide_eq_true (by kernel_rfl), Tryd.func47.trans (congrArg some (by kernel_rfl))⟩
  f57 := ⟨"slices.order2CmpFunc[selvedge/pairs.Pair]", of_decide_eq_true (by kernel_rfl), Tryd.func48.trans (congrArg some (by kernel_rfl))⟩
  t0 := Tryd.underlying0
  a0 := Tryd.isAgg0
  z0 := Tryd.sizeOf0
  v0 := Tryd.zeroValue0
  t3 := Tryd.underlying3
  a3 := Tryd.isAgg3
  z3 := Tryd.sizeOf3
  v3 := Tryd.zeroValue3
  t4 := Tryd.underlying4
  a4 := Tryd.isAgg4
  z4 := Tryd.sizeOf4
  v4 := Tryd.zeroValue4
  t5 := Tryd.underlying5
  a5 := Tryd.isAgg5
  z5 := Tryd.sizeOf5
  v5 := Tryd.zeroValue5
  t9 := Tryd.underlying9
  a9 := Tryd.isAgg9
  z9 := Tryd.sizeOf9
  v9 := Tryd.zeroValue9
  t22 := Tryd.underlying25
  a22 := Tryd.isAgg25
  z22 := Tryd.sizeOf25
  v22 := Tryd.zeroValue25
  t25 := Tryd.underlying49
  a25 := Tryd.isAgg49
  z25 := Tryd.sizeOf49
  v25 := Tryd.zeroValue49
  t39 := Tryd.underlying71
  a39 := Tryd.isAgg71
  z39 := Tryd.sizeOf71
  v39 := Tryd.zeroValue71
  t45 := Tryd.underlying77
  a45 := Tryd.isAgg77
  z45 := Tryd.sizeOf77
  v45 := Tryd.zeroValue77
  t46 := Tryd.underlying78
  a46 := Tryd.isAgg78
  z46 := Tryd.sizeOf78
  v46 := Tryd.zeroValue78
  t50 := Tryd.underlying82
  a50 := Tryd.isAgg82
  z50 := Tryd.sizeOf82
  v50 := Tryd.zeroValue82
  t53 := Tryd.underlying85
  a53 := Tryd.isAgg85
  z53 := Tryd.sizeOf85
  v53 := Tryd.zeroValue85
  t55 := Tryd.underlying87
  a55 := Tryd.isAgg87
  z55 := Tryd.sizeOf87
  v55 := Tryd.zeroValue87
  t66 := Tryd.underlying88
  a66 := Tryd.isAgg88
  z66 := Tryd.sizeOf88
  v66 := Tryd.zeroValue88
  t70 := Tryd.underlying92
  a70 := Tryd.isAgg92
  z70 := Tryd.sizeOf92
  v70 := Tryd.zeroValue92
  t76 := Tryd.underlying94
  a76 := Tryd.isAgg94
  z76 := Tryd.sizeOf94
  v76 := Tryd.zeroValue94
  t77 := Tryd.underlying95
  a77 := Tryd.isAgg95
  z77 := Tryd.sizeOf95
  v77 := Tryd.zeroValue95 }
set_option maxRecDepth 100000
set_option maxHeartbeats 4000000
theorem compare_w (x y : SP) (w : World) : Calls Tryd.prog 20 #[.agg #[.int .i64 x.1.1, .int .i64 x.1.2], .agg #[.int .i64 y.1.1, .int .i64 y.1.2]] w fun e w' => e = .returned (.int .i64 (cmpS x y)) ∧ ∃ q os', w' = grow (w.drewN q) os' := by
  have hw : IntKind.i64.wrap (x.1.1 - y.1.1) = x.1.1 - y.1.1 := by
    have h1 := x.2
    have h2 := y.2
    simp [IntKind.wrap, IntKind.bits, IntKind.signed]
    omega
  go_enter Tryd.func20, Tryd.ntmps20
  go_wp2
  go_ret
  exact ⟨rfl, 0, _, by rw [alloc_eq_grow, alloc_eq_grow, grow_grow]; rfl⟩
def cellOf (xs : List S30) (t : Nat) : Value := .int .i64 (if t % 2 = 0 then (xs.getD (t / 2) z30).f0 else (xs.getD (t / 2) z30).f1)
theorem own30 {w : World} {base : Nat} {ok : Nat → Prop} {g n cap : Nat} {xs : List S30} (h : Kd.R k30 30 w base ok (.slice (some ⟨g, 0, none⟩) n cap) xs) :
    ∃ cur, n = xs.length ∧ base ≤ g ∧ w.heap[g]? = some (.cells cur 30 (0, 0)) ∧ n ≤ cap ∧ cap ≤ maxLen ∧ cur.size = cap * 2 ∧ ok g ∧ ∀ t, t < n * 2 → cur[t]? = some (cellOf xs t) := by
  obtain ⟨h0, inner, ⟨hl, h1⟩, hr⟩ := h
  rcases h1 with ⟨z, _⟩ | ⟨g', cap', cur, hv, hb, hg, hn, hc, hs, ht⟩
  · cases z
  · injection hv with e1 e2 e3
    injection e1 with e1
    injection e1 with e1 _ _
    subst e1; subst e2; subst e3
    refine ⟨cur, rfl, hb, hg, hn, hc, hs, h0 g rfl, fun t ht2 => ?_⟩
    have hj : t / 2 < xs.length := by omega
    have hq := k30_openM (hr.2 (t / 2) xs[t / 2] (List.getElem?_eq_getElem hj))
    have hgd : xs.getD (t / 2) z30 = xs[t / 2] := by rw [List.getD_eq_getElem?_getD, List.getElem?_eq_getElem hj]; rfl
    have hi : ((inner.drop (t / 2 * 2)).take 2)[t % 2]? = inner[t]? := by
      rw [List.getElem?_take, if_pos (Nat.mod_lt _ (by decide)), List.getElem?_drop, Nat.mul_comm, Nat.div_add_mod]
    have hc2 : inner[t]? = cur[t]? := by
      rw [← ht, List.getElem?_take, if_pos (by exact ht2), Array.getElem?_toList]
    rw [← hc2, ← hi, show k30.sz = 2 from rfl] at *
    rw [← hi, hq]
    unfold cellOf
    rw [hgd]
    rcases Nat.mod_two_eq_zero_or_one t with z | z
    · rw [z, if_pos rfl]; rfl
    · rw [z, if_neg (by decide)]; rfl
theorem mk30 {w : World} {base : Nat} {ok : Nat → Prop} {g n cap : Nat} {xs : List S30} {cur : Array Value} (hn : n = xs.length) (hb : base ≤ g) (hg : w.heap[g]? = some (.cells cur 30 (0, 0))) (hc : n ≤ cap) (hm : cap ≤ maxLen) (hs : cur.size = cap * 2) (hok : ok g) (ht : ∀ t, t < n * 2 → cur[t]? = some (cellOf xs t)) :
    Kd.R k30 30 w base ok (.slice (some ⟨g, 0, none⟩) n cap) xs := by
  subst hn
  have hcl : cur.toList.length = cap * 2 := by rw [Array.length_toList]; exact hs
  have hl : (cur.toList.take (xs.length * 2)).length = xs.length * 2 := by rw [List.length_take, hcl]; omega
  refine ⟨fun k hk => ?_, cur.toList.take (xs.length * 2), ⟨hl, Or.inr ⟨g, cap, cur, rfl, hb, hg, hc, hm, hs, rfl⟩⟩, hl, fun j p hj => ?_⟩
  · have : g = k := by simpa [Value.ownBlock] using hk
    exact this ▸ hok
  · have hjl : j < xs.length := (List.getElem?_eq_some_iff.mp hj).1
    have hgd : xs.getD j z30 = p := by rw [List.getD_eq_getElem?_getD, hj]; rfl
    have e : ((cur.toList.take (xs.length * 2)).drop (j * k30.sz)).take k30.sz = [.int .i64 p.f0, .int .i64 p.f1] := by
      have a0 := ht (j * 2) (by omega)
      have a1 := ht (j * 2 + 1) (by omega)
      unfold cellOf at a0 a1
      rw [show j * 2 % 2 = 0 by omega, show j * 2 / 2 = j by omega, hgd, if_pos rfl] at a0
      rw [show (j * 2 + 1) % 2 = 1 by omega, show (j * 2 + 1) / 2 = j by omega, hgd, if_neg (by decide)] at a1
      refine List.ext_getElem? fun i => ?_
      show (((cur.toList.take (xs.length * 2)).drop (j * 2)).take 2)[i]? = _
      rw [List.getElem?_take]
      match i with
      | 0 => rw [if_pos (by decide), List.getElem?_drop, List.getElem?_take, if_pos (by omega), Array.getElem?_toList]; exact a0
      | 1 => rw [if_pos (by decide), List.getElem?_drop, List.getElem?_take, if_pos (by omega), Array.getElem?_toList]; exact a1
      | i + 2 => rw [if_neg (by omega)]; rfl
    rw [e]
    exact k30_mkM _ _ _ _
def toP (x : S30) : Int × Int := (x.f0, x.f1)
theorem as_SP : ∀ xs : List S30, (∀ x ∈ xs, 0 ≤ x.f0 ∧ x.f0 < 4611686018427387904) → ∃ d : List SP, d.map (·.1) = xs.map toP
  | [], _ => ⟨[], rfl⟩
  | x :: xs, h => by
    obtain ⟨d, hd⟩ := as_SP xs (fun y hy => h y (List.mem_cons_of_mem _ hy))
    exact ⟨⟨toP x, h x List.mem_cons_self⟩ :: d, by rw [List.map_cons, hd]; rfl⟩
theorem flat_at {d : List SP} {xs : List S30} (h : d.map (·.1) = xs.map toP) (t : Nat) (ht : t < d.length * 2) : (flatK encS 2 d.toArray)[t]! = cellOf xs t := by
  have hl : d.length = xs.length := by have := congrArg List.length h; simpa using this
  rw [get_flatK _ _ _ _ (by simpa using ht)]
  have hj : t / 2 < d.length := by omega
  have hj2 : t / 2 < xs.length := by omega
  have e : (d[t / 2]).1 = toP xs[t / 2] := by
    have := congrArg (fun l => l[t / 2]?) h
    simp only [List.getElem?_map, List.getElem?_eq_getElem hj, List.getElem?_eq_getElem hj2, Option.map_some] at this
    exact Option.some.inj this
  rw [getElem!_pos d.toArray (t / 2) (by simpa using hj)]
  simp only [List.getElem_toArray]
  unfold encS cellOf
  rw [e, List.getD_eq_getElem?_getD, List.getElem?_eq_getElem hj2]
  rcases Nat.mod_two_eq_zero_or_one t with z | z
  · rw [z]; rfl
  · rw [z]; rfl
theorem sorted_heap {α : Type} [Inhabited α] (enc : α → List Value) (k : Nat) {w : World} {g : Nat} {cur : Array Value} {T : TypeId} {fr : Nat × Nat} (hg : w.heap[g]? = some (.cells cur T fr)) (m : Nat) (d : Array α) (os : Array Obj) :
    (sortWorldK enc k w g 0 m d os).heap[g]? = some (.cells (putCells id 0 (flatK enc k d) cur) T fr) ∧ ∀ j, j < w.heap.size → j ≠ g → (sortWorldK enc k w g 0 m d os).heap[j]? = w.heap[j]? := by
  have hlt : g < w.heap.size := by
    rcases Nat.lt_or_ge g w.heap.size with z | z
    · exact z
    · rw [Array.getElem?_eq_none z] at hg; cases hg
  unfold sortWorldK putRowK putRow mapBlock grow Go.Sort.ahead
  refine ⟨?_, fun j hj hne => ?_⟩
  · rw [Array.getElem?_append_left (by simpa using hlt), Array.getElem?_modify]
    simp only [if_true]
    show Option.map _ w.heap[g]? = _
    rw [hg]
    rfl
  · rw [Array.getElem?_append_left (by simpa using hj), Array.getElem?_modify, if_neg (Ne.symm hne)]
theorem putCells_at (F cur : Array Value) (t : Nat) (h : t < F.size) (h2 : t < cur.size) : (putCells id 0 F cur)[t]? = some F[t]! := by
  unfold putCells
  rw [Array.getElem?_mapIdx, Array.getElem?_eq_getElem h2]
  simp only [Option.map_some]
  rw [if_pos ⟨Nat.zero_le _, by omega⟩]
  rfl
/-- slices.SortFunc over the pairs of a row. -/
theorem sort_some {w : World} {base : Nat} {ok : Nat → Prop} {g n cap : Nat} {l now : List Int} {xs : List S30} (h : Kd.R k30 30 w base ok (.slice (some ⟨g, 0, none⟩) n cap) xs) (hx : xs.map toP = goF l now) (hsz : l.length ≤ 65536) :
    Calls Tryd.prog 19 #[.slice (some ⟨g, 0, none⟩) n cap, .func (.func 20) #[] #[]] w fun e w' => e = .returned (.tuple #[]) ∧ ∃ ys : List S30, ys.map toP = pairsF l now ∧ Kd.R k30 30 w' base ok (.slice (some ⟨g, 0, none⟩) n cap) ys ∧ Below base w w' := by
  obtain ⟨cur, hn, hb, hg, hc, hm, hs, hok, ht⟩ := own30 h
  have hbd : ∀ x ∈ xs, 0 ≤ x.f0 ∧ x.f0 < 4611686018427387904 := by
    intro x hx1
    have h1 := goF_mem (by rw [← hx]; exact List.mem_map_of_mem hx1 : toP x ∈ goF l now)
    have h2 := h1.1.nn
    have h3 := h1.1.lt
    have h4 := h1.2.1
    unfold toP at h2 h3 h4
    dsimp only at h2 h3 h4
    omega
  obtain ⟨d, hd⟩ := as_SP xs hbd
  have hdl : d.length = xs.length := by have := congrArg List.length hd; simpa using this
  have hxl : xs.length ≤ 65536 := by
    have := goF_len l now
    rw [← hx, List.length_map] at this
    omega
  have hlt : g < w.heap.size := by
    rcases Nat.lt_or_ge g w.heap.size with z | z
    · exact z
    · rw [Array.getElem?_eq_none z] at hg; cases hg
  have hH : HoldsK encS 2 w g 0 d.toArray := by
    intro t ht1
    rw [size_flatK] at ht1
    have ht2 : t < d.length * 2 := by simpa using ht1
    have h2 := ht t (by omega)
    refine ⟨?_, ?_⟩
    · rw [flat_at hd t ht2, cell_of_row w g _ cur 30 _ hg, Nat.zero_add]
      exact h2
    · simp [World.frozen?, hg]
  have eg : ∀ args w, (callFunc 20 args).run Tryd.prog w = .ok (.enter 20 args) w := enters_of Tryd.func20 (by kernel_rfl) rfl
  have hcon := AnyQ.slices_SortFunc sortLays 2 Tryd.isAgg30 Tryd.sizeOf30 encS (fun _ => rfl) (fun x v hv => by simp [encS] at hv; rcases hv with rfl | rfl <;> rfl) cmpS swoS 20 #[] g 0 cap d.toArray w eg (fun _ _ _ _ x y => compare_w x y _) hH hlt (by simp; omega)
  rw [List.size_toArray, hdl, ← hn] at hcon
  refine hcon.mono ?_
  rintro e w' ⟨he, d', m, os, hp, hso, rfl⟩
  refine ⟨he, d'.toList.map fun p => ⟨p.1.1, p.1.2⟩, ?_, ?_, ?_⟩
  · have := sorted_pairs (l := l) (now := now) (d := d.toArray) (d' := d') (by rw [← hx]; exact hd) (by rw [List.size_toArray, hdl, ← hn]; exact hp) (by rw [List.size_toArray, hdl, ← hn]; exact hso)
    rw [← this, List.map_map]
    rfl
  · have hds : d'.size = n := by rw [hp.1, List.size_toArray, hdl, hn]
    refine mk30 (cur := putCells id 0 (flatK encS 2 d') cur) (by rw [List.length_map, Array.length_toList, hds]) hb (sorted_heap encS 2 hg m d' os).1 hc hm (by unfold putCells; rw [Array.size_mapIdx]; exact hs) hok (fun t ht2 => ?_)
    rw [putCells_at _ _ _ (by rw [size_flatK, hds]; exact ht2) (by omega)]
    have := flat_at (d := d'.toList) (xs := d'.toList.map fun p => ⟨p.1.1, p.1.2⟩) (by rw [List.map_map]; rfl) t (by rw [Array.length_toList, hds]; exact ht2)
    rw [Array.toArray_toList] at this
    rw [this]
  · refine ⟨rfl, rfl, rfl, ?_, fun k hk => (sorted_heap encS 2 hg m d' os).2 k (by omega) (by omega)⟩
    unfold sortWorldK
    rw [size_grow, size_putRowK]
    exact Nat.le_add_right _ _
theorem ins_none (w : World) : Calls Tryd.prog 33 #[.slice none 0 0, .int .i64 0, .int .i64 0, .func (.func 20) #[] #[]] w fun e w' => e = .returned (.tuple #[]) ∧ w' = w := by
  go_enter Tryd.func33, Tryd.ntmps33
  go_wp2
  go_loopw [8] (fun v8 wr => v8 = .int .i64 1 ∧ wr = w) (fun _ _ => 0)
  case atStart => exact ⟨rfl, rfl⟩
  case round =>
    obtain ⟨rfl, rfl⟩ := hrel
    go_wp2
    go_end0
    exact ⟨rfl, rfl⟩
theorem bitsLen_w (w : World) : Calls Tryd.prog 31 #[.int .u64 0] w fun e w' => e = .returned (.int .i64 0) ∧ w' = w := by
  have h := Any.bits_Len (SlLaysF0.n15.bits (P := Tryd.prog) (ρ := sren) { sortLays with }) (0 : Int) w (by omega) (by omega)
  exact h
theorem pdq_none (w : World) : Calls Tryd.prog 30 #[.slice none 0 0, .int .i64 0, .int .i64 0, .int .i64 0, .func (.func 20) #[] #[]] w fun e w' => e = .returned (.tuple #[]) ∧ w' = w := by
  go_enter Tryd.func30, Tryd.ntmps30
  go_wp2
  go_loopw [1, 2] (fun v1 v2 wr => v1 = .int .i64 0 ∧ v2 = .int .i64 0 ∧ wr = w) (fun _ _ _ => 0)
  case atStart => exact ⟨rfl, rfl, rfl⟩
  case round =>
    obtain ⟨rfl, rfl, rfl⟩ := hrel
    go_wp2_with (go_at_call 33; refine (ins_none _).mono ?_; rintro e w1 ⟨rfl, hw⟩; obtain rfl := hw.symm)
    (try simp only [Exit.inBlock, Exit.then])
    refine bodyPost_ret (results_none rfl _ _ _) rfl ?_
    exact ⟨rfl, rfl⟩
theorem sort_none (w : World) : Calls Tryd.prog 19 #[.slice none 0 0, .func (.func 20) #[] #[]] w fun e w' => e = .returned (.tuple #[]) ∧ w' = w := by
  go_enter Tryd.func19, Tryd.ntmps19
  go_wp2_with (first | (go_at_call 31; refine (bitsLen_w _).mono ?_; rintro e w1 ⟨rfl, hw⟩; obtain rfl := hw.symm) | (go_at_call 30; refine (pdq_none _).mono ?_; rintro e w1 ⟨rfl, hw⟩; obtain rfl := hw.symm))
  go_end0
  exact ⟨rfl, rfl⟩
theorem pairsF_nil {l now : List Int} (h : goF l now = []) : pairsF l now = [] := by
  refine List.eq_nil_iff_forall_not_mem.mpr fun p hp => ?_
  rw [mem_pairsF, h] at hp
  cases hp
theorem sort_w {w : World} {base : Nat} {ok : Nat → Prop} {v : Value} {l now : List Int} {xs : List S30} (h : Kd.R k30 30 w base ok v xs) (hx : xs.map toP = goF l now) (hsz : l.length ≤ 65536) :
    Calls Tryd.prog 19 #[v, .func (.func 20) #[] #[]] w fun e w' => e = .returned (.tuple #[]) ∧ ∃ ys : List S30, ys.map toP = pairsF l now ∧ Kd.R k30 30 w' base ok v ys ∧ Below base w w' := by
  have h' := h
  obtain ⟨h0, inner, ⟨hl, h1⟩, hr⟩ := h'
  rcases h1 with ⟨z, zn⟩ | ⟨g, cap, cur, hv, _⟩
  · subst z
    have hn : xs = [] := List.eq_nil_of_length_eq_zero zn
    subst hn
    refine (sort_none w).mono ?_
    rintro e w' ⟨rfl, rfl⟩
    exact ⟨rfl, [], by rw [pairsF_nil (by rw [← hx]; rfl)]; rfl, h, Below.refl _ _⟩
  · subst hv
    exact sort_some h hx hsz
end Go.Proofs.YtiogpnefnapfeaaDoor.X
