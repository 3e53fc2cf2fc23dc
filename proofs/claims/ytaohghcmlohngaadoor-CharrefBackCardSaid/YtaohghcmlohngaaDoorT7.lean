import Derived.Test.YtaohghcmlohngaaDoorX0
import Derived.Lib.AppendStr
/-! A text appended to a row of bytes that the call owns. -/
namespace Go.Proofs.YtaohghcmlohngaaDoor.X
open Go.RowKit Go.Proofs.YtaohghcmlohngaaDoorW.PrintWords Go.Proofs.YtaohghcmlohngaaDoorW.PrintLast Go.Proofs.YtaohghcmlohngaaDoorW.PrintMore
set_option linter.unusedVariables false
set_option linter.unusedSimpArgs false
def sInts (s : ByteArray) : List Int := s.data.toList.map fun c => (c.toNat : Int)
theorem sInts_cells (s : ByteArray) : (sInts s).map (Value.int .u8) = Lib.strCells s := by
  unfold sInts Lib.strCells
  rw [List.map_map]
  rfl
theorem reps_u8 {W : World} {base : Nat} {ok : Nat → Prop} {xs : List Int} {inner : List Value} (h : Reps ((Kd.int .u8).M W base ok) 1 xs inner) : inner = xs.map (Value.int .u8) := by
  apply List.ext_getElem?
  intro j
  have hl : inner.length = xs.length * 1 := h.1
  rcases Nat.lt_or_ge j xs.length with q | q
  · have hq : inner.length = xs.length := by omega
    have := h.2 j xs[j] (List.getElem?_eq_getElem q)
    have e : (inner.drop (j * 1)).take 1 = [Value.int .u8 xs[j]] := this
    rw [Nat.mul_one] at e
    have e2 : ((inner.drop j).take 1)[0]? = some (Value.int .u8 xs[j]) := by rw [e]; rfl
    rw [List.getElem?_take, List.getElem?_drop] at e2
    rw [List.getElem?_map, List.getElem?_eq_getElem q]
    simpa using e2
  · rw [List.getElem?_eq_none (by omega), List.getElem?_eq_none (by rw [List.length_map]; omega)]
section
variable {P : Program}
theorem append_str_run {W : World} (base : Nat) (t u ty e : TypeId) (i : TypeInfo) (ht : P.underlying t = some (.slice e)) (hu : P.underlying u = some .string) (hi : P.info? e = some i) (hz : i.zero = some (.int .u8 0)) (hsize : i.size = 1) (hby : i.bytes = 1)
    (v : Value) (xs : List Int) (ok : Nat → Prop) (HO : (Kd.int .u8).R e W base ok v xs) (s : ByteArray) (hl : xs.length + s.size ≤ 140737488355328) (hbase : base ≤ W.heap.size) (hfresh : ∀ k, W.heap.size ≤ k → ok k) :
    ∃ v1 w1, (Builtin.append_ #[t, u] ty #[v, .string s]).run P W = .ok v1 w1 ∧ (Kd.int .u8).R e w1 base ok v1 (xs ++ sInts s) ∧ W.grownBy w1 v.ownBlock ∧ (v1.ownBlock = v.ownBlock ∨ ∃ b, v1.ownBlock = some b ∧ W.heap.size ≤ b) := by
  obtain ⟨hok, inner, hown, hr⟩ := HO
  have hin := reps_u8 hr
  subst hin
  have hown1 : W.ownsRow base e 1 v xs.length (xs.map (Value.int .u8)) := hown
  have h63 : xs.length + s.size ≤ maxLen := by unfold maxLen; omega
  have fin : ∀ (v1 : Value) (w1 : World), w1.ownsRow base e 1 v1 (xs.length + s.size) (xs.map (Value.int .u8) ++ Lib.strCells s) → (v1.ownBlock = v.ownBlock ∨ ∃ b, v1.ownBlock = some b ∧ W.heap.size ≤ b) → (Kd.int .u8).R e w1 base ok v1 (xs ++ sInts s) := by
    intro v1 w1 h hat
    rw [← sInts_cells, ← List.map_append] at h
    have hlen : xs.length + s.size = (xs ++ sInts s).length := by
      rw [List.length_append]
      unfold sInts
      rw [List.length_map, Array.length_toList]
      rfl
    rw [hlen] at h
    refine Kd.R_of_own (xs := xs ++ sInts s) h fun k hk => ?_
    rcases hat with q | ⟨b, q, hb⟩
    · exact hok k (by rw [← q]; exact hk)
    · rw [q] at hk
      injection hk with hk
      subst hk
      exact hfresh _ hb
  rcases hown1.2 with ⟨rfl, hn⟩ | ⟨g, cap, cur, rfl, hbg, hg, hnc, hcm, hcs, htake⟩
  · have h0 : W.ownsRow W.heap.size e 1 (.slice none 0 0) xs.length (xs.map (Value.int .u8)) := ⟨hown1.1, .inl ⟨rfl, hn⟩⟩
    obtain ⟨v', w', hrun, h2, h3, h4⟩ := Lib.run_append_own_string (P := P) W W.heap.size t u ty e i ht hu hi hz hsize hby _ _ _ h0 s h63 hl (Nat.le_refl _)
    have hat : v'.ownBlock = (Value.slice none 0 0).ownBlock ∨ ∃ b, v'.ownBlock = some b ∧ W.heap.size ≤ b := by
      cases hb : v'.ownBlock with
      | none => exact .inl rfl
      | some b => exact .inr ⟨b, rfl, own_base h2 b hb⟩
    exact ⟨v', w', hrun, fin v' w' (own_weaken h2 hbase) hat, h3, hat⟩
  · obtain ⟨v', w', hrun, h2, h3, h4⟩ := Lib.run_append_own_string (P := P) W base t u ty e i ht hu hi hz hsize hby _ _ _ hown1 s h63 hl hbase
    have hat : v'.ownBlock = (Value.slice (some ⟨g, 0, none⟩) xs.length cap).ownBlock ∨ ∃ b, v'.ownBlock = some b ∧ W.heap.size ≤ b := by
      by_cases hroom : xs.length + s.size ≤ cap
      · have hr2 := Lib.run_append_room_string (P := P) W t u ty e i ht hu hi hsize g xs.length cap cur hg s hroom (by rw [hcs]; omega)
        rw [hrun] at hr2
        injection hr2 with e1 e2
        subst e1
        exact .inl rfl
      · have hown2 := hown1
        have hr2 := Lib.run_append_grow_string (P := P) W t u ty e i (.int .u8 0) ht hu hi hz ⟨g, 0, none⟩ xs.length cap (xs.map (Value.int .u8)) (by rw [List.length_map, hsize, Nat.mul_one]) (hown1.cells (g := g) rfl) s (by omega) (by omega) (by rw [hby]; exact growslice_fits (by omega) (by omega))
        rw [hrun] at hr2
        injection hr2 with e1 e2
        subst e1
        exact .inr ⟨_, rfl, Nat.le_refl _⟩
    exact ⟨v', w', hrun, fin v' w' h2 hat, h3, hat⟩
theorem R_append_str {ops : Array Oper} {rest : List Oper} {o : Oper} {a : Act} {Q : Exit → Act → World → Prop} {w0 W : World} (base : Nat) (hgd : o.guard = none) (sl x : Operand) (t u e : TypeId)
    (ho : o.op = .call { callee := .builtin .append, args := #[sl, x], argTypes := #[t, u] }) (ht : P.underlying t = some (.slice e)) (hu : P.underlying u = some .string)
    (hinfo : (P.info? e).map (fun i => (i.zero, i.size, i.bytes)) = some (some (.int .u8 0), 1, 1))
    (v : Value) (xs : List Int) (s : ByteArray) (ok : Nat → Prop) (hs : a.eval sl = v) (hx : a.eval x = .string s) (HO : (Kd.int .u8).R e W base ok v xs) (hfresh : ∀ k, W.heap.size ≤ k → ok k) (HB : Below base w0 W) (hbase : base ≤ W.heap.size) (hl : xs.length + s.size ≤ 140737488355328)
    (h : ∀ v1 w1, (Kd.int .u8).R e w1 base ok v1 (xs ++ sInts s) → Below base w0 w1 → W.grownBy w1 v.ownBlock → (v1.ownBlock = v.ownBlock ∨ ∃ b, v1.ownBlock = some b ∧ W.heap.size ≤ b) → wpList P ops Q rest (a.put o.dst v1) w1) : wpList P ops Q (o :: rest) a W := by
  obtain ⟨i0, hi, hzz⟩ := Option.map_eq_some_iff.1 hinfo
  simp only [Prod.mk.injEq] at hzz
  obtain ⟨hz0, hz1, hz2⟩ := hzz
  refine wpList_plain hgd fun K hK => ?_
  obtain ⟨v', w', hr, h2, h3, h4⟩ := append_str_run (P := P) base t u o.type e i0 ht hu hi hz0 hz1 hz2 v xs ok HO s hl hbase hfresh
  have hrow : ∀ k, v.ownBlock = some k → base ≤ k := by
    obtain ⟨_, inner, hown, _⟩ := HO
    exact own_base hown
  unfold Oper.wp execOp
  simp only [ho, resolve, invoke, builtin, Sem.run_bind, Sem.run_pure, Result.andThen_ok, List.map_toArray, List.map_cons, List.map_nil, hs, hx, hr]
  exact hK _ _ (h v' w' h2 (HB.grown h3 hbase hrow) h3 h4)
end
end Go.Proofs.YtaohghcmlohngaaDoor.X
