import Derived.Test.YthckihfkhmoafaaX0
import Derived.Deep.Slices
import Derived.Deep.Fields
import Derived.ChangeSame
import Derived.SizedLaws
import Derived.ChangeSlices
/-! From the data of a row of items to the items. -/
namespace Go.Proofs.Ythckihfkhmoafaa.L
open Go.ChangeShapes Go.WideShapes Go.Deep Go.RowKit Go.Proofs.Ythckihfkhmoafaa.X Go.Proofs.YthckihfkhmoafaaW.PrintWords
set_option linter.unusedVariables false
section
variable {H : Type} {enc : TypeId × Value → H} {P : Program} {w : World} {base : Nat} {spare : Nat → Bool} {held : Bool}
theorem open_slice_fields {t e : TypeId} {fs : Array Field} {fuel : Nat} {cs : List Value} {x : DataW H × List MemPlace} (ht : P.underlying t = some (.slice e)) (he : P.underlying e = some (.struct fs))
    (hone : oneCellFields P fs = true) (hC : P.cellsOf e = fs.size) (h : DataW.trod enc P w base spare held fuel t cs = some x) :
    (cs = [.slice none 0 0] ∧ x = (.nil, [])) ∨
    ∃ (a : Addr) (len cap m : Nat) (D : Nat → DataW H) (Pl : Nat → List MemPlace), cs = [.slice (some a) len cap] ∧ base ≤ a.block ∧ len ≤ cap ∧ cap ≤ maxLen ∧ m = (if spare a.block then cap else len) ∧
      x = (.slice ((List.range len).map D) ((List.range (m - len)).map fun j => D (len + j)), MemPlace.row a (m * fs.size) ++ (List.range m).flatMap Pl) ∧
      ∀ i, i < m → ∃ (ys : List (DataW H × List MemPlace)) (n : Nat), D i = .agg (ys.map (·.1)) ∧ Pl i = ys.flatMap (·.2) ∧ ys.length = fs.size ∧
        ∀ (j : Nat) (f : Field), fs[j]? = some f → ∃ (v : Value) (y : DataW H × List MemPlace), w.cell? (a.add (i * fs.size + j)) = some v ∧ ys[j]? = some y ∧ DataW.trod enc P w base spare held n f.type [v] = some y := by
  rcases open_slice ht h with h0 | ⟨a, len, cap, m, n, D, Pl, hcs, hb, hl, hm, hmm, hx, hi⟩
  · exact .inl h0
  · refine .inr ⟨a, len, cap, m, D, Pl, hcs, hb, hl, hm, hmm, by rw [hC] at hx; exact hx, fun i him => ?_⟩
    obtain ⟨cs', hc, ht'⟩ := hi i him
    rw [hC] at hc
    obtain ⟨ys, n', hn', hy, hlen, hyl, hf⟩ := DataW.trod_struct he ht'
    obtain ⟨_, hcl, hat⟩ := World.cells?_some hc
    simp only [Prod.mk.injEq] at hy
    refine ⟨ys, n', hy.1, hy.2, hyl, fun j f hj => ?_⟩
    obtain ⟨ho, hk⟩ := hone_of hone j f hj
    have hjl : j < fs.size := (Array.getElem?_eq_some_iff.1 hj).1
    have hcell := hat j hjl
    have hv : cs'[j]? = some (cs'[j]'(by omega)) := List.getElem?_eq_getElem (by omega)
    have h1 := hf j f hj
    rw [ho, hk] at h1
    have hone' : (cs'.drop j).take 1 = [cs'[j]'(by omega)] := by
      rw [List.drop_eq_getElem_cons (by omega)]
      rfl
    rw [hone'] at h1
    have hys : ys[j]? = some (ys[j]'(by omega)) := List.getElem?_eq_getElem (by omega)
    refine ⟨_, _, ?_, hys, h1.trans hys⟩
    rw [← Go.Deep.add_add, hcell, hv]
end
noncomputable def flds36 : Array Field := match Try.prog.underlying 36 with
  | some (.struct fs) => fs
  | _ => #[]
theorem und36 : Try.prog.underlying 36 = some (.struct flds36) := by kernel_rfl
theorem one36 : oneCellFields Try.prog flds36 = true := by kernel_rfl
theorem cells36 : Try.prog.cellsOf 36 = flds36.size := by kernel_rfl
theorem size36 : flds36.size = 4 := by kernel_rfl
theorem bytes36 : Try.prog.bytesOf 36 = 32 := by kernel_rfl
theorem fld_of {j : Nat} {k : IntKind} (h : (flds36[j]?).bind (fun f => Try.prog.underlying f.type) = some (.int k)) : ∃ f : Field, flds36[j]? = some f ∧ Try.prog.underlying f.type = some (.int k) := by
  cases hq : flds36[j]? with
  | none => rw [hq] at h; cases h
  | some f => rw [hq] at h; exact ⟨f, rfl, h⟩
theorem fld36 : ∃ f0 f1 f2 f3 : Field, flds36[0]? = some f0 ∧ flds36[1]? = some f1 ∧ flds36[2]? = some f2 ∧ flds36[3]? = some f3 ∧ Try.prog.underlying f0.type = some (.int .i32) ∧ Try.prog.underlying f1.type = some (.int .i64) ∧ Try.prog.underlying f2.type = some (.int .i64) ∧ Try.prog.underlying f3.type = some (.int .i64) := by
  obtain ⟨f0, g0, u0⟩ := fld_of (j := 0) (k := .i32) (by kernel_rfl)
  obtain ⟨f1, g1, u1⟩ := fld_of (j := 1) (k := .i64) (by kernel_rfl)
  obtain ⟨f2, g2, u2⟩ := fld_of (j := 2) (k := .i64) (by kernel_rfl)
  obtain ⟨f3, g3, u3⟩ := fld_of (j := 3) (k := .i64) (by kernel_rfl)
  exact ⟨f0, f1, f2, f3, g0, g1, g2, g3, u0, u1, u2, u3⟩
/-- A row of items, from its data. -/
theorem row36 {H : Type} {enc : TypeId × Value → H} {W : World} {a : Option Addr} {len cap : Nat} {d : DataW H} {ps : List MemPlace} {ts : List TypeId} {ds : List (DataW H)} {j : Nat}
    (hsz : (DataW.weightsEach Try.prog ts ds).all (· ≤ reachBytes) = true) (ht : ts[j]? = some 22) (hd : ds[j]? = some d)
    (h : DataW.Trod enc Try.prog W 0 (fun _ => true) true 22 (.slice a len cap) d ps) : ∃ l : List S36, l.length = len ∧ Kd.C k36 W a len l ∧ len ≤ cap ∧ len < 4398046511104 := by
  obtain ⟨fuel, hf⟩ := h
  rcases open_slice_fields Try.underlying22 und36 one36 cells36 hf with ⟨hcs, _⟩ | ⟨x, l, c, m, D, Pl, hcs, _, hl, hm, hmm, hx, hi⟩
  · simp [Value.cells] at hcs
    obtain ⟨rfl, rfl, rfl⟩ := hcs
    exact ⟨[], rfl, ⟨rfl, by decide, fun h => absurd h (by decide)⟩, Nat.le_refl _, by decide⟩
  · simp [Value.cells] at hcs
    obtain ⟨rfl, rfl, rfl⟩ := hcs
    obtain ⟨hx, _⟩ := Prod.mk.inj hx
    subst hx
    have z := sized_slice hsz ht hd Try.underlying22
    rw [bytes36] at z
    simp only [List.length_map, List.length_range] at z
    have hlt : len < 4398046511104 := by
      have : reachBytes = 140737488351232 := by decide
      omega
    have item : ∀ i, i < len → ∃ s : S36, ∀ k u, [Value.int .i32 s.f0, .int .i64 s.f1, .int .i64 s.f2, .int .i64 s.f3][k]? = some u → W.cell? (x.add (i * 4 + k)) = some u := by
      intro i hil
      obtain ⟨f0, f1, f2, f3, g0, g1, g2, g3, u0, u1, u2, u3⟩ := fld36
      obtain ⟨ys, n, _, _, _, hfl⟩ := hi i (by simp only [if_true] at hmm; omega)
      obtain ⟨v0, y0, c0, _, t0⟩ := hfl 0 f0 g0
      obtain ⟨v1, y1, c1, _, t1⟩ := hfl 1 f1 g1
      obtain ⟨v2, y2, c2, _, t2⟩ := hfl 2 f2 g2
      obtain ⟨v3, y3, c3, _, t3⟩ := hfl 3 f3 g3
      obtain ⟨n0, e0, _, _⟩ := DataW.trod_int u0 t0
      obtain ⟨n1, e1, _, _⟩ := DataW.trod_int u1 t1
      obtain ⟨n2, e2, _, _⟩ := DataW.trod_int u2 t2
      obtain ⟨n3, e3, _, _⟩ := DataW.trod_int u3 t3
      rw [size36] at c0 c1 c2 c3
      injection e0 with e0
      injection e1 with e1
      injection e2 with e2
      injection e3 with e3
      subst e0 e1 e2 e3
      refine ⟨⟨n0, n1, n2, n3⟩, fun k u hu => ?_⟩
      match k, hu with
      | 0, hu => simp at hu; rw [← hu]; exact c0
      | 1, hu => simp at hu; rw [← hu]; exact c1
      | 2, hu => simp at hu; rw [← hu]; exact c2
      | 3, hu => simp at hu; rw [← hu]; exact c3
      | k + 4, hu => simp at hu
    have pick : ∀ n, n ≤ len → ∃ l : List S36, l.length = n ∧ ∀ i s, l[i]? = some s → ∀ k u, [Value.int .i32 s.f0, .int .i64 s.f1, .int .i64 s.f2, .int .i64 s.f3][k]? = some u → W.cell? (x.add (i * 4 + k)) = some u := by
      intro n
      induction n with
      | zero => intro _; exact ⟨[], rfl, fun i s h => by simp at h⟩
      | succ n ih =>
        intro hn
        obtain ⟨l, hl, hc⟩ := ih (by omega)
        obtain ⟨s, hs⟩ := item n (by omega)
        refine ⟨l ++ [s], by simp [hl], fun i s' h => ?_⟩
        by_cases hi : i < n
        · rw [List.getElem?_append_left (by omega)] at h
          exact hc i s' h
        · rw [List.getElem?_append_right (by omega)] at h
          have : i = n := by
            have := (List.getElem?_eq_some_iff.1 h).1
            simp at this
            omega
          subst this
          rw [hl] at h
          simp at h
          rw [← h]
          exact hs
    obtain ⟨l, hl, hc⟩ := pick len (Nat.le_refl _)
    refine ⟨l, hl, ⟨hl, by omega, fun _ => ⟨x, rfl, fun j p hj => ⟨_, rfl, k36_mk W p, fun i u hu => hc j p hj i u hu⟩⟩⟩, by assumption, hlt⟩
end Go.Proofs.Ythckihfkhmoafaa.L
