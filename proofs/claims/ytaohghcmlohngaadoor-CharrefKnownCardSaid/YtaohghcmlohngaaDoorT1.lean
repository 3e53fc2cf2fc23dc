import Derived.Test.YtaohghcmlohngaaDoorX0
/-! The two tables, as they lie in the heap; what reads them. -/
namespace Go.Proofs.YtaohghcmlohngaaDoor.X
open Go.RowKit Go.Proofs.YtaohghcmlohngaaDoorW.PrintWords Go.Proofs.YtaohghcmlohngaaDoorW.PrintLast Go.Proofs.YtaohghcmlohngaaDoorW.PrintMore
set_option linter.unusedVariables false
set_option linter.unusedSimpArgs false
/-- The names, rising: each with its character, and whether it stands without ;. -/
def nmT : List (ByteArray × Int × Bool) := [(⟨#[65, 77, 80]⟩, 38, true), (⟨#[67, 79, 80, 89]⟩, 169, true), (⟨#[71, 84]⟩, 62, true), (⟨#[76, 84]⟩, 60, true), (⟨#[81, 85, 79, 84]⟩, 34, true), (⟨#[82, 69, 71]⟩, 174, true), (⟨#[97, 109, 112]⟩, 38, true), (⟨#[97, 112, 111, 115]⟩, 39, false), (⟨#[98, 117, 108, 108]⟩, 8226, false), (⟨#[99, 101, 110, 116]⟩, 162, true), (⟨#[99, 111, 112, 121]⟩, 169, true), (⟨#[100, 97, 114, 114]⟩, 8595, false), (⟨#[100, 101, 103]⟩, 176, true), (⟨#[100, 105, 118, 105, 100, 101]⟩, 247, true), (⟨#[101, 109, 115, 112]⟩, 8195, false), (⟨#[101, 110, 115, 112]⟩, 8194, false), (⟨#[101, 117, 114, 111]⟩, 8364, false), (⟨#[103, 101]⟩, 8805, false), (⟨#[103, 116]⟩, 62, true), (⟨#[104, 101, 108, 108, 105, 112]⟩, 8230, false), (⟨#[105, 110]⟩, 8712, false), (⟨#[105, 110, 102, 105, 110]⟩, 8734, false), (⟨#[108, 97, 110, 103]⟩, 10216, false), (⟨#[108, 97, 113, 117, 111]⟩, 171, true), (⟨#[108, 97, 114, 114]⟩, 8592, false), (⟨#[108, 100, 113, 117, 111]⟩, 8220, false), (⟨#[108, 101]⟩, 8804, false), (⟨#[108, 114, 109]⟩, 8206, false), (⟨#[108, 115, 97, 113, 117, 111]⟩, 8249, false), (⟨#[108, 115, 113, 117, 111]⟩, 8216, false), (⟨#[108, 116]⟩, 60, true), (⟨#[109, 100, 97, 115, 104]⟩, 8212, false), (⟨#[109, 105, 100, 100, 111, 116]⟩, 183, true), (⟨#[109, 105, 110, 117, 115]⟩, 8722, false), (⟨#[110, 98, 115, 112]⟩, 160, true), (⟨#[110, 100, 97, 115, 104]⟩, 8211, false), (⟨#[110, 101]⟩, 8800, false), (⟨#[110, 111, 116]⟩, 172, true), (⟨#[110, 111, 116, 105, 110]⟩, 8713, false), (⟨#[112, 97, 114, 97]⟩, 182, true), (⟨#[112, 108, 117, 115, 109, 110]⟩, 177, true), (⟨#[112, 111, 117, 110, 100]⟩, 163, true), (⟨#[113, 117, 111, 116]⟩, 34, true), (⟨#[114, 97, 110, 103]⟩, 10217, false), (⟨#[114, 97, 113, 117, 111]⟩, 187, true), (⟨#[114, 97, 114, 114]⟩, 8594, false), (⟨#[114, 100, 113, 117, 111]⟩, 8221, false), (⟨#[114, 101, 103]⟩, 174, true), (⟨#[114, 108, 109]⟩, 8207, false), (⟨#[114, 115, 97, 113, 117, 111]⟩, 8250, false), (⟨#[114, 115, 113, 117, 111]⟩, 8217, false), (⟨#[115, 101, 99, 116]⟩, 167, true), (⟨#[115, 104, 121]⟩, 173, true), (⟨#[116, 104, 105, 110, 115, 112]⟩, 8201, false), (⟨#[116, 105, 109, 101, 115]⟩, 215, true), (⟨#[117, 97, 114, 114]⟩, 8593, false), (⟨#[121, 101, 110]⟩, 165, true), (⟨#[122, 119, 106]⟩, 8205, false), (⟨#[122, 119, 110, 106]⟩, 8204, false)]
def nmN : Nat := 59
/-- The characters of the numbers from 80 to 9F. -/
def othT : List Int := [8364, 0, 8218, 402, 8222, 8230, 8224, 8225, 710, 8240, 352, 8249, 338, 0, 381, 0, 0, 8216, 8217, 8220, 8221, 8226, 8211, 8212, 732, 8482, 353, 8250, 339, 0, 382, 376]
def nmAt (i : Nat) : ByteArray × Int × Bool := nmT.getD i (⟨#[]⟩, 0, false)
/-- Both tables are there. -/
structure Tabs (w : World) : Prop where
  lt : 2 ≤ w.heap.size
  oth : ∀ j : Nat, j < 32 → w.cell? ⟨1, j, none⟩ = some (.int .i32 (rd othT j))
  nm0 : ∀ j : Nat, j < 59 → w.cell? ⟨0, j * 3, none⟩ = some (.string (nmAt j).1)
  nm1 : ∀ j : Nat, j < 59 → w.cell? ⟨0, j * 3 + 1, none⟩ = some (.int .i32 (nmAt j).2.1)
  nm2 : ∀ j : Nat, j < 59 → w.cell? ⟨0, j * 3 + 2, none⟩ = some (.bool (nmAt j).2.2)
theorem Tabs.below {w w1 : World} (h : Tabs w) (hb : Below w.heap.size w w1) : Tabs w1 := by
  have hl := h.lt
  have hs := hb.size
  exact ⟨by omega, fun j hj => (hb.cell (by show 1 < _; omega)).trans (h.oth j hj), fun j hj => (hb.cell (by show 0 < _; omega)).trans (h.nm0 j hj), fun j hj => (hb.cell (by show 0 < _; omega)).trans (h.nm1 j hj), fun j hj => (hb.cell (by show 0 < _; omega)).trans (h.nm2 j hj)⟩
def charref_othersAt.f (a0 : Int) : Option Int := if 0 ≤ a0 ∧ a0 < 32 then some (rd othT a0) else none
def charref_nameR.f (a0 : Int) : Option Int := if 0 ≤ a0 ∧ a0 < 59 then some (nmAt a0.toNat).2.1 else none
def charref_nameAlone.f (a0 : Int) : Option Bool := if 0 ≤ a0 ∧ a0 < 59 then some (nmAt a0.toNat).2.2 else none
theorem tab_others {w wc : World} (hT : Tabs w) (hB : Below w.heap.size w wc) {i t : Int} (h : charref_othersAt.f i = some t) : (0 ≤ i) = True ∧ (i < 32) = True ∧ wc.cell? ⟨1, i.toNat, none⟩ = some (.int .i32 t) := by
  unfold charref_othersAt.f at h
  split at h
  · next q =>
    injection h with h
    subst h
    refine ⟨eq_true q.1, eq_true q.2, ?_⟩
    have := (hT.below hB).oth i.toNat (by omega)
    rw [this, Int.toNat_of_nonneg q.1]
  · cases h
theorem tab_nameR {w wc : World} (hT : Tabs w) (hB : Below w.heap.size w wc) {i t : Int} (h : charref_nameR.f i = some t) : (0 ≤ i) = True ∧ (i < 59) = True ∧ wc.cell? ⟨0, i.toNat * 3 + 1, none⟩ = some (.int .i32 t) := by
  unfold charref_nameR.f at h
  split at h
  · next q =>
    injection h with h
    subst h
    exact ⟨eq_true q.1, eq_true q.2, (hT.below hB).nm1 i.toNat (by omega)⟩
  · cases h
theorem tab_nameAlone {w wc : World} (hT : Tabs w) (hB : Below w.heap.size w wc) {i : Int} {t : Bool} (h : charref_nameAlone.f i = some t) : (0 ≤ i) = True ∧ (i < 59) = True ∧ wc.cell? ⟨0, i.toNat * 3 + 2, none⟩ = some (.bool t) := by
  unfold charref_nameAlone.f at h
  split at h
  · next q =>
    injection h with h
    subst h
    exact ⟨eq_true q.1, eq_true q.2, (hT.below hB).nm2 i.toNat (by omega)⟩
  · cases h
end Go.Proofs.YtaohghcmlohngaaDoor.X
