import Derived.Test.YtdmkbaebcopjfaaT9
import Derived.Test.YtdmkbaebcopjfaaF
namespace Go.Proofs.Ytdmkbaebcopjfaa.Pure
open Go.RowKit Go.Proofs.Ytdmkbaebcopjfaa.X Go.Proofs.YtdmkbaebcopjfaaW.PrintWords Go.Proofs.YtdmkbaebcopjfaaW.PrintLast Go.Proofs.Ytdmkbaebcopjfaa Go.Proofs.Ytdmkbaebcopjfaa.A
set_option linter.unusedVariables false

theorem okc_in32 {l : List Int} (h : ∀ x ∈ l, okc x) : l.all in32 = true := by
  rw [List.all_eq_true]
  intro x hx
  have := h x hx
  unfold okc at this
  simp [in32]
  omega
theorem UtfBack : selvedgelaw02_UtfBack.Pure := by
  intro l0 l1 h1 h2 h3 h4 h5 h6
  refine E.out (r := true) ?_
  unfold selvedgelaw02_UtfBack.f
  by_cases c : 60000 < l0.length ∨ 20000 < l1.length
  · exact E.pos c (E.ret rfl)
  refine E.neg c ?_
  have hs0 : (strOfNums l0).size = l0.length := sons_size l0
  generalize hL : norm 32 (rrF (strOfNums l0).size (strOfNums l0)) = L
  have hLok : ∀ x ∈ L, okc x ∧ x ≠ 13 := by rw [← hL]; exact norm_ok _ _ (rrF_ok _ _)
  have hok : ∀ x ∈ L, okc x := fun x hx => (hLok x hx).1
  have hlen : L.length ≤ 60000 := by
    have h1 := norm_len (rrF (strOfNums l0).size (strOfNums l0)) 32
    have h2 := rrF_len (strOfNums l0).size (strOfNums l0)
    rw [hL] at h1
    omega
  have hb := encB_le L
  have hd : utf_Decode.f l0 = some (tx (encB L), 0) := by
    unfold utf_Decode.f
    rw [if_pos (by omega), decV_norm, hL]
  have hw := Well_ev (tx (encB L)) (by rw [tx_size]; omega)
  rw [wellF_enc L hok] at hw
  have hall : l1.all in32 = true := by
    rw [List.all_eq_true]
    intro x hx
    have := h6 x hx
    simp [Lit.wf, IntKind.min, IntKind.max, IntKind.signed, IntKind.bits] at this
    simp [in32]
    omega
  have hb1 := encB_le l1
  have hrv : utf_Runes.f (tx (encB l1)) = some (l1.map fx) := by
    have := runes_enc (l1.map fx) (fun x hx => by obtain ⟨y, _, rfl⟩ := List.mem_map.1 hx; exact fx_ok y) (by rw [encB_fx]; omega)
    rwa [encB_fx] at this
  refine E.bno hd (E.bnd hw (E.bno (runes_enc L hok (by omega)) (E.bno (string_enc L (by omega) (okc_in32 hok)) (E.bno (string_enc l1 (by omega) hall) (E.bno hrv ?_)))))
  refine E.pos ⟨rfl, rfl, ?_, by rw [tx_size]; omega, ?_, rfl, rfl⟩ (E.ret rfl)
  · rw [List.all_eq_true]
    intro x hx
    unfold bytesOf at hx
    obtain ⟨b, hb, rfl⟩ := List.mem_map.1 hx
    have := enc_no13 hok (fun x hx => (hLok x hx).2) b (by simpa [tx] using hb)
    simp
    omega
  · intro hsz
    have : decV (bytesOf (tx (encB L))) = tx (encB L) := by
      rw [decV_norm, strOfNums_bytesOf, tx_size, rrF_enc L hok _ (Nat.le_refl _), norm_id L 32 (by decide) (fun x hx => (hLok x hx).2)]
    unfold utf_Decode.f
    rw [if_pos (by rw [bytesOf_length]; exact hsz), this]

end Go.Proofs.Ytdmkbaebcopjfaa.Pure
