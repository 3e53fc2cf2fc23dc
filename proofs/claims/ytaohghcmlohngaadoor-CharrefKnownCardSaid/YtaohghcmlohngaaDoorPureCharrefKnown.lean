import Derived.Test.YtaohghcmlohngaaDoorX11
import Derived.Test.YtaohghcmlohngaaDoorG
import Derived.Test.YtaohghcmlohngaaDoorPureCharrefFinds
import Derived.Test.YtaohghcmlohngaaDoorPureCharrefDecodes
namespace Go.Proofs.YtaohghcmlohngaaDoor.Pure
open Go.RowKit Go.Proofs.YtaohghcmlohngaaDoor.X Go.Proofs.YtaohghcmlohngaaDoorW.PrintWords Go.Proofs.YtaohghcmlohngaaDoorW.PrintLast
set_option linter.unusedSimpArgs false
set_option linter.unusedVariables false
set_option maxRecDepth 100000
def KL : List ByteArray := (([(⟨#[38, 97, 109, 112, 59, 108, 116, 59, 32, 38, 108, 116, 32, 38, 110, 111, 116, 105, 110, 59, 32, 38, 110, 111, 116, 105, 110, 32, 38, 110, 111, 116, 105]⟩ : ByteArray), (⟨#[38, 108, 116, 59, 32, 60, 32, 226, 136, 137, 32, 194, 172, 105, 110, 32, 194, 172, 105]⟩ : ByteArray), (⟨#[38, 99, 111, 112, 121, 61, 49, 32, 38, 99, 111, 112, 121, 59, 61, 49, 32, 38, 99, 111, 112, 121, 120]⟩ : ByteArray), (⟨#[194, 169, 61, 49, 32, 194, 169, 61, 49, 32, 194, 169, 120]⟩ : ByteArray), (⟨#[38, 35, 54, 53, 59, 32, 38, 35, 120, 52, 49, 59, 32, 38, 35, 88, 52, 49, 32, 38, 35, 54, 53, 120, 32, 38, 35, 59, 32, 38, 35, 120, 59, 32, 38, 35]⟩ : ByteArray), (⟨#[65, 32, 65, 32, 65, 32, 65, 120, 32, 38, 35, 59, 32, 38, 35, 120, 59, 32, 38, 35]⟩ : ByteArray), (⟨#[38, 35, 48, 59, 32, 38, 35, 120, 68, 56, 48, 48, 59, 32, 38, 35, 49, 49, 49, 52, 49, 49, 50, 59, 32, 38, 35, 49, 50, 56, 59, 32, 38, 35, 49, 50, 57, 59]⟩ : ByteArray), (⟨#[239, 191, 189, 32, 239, 191, 189, 32, 239, 191, 189, 32, 226, 130, 172, 32, 194, 129]⟩ : ByteArray), (⟨#[38, 117, 110, 107, 110, 111, 119, 110, 59, 32, 38, 32, 38, 59, 32, 38, 65, 77, 80, 32, 38, 65, 109, 112, 59]⟩ : ByteArray), (⟨#[38, 117, 110, 107, 110, 111, 119, 110, 59, 32, 38, 32, 38, 59, 32, 38, 32, 38, 65, 109, 112, 59]⟩ : ByteArray), (⟨#[38, 35, 57, 57, 57, 57, 57, 57, 57, 57, 57, 57, 57, 57, 57, 57, 57, 57, 57, 57, 57, 57, 57, 57, 57, 59, 38, 35, 120, 48, 48, 48, 48, 48, 48, 48, 48, 48, 48, 48, 48, 48, 48, 52, 49, 59, 38, 35, 49, 51, 59]⟩ : ByteArray), (⟨#[239, 191, 189, 65, 13]⟩ : ByteArray), (⟨#[38, 38, 97, 109, 112, 59, 38]⟩ : ByteArray), (⟨#[38, 38, 38]⟩ : ByteArray), (⟨#[]⟩ : ByteArray), (⟨#[]⟩ : ByteArray)] : List ByteArray))
theorem KL_len : KL.length = 16 := rfl
def kl (i : Nat) : List UInt8 := (KL.getD i ByteArray.empty).data.toList
theorem kl_rd (i : Nat) (h : i < 16) : rdOf ByteArray.empty KL (i : Int) = mk (kl i) := by
  unfold rdOf kl
  rw [Int.toNat_natCast, ← mk_of]
theorem kl_ok : ∀ i : Fin 8, dec false (kl (2 * i.val)) = kl (2 * i.val + 1) ∧ (kl (2 * i.val)).length ≤ 100 := by decide +kernel
theorem RT_known : RT.all (fun e => decide ((Lib.encodeRune e.f1).length ≤ 4) && (decide ((dec false (38 :: nm e) == Lib.encodeRune e.f1) = e.f2) || decide (nm e = [110, 111, 116, 105, 110]) || decide (nm e = [105, 110]))) = true := by decide +kernel
theorem known_l3 : ∀ (m n : Nat), 176 - n = m → 112 ≤ n → n ≤ 176 → Ev (fun k => selvedgelaw03_CharrefKnown.l3 k (n : Int)) true := by
  intro m
  induction m with
  | zero =>
    intro n h h1 h2
    refine E.succ ?_
    simp only [selvedgelaw03_CharrefKnown.l3]
    have e : dec true [38, 110, 111, 116, 105, 110, 32, 38, 110, 111, 116, 105] = [38, 110, 111, 116, 105, 110, 32, 38, 110, 111, 116, 105] := by decide +kernel
    have hd := dec_ev [38, 110, 111, 116, 105, 110, 32, 38, 110, 111, 116, 105] true (by decide)
    rw [e] at hd
    exact E.neg (by omega) (E.bnd hd (E.pos (mk_toList _) (E.bnd works_ev (E.ret rfl))))
  | succ m ih =>
    intro n h h1 h2
    refine E.succ ?_
    simp only [selvedgelaw03_CharrefKnown.l3]
    have em : (n : Int) % 4294967296 = (n : Int) := by omega
    have ew : wrap32 ((n : Int) + 1) = ((n + 1 : Nat) : Int) := by rw [wrap32_in ⟨by omega, by omega⟩]; omega
    rw [em, ew]
    obtain ⟨D, d1, d2, d3, d4, d5⟩ := digits_ev 10 (by decide) 0 (by decide) n (by omega) (by omega)
    refine E.pos (by omega) (E.bnd d5 ?_)
    have x1 : (⟨#[38, 35]⟩ : ByteArray) = mk [38, 35] := rfl
    have x3 : (⟨#[59]⟩ : ByteArray) = mk [59] := rfl
    have l2 : ([38, 35] : List UInt8).length = 2 := rfl
    simp only [x1, x3, mk_app, mk_size]
    refine E.pos (by omega) (E.pos (by rw [List.length_append, l2]; omega) (E.bnd (decodes_ev _ false) (E.pos rfl ?_)))
    exact ih (n + 1) (by omega) (by omega) (by omega)
def RS : List ByteArray := [(⟨#[]⟩ : ByteArray), (⟨#[59]⟩ : ByteArray), (⟨#[61]⟩ : ByteArray), (⟨#[120]⟩ : ByteArray), (⟨#[32]⟩ : ByteArray), (⟨#[59, 59]⟩ : ByteArray), (⟨#[38]⟩ : ByteArray)]
theorem RS_all : RS.all (fun s => decide (s.size ≤ 2)) = true := by decide +kernel
theorem known_l2 (e : S26) (a b : List S26) (hR : RT = a ++ e :: b) (nx : Ev (fun k => selvedgelaw03_CharrefKnown.l1 k RT ((a.length + 1 : Nat) : Int)) true) : ∀ (d p : List ByteArray), RS = p ++ d → Ev (fun k => selvedgelaw03_CharrefKnown.l2 k RT (a.length : Int) (mk (38 :: nm e)) RS (RS.length : Int) (p.length : Int)) true := by
  have he : e ∈ RT := by rw [hR]; simp
  have hq := RT_look he
  have hal : a.length + (b.length + 1) = RT.length := by rw [hR]; simp
  have hRL := RT_len
  have hRSL : RS.length = 7 := rfl
  have hrd : rd_T26 RT (a.length : Int) = e := by rw [hR]; exact rd26 a e b
  intro d
  induction d with
  | nil =>
    intro p hp
    have hpl : p.length = RS.length := by rw [hp]; simp
    have hk := List.all_eq_true.1 RT_known e he
    simp only [Bool.and_eq_true, decide_eq_true_eq, Bool.or_eq_true] at hk
    have ew : wrap64 ((a.length : Int) + 1) = ((a.length + 1 : Nat) : Int) := by rw [E.w64 (by omega) (by omega)]; omega
    refine E.succ ?_
    simp only [selvedgelaw03_CharrefKnown.l2, hrd, mk_size, ew]
    have x3 : (⟨#[59]⟩ : ByteArray) = mk [59] := rfl
    simp only [x3, mk_app]
    refine E.neg (by omega) (E.pos (by omega) (E.pos (by omega) (E.bnd (string1_ev e.f1) (E.pos (by rw [List.length_cons]; omega) (E.bnd (dec_ev _ true (by rw [List.length_append, List.length_cons, List.length_singleton]; omega)) (E.pos ?_ (E.bnd (dec_ev _ false (by rw [List.length_cons]; omega)) ?_)))))))
    · have := dec_name (w := nm e) (x := (e.f1, e.f2)) hq.1 [] true
      rw [dec_nil, List.append_nil] at this
      rw [mk_toList, mk_toList]
      exact this
    · simp only [mk_toList]
      have hn : e.f0.toList = nm e := by rw [Lib.toList_data]; rfl
      rw [hn]
      by_cases q : ((dec false (38 :: nm e) == Lib.encodeRune e.f1) != e.f2) = true
      · refine E.pos q ?_
        by_cases q1 : nm e = [110, 111, 116, 105, 110]
        · exact E.pos q1 nx
        · refine E.neg q1 ?_
          rcases hk.2 with (z | z) | z
          · rw [z] at q
            simp at q
          · exact absurd z q1
          · exact E.pos z nx
      · exact E.neg q nx
  | cons s d ih =>
    intro p hp
    have hpl : p.length + (d.length + 1) = RS.length := by rw [hp]; simp
    have hr : rdOf ByteArray.empty RS (p.length : Int) = s := by
      unfold rdOf
      rw [Int.toNat_natCast, List.getD_eq_getElem?_getD, hp, List.getElem?_append_right (Nat.le_refl _)]
      simp
    have hsz : s.size ≤ 2 := of_decide_eq_true (List.all_eq_true.1 RS_all s (by rw [hp]; simp))
    refine E.succ ?_
    simp only [selvedgelaw03_CharrefKnown.l2, hr, mk_size]
    have hb : 0 ≤ (a.length : Int) % 256 ∧ (a.length : Int) % 256 ≤ 255 := by omega
    refine E.pos (by omega) (E.pos (by omega) (E.pos (by omega) (E.pos (by rw [List.length_cons]; omega) (E.bnd (finds_ev _ s _ hb.1 hb.2 true) (E.pos rfl (E.bnd (finds_ev _ s _ hb.1 hb.2 false) (E.pos rfl ?_)))))))
    have n2 := ih (p ++ [s]) (by rw [hp]; simp)
    rw [List.length_append, List.length_singleton] at n2
    rw [E.w64 (by omega) (by omega)]
    exact n2
theorem known_l1 : ∀ (b a : List S26), RT = a ++ b → Ev (fun k => selvedgelaw03_CharrefKnown.l1 k RT (a.length : Int)) true := by
  intro b
  induction b with
  | nil =>
    intro a ha
    have : a.length = RT.length := by rw [ha]; simp
    refine E.succ ?_
    simp only [selvedgelaw03_CharrefKnown.l1]
    exact E.neg (by omega) (known_l3 64 112 rfl (by decide) (by decide))
  | cons e b ih =>
    intro a ha
    have he : e ∈ RT := by rw [ha]; simp
    have hq := RT_look he
    have hal : a.length + (b.length + 1) = RT.length := by rw [ha]; simp
    have hrd : rd_T26 RT (a.length : Int) = e := by rw [ha]; exact rd26 a e b
    have nx := ih (a ++ [e]) (by rw [ha]; simp)
    rw [List.length_append, List.length_singleton] at nx
    refine E.succ ?_
    simp only [selvedgelaw03_CharrefKnown.l1, hrd]
    have em : (⟨#[38]⟩ : ByteArray) ++ e.f0 = mk (38 :: nm e) := by
      rw [mk_nm e]
      exact mk_app [38] (nm e)
    rw [em]
    have hsz : e.f0.size = (nm e).length := by unfold nm; rw [Array.length_toList]; rfl
    refine E.pos (by omega) (E.pos (by omega) (E.pos (by omega) (E.bno rfl ?_)))
    exact known_l2 e a b ha nx RS [] rfl
theorem known_l0 : ∀ (m i : Nat), 8 - i = m → i ≤ 8 → Ev (fun k => selvedgelaw03_CharrefKnown.l0 k KL ((2 * i : Nat) : Int)) true := by
  have hKL := KL_len
  intro m
  induction m with
  | zero =>
    intro i h hi
    refine E.succ ?_
    simp only [selvedgelaw03_CharrefKnown.l0]
    exact E.neg (by omega) (E.bno RT_f (known_l1 RT [] rfl))
  | succ m ih =>
    intro i h hi
    have hok := kl_ok ⟨i, by omega⟩
    dsimp only at hok
    have ew : wrap64 (((2 * i : Nat) : Int) + 1) = ((2 * i + 1 : Nat) : Int) := by rw [E.w64 (by omega) (by omega)]; omega
    have ew2 : wrap64 (((2 * i : Nat) : Int) + 2) = ((2 * (i + 1) : Nat) : Int) := by rw [E.w64 (by omega) (by omega)]; omega
    refine E.succ ?_
    simp only [selvedgelaw03_CharrefKnown.l0, ew, ew2, kl_rd (2 * i) (by omega), kl_rd (2 * i + 1) (by omega)]
    refine E.pos (by omega) (E.pos (by omega) (E.bnd (dec_ev _ false (by omega)) (E.pos (by omega) (E.pos (by omega) (E.pos ?_ (ih (i + 1) (by omega) (by omega)))))))
    rw [hok.1]
theorem CharrefKnown : selvedgelaw03_CharrefKnown.Pure := E.out (g := fun k => selvedgelaw03_CharrefKnown.f k) (known_l0 8 0 rfl (by decide))
end Go.Proofs.YtaohghcmlohngaaDoor.Pure
