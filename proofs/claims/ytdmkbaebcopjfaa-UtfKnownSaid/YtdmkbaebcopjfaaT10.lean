import Derived.Test.YtdmkbaebcopjfaaPureUtfDecodes
import Derived.Test.YtdmkbaebcopjfaaPureUtfRunes
import Derived.Test.YtdmkbaebcopjfaaPureUtfStrings
/-! The law UtfKnown: its walk. -/
namespace Go.Proofs.Ytdmkbaebcopjfaa.X
open Go.RowKit Go.Proofs.YtdmkbaebcopjfaaW.PrintWords Go.Proofs.YtdmkbaebcopjfaaW.PrintLast Go.Proofs.YtdmkbaebcopjfaaW.PrintMore
attribute [local go_sem] max2_int min2_int max_two min_two max_three min_three max_four min_four   -- for this text's walks alone
set_option linter.unusedVariables false
set_option linter.unusedSimpArgs false

/-- The chapter's examples. -/
def kn : List ByteArray := [⟨#[195, 169]⟩, ⟨#[195, 169]⟩, ⟨#[195]⟩, ⟨#[239, 191, 189]⟩, ⟨#[195, 40]⟩, ⟨#[239, 191, 189, 40]⟩, ⟨#[226, 130, 40]⟩, ⟨#[239, 191, 189, 40]⟩, ⟨#[240, 128, 128]⟩, ⟨#[239, 191, 189, 239, 191, 189, 239, 191, 189]⟩, ⟨#[128]⟩, ⟨#[239, 191, 189]⟩, ⟨#[237, 160, 128]⟩, ⟨#[239, 191, 189, 239, 191, 189, 239, 191, 189]⟩, ⟨#[244, 144]⟩, ⟨#[239, 191, 189, 239, 191, 189]⟩, ⟨#[192, 175]⟩, ⟨#[239, 191, 189, 239, 191, 189]⟩, ⟨#[240, 159, 152]⟩, ⟨#[239, 191, 189]⟩, ⟨#[240, 159, 152, 128]⟩, ⟨#[240, 159, 152, 128]⟩, ⟨#[13, 13, 10, 10, 13]⟩, ⟨#[10, 10, 10, 10]⟩, ⟨#[]⟩, ⟨#[]⟩, ⟨#[239, 187, 191]⟩, ⟨#[239, 187, 191]⟩, ⟨#[0]⟩, ⟨#[0]⟩]
theorem kn_ok : ∀ j : Nat, j < 15 → utf_Decode.f (bytesOf (rdOf ByteArray.empty kn (2 * (j : Int)))) = some (rdOf ByteArray.empty kn (2 * (j : Int) + 1), 0) := by decide +kernel
theorem CS_of_cells {W : World} {g : Nat} {xs : List ByteArray} {t : TypeId} {fr : Nat × Nat} (h : W.heap[g]? = some (.cells (xs.map Value.string).toArray t fr)) (hm : xs.length ≤ 9223372036854775807) : Kd.string.C W (some ⟨g, 0, none⟩) xs.length xs := by
  refine ⟨rfl, hm, fun _ => ⟨⟨g, 0, none⟩, rfl, fun j p hj => ⟨[.string p], rfl, rfl, fun i u hu => ?_⟩⟩⟩
  match i, hu with
  | 0, hu =>
    simp at hu
    subst hu
    show W.cell? ((⟨g, 0, none⟩ : Addr).add (j * 1 + 0)) = _
    have e : (⟨g, 0, none⟩ : Addr).add (j * 1 + 0) = ⟨g, j, none⟩ := by simp [Addr.add]; omega
    rw [e]
    simp only [World.cell?, h]
    rw [List.getElem?_toArray, List.getElem?_map, hj]
    rfl
set_option maxRecDepth 100000 in
theorem lit5 (x y : Int) (W : World) : (Instr.buildSlice 22 5 #[(0, .int .u8 x), (1, .int .u8 y), (2, .int .u8 128), (3, .int .u8 191), (4, .int .u8 120)]).run Try.prog W = .ok (.slice (some ⟨W.heap.size, 0, none⟩) 5 5) (W.alloc (.cells #[.int .u8 x, .int .u8 y, .int .u8 128, .int .u8 191, .int .u8 120] 5)) := by
  go_simp
set_option maxRecDepth 100000 in
theorem lit3 (x y : Int) (W : World) : (Instr.buildSlice 22 3 #[(0, .int .u8 x), (1, .int .u8 y), (2, .int .u8 128)]).run Try.prog W = .ok (.slice (some ⟨W.heap.size, 0, none⟩) 3 3) (W.alloc (.cells #[.int .u8 x, .int .u8 y, .int .u8 128] 5)) := by
  go_simp
def knr : List Int := [(-1), 0, 127, 128, 2047, 2048, 55295, 55296, 57343, 57344, 65535, 65536, 1114111, 1114112, 2147483647, (-2147483648)]
set_option maxRecDepth 100000 in
theorem lit16 (W : World) : (Instr.buildSlice 28 16 #[(0, .int .i32 (-1)), (1, .int .i32 0), (2, .int .i32 127), (3, .int .i32 128), (4, .int .i32 2047), (5, .int .i32 2048), (6, .int .i32 55295), (7, .int .i32 55296), (8, .int .i32 57343), (9, .int .i32 57344), (10, .int .i32 65535), (11, .int .i32 65536), (12, .int .i32 1114111), (13, .int .i32 1114112), (14, .int .i32 2147483647), (15, .int .i32 (-2147483648))]).run Try.prog W = .ok (.slice (some ⟨W.heap.size, 0, none⟩) 16 16) (W.alloc (.cells #[.int .i32 (-1), .int .i32 0, .int .i32 127, .int .i32 128, .int .i32 2047, .int .i32 2048, .int .i32 55295, .int .i32 55296, .int .i32 57343, .int .i32 57344, .int .i32 65535, .int .i32 65536, .int .i32 1114111, .int .i32 1114112, .int .i32 2147483647, .int .i32 (-2147483648)] 21)) := by
  go_simp
theorem dec_zeros : ∃ V : ByteArray, utf_Decode.f (List.replicate 65536 0) = some (V, 0) := ⟨decV (List.replicate 65536 0), by unfold utf_Decode.f; rw [if_pos (by rw [List.length_replicate]; exact Nat.le_refl _)]⟩
theorem dec_long : utf_Decode.f (List.replicate 65537 0) = some (⟨#[]⟩, 3) := by unfold utf_Decode.f; rw [if_neg (by rw [List.length_replicate]; omega)]
set_option maxHeartbeats 8000000 in
set_option maxRecDepth 100000 in
theorem known_c (w : World) : Calls Try.prog 8 #[] w fun e w' => e = .returned (.bool true) ∧ Below w.heap.size w w' := by
  have hcs : ∀ fr : Nat × Nat, Kd.string.C (w.alloc (.cells (kn.map Value.string).toArray 9 fr)) (some ⟨w.heap.size, 0, none⟩) kn.length kn := fun fr => CS_of_cells (heap_alloc_new w _) (by decide)
  have HCS := Aside0.mk hcs
  have hb0 : ∀ fr : Nat × Nat, Below w.heap.size w (w.alloc (.cells (kn.map Value.string).toArray 9 fr)) := fun fr => below_alloc (Below.refl _ w) _
  have HB0 := Aside0.mk hb0
  clear hcs hb0
  go_enter Try.func8, Try.ntmps8
  go_wp2
  have HC := Aside0.mk (HCS.out (0, 0))
  have HB := Aside0.mk (HB0.out (0, 0))
  clear HCS HB0
  generalize hw1 : w.alloc (.cells _ 9 _) = w1
  have HC1 : Aside0 (Kd.string.C w1 (some ⟨w.heap.size, 0, none⟩) 30 kn) := by rw [← hw1]; exact HC
  have HB1 : Aside0 (Below w.heap.size w w1) := by rw [← hw1]; exact HB
  clear hw1 HC HB
  generalize hA : (⟨w.heap.size, 0, none⟩ : Addr) = ad at HC1 ⊢
  clear hA
  go_loopw [2] (fun v2 wr => ∃ j : Nat, j ≤ 15 ∧ v2 = .int .i64 (2 * (j : Int)) ∧ Aside0 (Below w1.heap.size w1 wr)) (fun v2 _ => 30 - (intOf v2).toNat)
  case atStart => exact ⟨0, by omega, rfl, ⟨Below.refl _ _⟩⟩
  case round =>
    as_aux_lemma =>
    obtain ⟨j, hj, rfl, HB⟩ := hrel
    by_cases hlt : j < 15
    · have HD := Aside0.mk (kn_ok j hlt)
      obtain ⟨i, hi⟩ : ∃ i : Int, 2 * (j : Int) = i := ⟨_, rfl⟩
      have hi0 : 0 ≤ i := by omega
      have hi1 : i + 1 < 30 := by omega
      rw [hi] at HD ⊢
      obtain ⟨_, e0, x0⟩ := Kd.at_string HC1.out i hi0 (by omega)
      cases e0
      obtain ⟨_, e1, x1⟩ := Kd.at_string HC1.out (i + 1) (by omega) (by omega)
      cases e1
      replace x0 := (HB.out.cell (World.block_lt_of_cell? w1 _ x0)).trans x0
      replace x1 := (HB.out.cell (World.block_lt_of_cell? w1 _ x1)).trans x1
      generalize rdOf ByteArray.empty kn i = s0 at HD x0
      generalize rdOf ByteArray.empty kn (i + 1) = s1 at HD x1
      have bl : decide (i < 30) = true := decide_eq_true (by omega)
      have bl0 : decide (0 ≤ i) = true := decide_eq_true hi0
      have bl1 : decide (i + 1 < 30) = true := decide_eq_true hi1
      have bl2 : decide (0 ≤ i + 1) = true := decide_eq_true (by omega)
      have hw64 : i + 2 ≤ 9223372036854775807 := by omega
      have hss : s0.size ≤ 9223372036854775807 := by
        have h := HD.out
        unfold utf_Decode.f at h
        by_cases q : (bytesOf s0).length ≤ 65536
        · rw [bytesOf_length] at q; omega
        · rw [if_neg q] at h; cases h
      have hcv2 := print_bytes (P := Try.prog) 9 22 5 Try.underlying9 Try.underlying22 Try.underlying5 s0 wr
      have DC := utf_Decode.calls (some ⟨wr.heap.size, 0, none⟩) (grownCap wr s0.size 0 5) (bytesOf s0) s1 0 (Lib.bytesWorld wr 5 s0) (bs_C wr s0 hss) (by rw [bytesOf_length]; exact grownCap_ge _ _ _ _) HD.out
      rw [bytesOf_length] at DC
      have HDC := Aside0.mk DC
      have HX1 := Aside0.mk x1
      clear DC HD hss x1
      go_wp2_with (go_at_call 10; fail)
      refine HDC.out.mono ?_
      rintro e w3 ⟨rfl, hB3⟩
      have HB3 := Aside0.mk (hB3.mono (bs_size wr s0))
      have x1 := HX1.out
      have x1' := (((bytes_below (Below.refl wr.heap.size wr) (Nat.le_refl _) 5 s0).trans HB3.out).cell (World.block_lt_of_cell? wr _ x1)).trans x1
      have HB4 := Aside0.mk ((bytes_below HB.out HB.out.size 5 s0).trans (HB3.out.mono HB.out.size))
      have es : (s1.toList != s1.toList) = false := by simp
      clear hB3 HDC hcv2 x0 x1 HX1 HB3
      go_wp2
      go_roundw
      case rel => exact ⟨j + 1, by omega, by go_num, HB4⟩
      case measure => simp [intOf]; omega
    · obtain rfl : j = 15 := by omega
      rw [show (2 * ((15 : Nat) : Int)) = 30 from rfl]
      clear hlt hj
      have HB2 := Aside0.mk (HB1.out.trans (HB.out.mono HB1.out.size))
      clear HB HB1 HC1
      go_wp2
      go_loopw [5, 6] (fun v5 v6 wq => ∃ a : Int, 0 ≤ a ∧ a ≤ 256 ∧ v5 = .int .i64 a ∧ Aside0 (Below w.heap.size w wq)) (fun v5 _ _ => 256 - (intOf v5).toNat)
      case atStart => exact ⟨0, by omega, by omega, rfl, HB2⟩
      case round =>
        as_aux_lemma =>
        obtain ⟨a, ha0, ha1, rfl, HB⟩ := hrel
        by_cases hlt : a < 256
        · have bl : decide (a < 256) = true := decide_eq_true hlt
          go_wp2
          go_loopw [6] (fun v6 wp => ∃ b : Int, 0 ≤ b ∧ b ≤ 260 ∧ v6 = .int .i64 b ∧ Aside0 (Below w.heap.size w wp)) (fun v6 _ => 260 - (intOf v6).toNat)
          case atStart => exact ⟨0, by omega, by omega, rfl, HB⟩
          case round =>
            as_aux_lemma =>
            obtain ⟨b, hb0, hb1, rfl, HB⟩ := hrel
            by_cases hltb : b < 256
            · have blb : decide (b < 256) = true := decide_eq_true hltb
              obtain ⟨x, hx⟩ : ∃ x : Int, a % 256 = x := ⟨_, rfl⟩
              obtain ⟨y, hy⟩ : ∃ y : Int, b % 256 = y := ⟨_, rfl⟩
              have wa : IntKind.u8.wrap a = x := by rw [IntKind.wrap_u8]; exact hx
              have wb : IntKind.u8.wrap b = y := by rw [IntKind.wrap_u8]; exact hy
              go_wp2_with (first | ((with_reducible refine gate_dst (N := 50) rfl ?_); refine Kd.R_lit (Kd.int .u8) _ 5 ?hg (N := 50) ?hd (xs := ([x, y, 128, 191, 120] : List Int)) (inner := [.int .u8 x, .int .u8 y, .int .u8 128, .int .u8 191, .int .u8 120]) (ok := fun _ => True) (okp := fun _ => True) ?hr ?hp (fun _ hk => hk) trivial (Below.refl _ _) (Nat.le_refl _) (by simp) ?_; (case hd => rfl); (case hg => rfl); (case hr => (simp [execOp, Act.eval]; rw [lit5]; rfl)); (case hp => exact (Reps.one (show Kd.M (Kd.int .u8) _ _ _ x [.int .u8 x] from rfl) (Reps.one (show Kd.M (Kd.int .u8) _ _ _ y [.int .u8 y] from rfl) (Reps.one (show Kd.M (Kd.int .u8) _ _ _ 128 [.int .u8 128] from rfl) (Reps.one (show Kd.M (Kd.int .u8) _ _ _ 191 [.int .u8 191] from rfl) (Reps.one (show Kd.M (Kd.int .u8) _ _ _ 120 [.int .u8 120] from rfl) (Reps.none _ _))))))); intro v50 w50 ho8 hb8 hg_ hnew_; clear hg_ hnew_; have HO8 := Aside0.mk ho8; have HB8 := Aside0.mk hb8; clear ho8 hb8; obtain ⟨A8, c8, e8, hc8, hC8⟩ := Kd.R_reads HO8.out; subst e8; have HC8 := Aside0.mk hC8; have HCC8 := Aside0.mk hc8; clear hC8 hc8) | (go_at_call 3; fail))
              have hx0 : 0 ≤ x ∧ x ≤ 255 := by omega
              have hy0 : 0 ≤ y ∧ y ≤ 255 := by omega
              obtain ⟨k3, hk3⟩ := Pure.UtfDecodes [x, y, 128, 191, 120] (by simp [maxLen]) (by simp) (by
                intro z hz
                simp at hz
                simp [Lit.wf, IntKind.min, IntKind.max, IntKind.signed, IntKind.bits]
                omega)
              refine (selvedgelaw02_UtfDecodes.calls k3 A8 c8 [x, y, 128, 191, 120] true w50 HC8.out HCC8.out hk3).mono ?_
              rintro e w51 ⟨rfl, hB51⟩
              have HB51 := Aside0.mk ((HB.out.trans (HB8.out.mono HB.out.size)).trans (hB51.mono (Nat.le_trans HB.out.size HB8.out.size)))
              clear hB51 HC8 HCC8 HB8 HO8 hk3
              obtain ⟨k4, hk4⟩ := Pure.UtfRunes (strOfNums [x, y, 128]) (by rw [strOfNums_size]; simp)
              have HK4 := Aside0.mk hk4
              clear hk4
              have hw64 : b + 5 ≤ 9223372036854775807 := by omega
              go_wp2_with (first | ((with_reducible refine gate_dst (N := 58) rfl ?_); refine gate_guard (by kernel_rfl) ?_; refine Kd.R_lit (Kd.int .u8) _ 5 ?hg (N := 58) ?hd (xs := ([x, y, 128] : List Int)) (inner := [.int .u8 x, .int .u8 y, .int .u8 128]) (ok := fun _ => True) (okp := fun _ => True) ?hr ?hp (fun _ hk => hk) trivial (Below.refl _ _) (Nat.le_refl _) (by simp) ?_; (case hd => rfl); (case hg => rfl); (case hr => (simp [execOp, Act.eval]; rw [lit3]; rfl)); (case hp => exact (Reps.one (show Kd.M (Kd.int .u8) _ _ _ x [.int .u8 x] from rfl) (Reps.one (show Kd.M (Kd.int .u8) _ _ _ y [.int .u8 y] from rfl) (Reps.one (show Kd.M (Kd.int .u8) _ _ _ 128 [.int .u8 128] from rfl) (Reps.none _ _))))); intro v58 w58 ho9 hb9 hg_ hnew_; clear hg_ hnew_; obtain ⟨A9, c9, e9, hc9, hC9⟩ := Kd.R_reads ho9; subst e9; have hcv9 := Kd.C_string (P := Try.prog) (A := A9) (n := 3) (c := c9) Try.underlying22 Try.underlying5 Try.underlying9 hC9; have HB58 := Aside0.mk (HB51.out.trans (hb9.mono HB51.out.size)); clear ho9 hb9 hc9 hC9) | (go_at_call 4; fail))
              refine (selvedgelaw02_UtfRunes.calls k4 (strOfNums [x, y, 128]) true _ HK4.out).mono ?_
              rintro e w59 ⟨rfl, hB59⟩
              have HB59 := Aside0.mk (HB58.out.trans (hB59.mono HB58.out.size))
              clear hB59 HB58 HB51 hcv9 HK4
              go_wp2
              go_roundw
              case rel => exact ⟨b + 5, by omega, by omega, by go_num, HB59⟩
              case measure => simp [intOf]; omega
            · have blb : decide (b < 256) = false := decide_eq_false hltb
              have hw64 : a + 1 ≤ 9223372036854775807 := by omega
              go_wp2
              go_roundw
              case rel => exact ⟨a + 1, by omega, by omega, by go_num, HB⟩
              case measure => simp [intOf]; omega
        · obtain rfl : a = 256 := by omega
          obtain ⟨V, hV⟩ := dec_zeros
          have HV := Aside0.mk hV
          clear hV
          go_wp2_with (first | ((with_reducible refine gate_dst (N := 64) rfl ?_); refine Kd.R_make (Kd.int .u8) _ 5 rfl (N := 64) rfl 22 _ _ rfl 65536 rfl rfl Try.underlying22 (.int .u8 0) 1 (by kernel_rfl) rfl (by decide) (by decide) 0 (ok := fun _ => True) (okp := fun _ => True) rfl (fun _ hk => hk) trivial (by decide) (by decide) (Below.refl _ _) (Nat.le_refl _) ?_; intro v64 w64 ho hb hg_ hn_; clear hg_ hn_; obtain ⟨A64, c64, e64, hc64, hC64⟩ := Kd.R_reads (xs := List.replicate 65536 0) ho; have HM64 := Aside0.mk (And.intro hc64 (And.intro hC64 hb)); rw [List.length_replicate] at e64; subst e64; clear ho hb hc64 hC64) | (go_at_call 10; fail))
          have D64 := utf_Decode.calls A64 c64 (List.replicate 65536 0) V 0 w64 HM64.out.2.1 HM64.out.1 HV.out
          rw [List.length_replicate] at D64
          refine D64.mono ?_
          rintro e w65 ⟨rfl, hB65⟩
          have HB65 := Aside0.mk ((HB.out.trans (HM64.out.2.2.mono HB.out.size)).trans (hB65.mono (Nat.le_trans HB.out.size HM64.out.2.2.size)))
          clear hB65 D64 HM64 HV HB
          go_wp2_with (first | ((with_reducible refine gate_dst (N := 69) rfl ?_); refine Kd.R_make (Kd.int .u8) _ 5 rfl (N := 69) rfl 22 _ _ rfl 65537 rfl rfl Try.underlying22 (.int .u8 0) 1 (by kernel_rfl) rfl (by decide) (by decide) 0 (ok := fun _ => True) (okp := fun _ => True) rfl (fun _ hk => hk) trivial (by decide) (by decide) (Below.refl _ _) (Nat.le_refl _) ?_; intro v69 w69 ho hb hg_ hn_; clear hg_ hn_; obtain ⟨A69, c69, e69, hc69, hC69⟩ := Kd.R_reads (xs := List.replicate 65537 0) ho; have HM69 := Aside0.mk (And.intro hc69 (And.intro hC69 hb)); rw [List.length_replicate] at e69; subst e69; clear ho hb hc69 hC69) | (go_at_call 10; fail))
          have D69 := utf_Decode.calls A69 c69 (List.replicate 65537 0) ⟨#[]⟩ 3 w69 HM69.out.2.1 HM69.out.1 dec_long
          rw [List.length_replicate] at D69
          refine D69.mono ?_
          rintro e w70 ⟨rfl, hB70⟩
          have HB70 := Aside0.mk ((HB65.out.trans (HM69.out.2.2.mono HB65.out.size)).trans (hB70.mono (Nat.le_trans HB65.out.size HM69.out.2.2.size)))
          clear hB70 D69 HM69 HB65
          go_wp2_with (first | ((with_reducible refine gate_dst (N := 84) rfl ?_); refine gate_guard (by kernel_rfl) ?_; refine Kd.R_lit (Kd.int .i32) _ 21 ?hg (N := 84) ?hd (xs := ([(-1), 0, 127, 128, 2047, 2048, 55295, 55296, 57343, 57344, 65535, 65536, 1114111, 1114112, 2147483647, (-2147483648)] : List Int)) (inner := [.int .i32 (-1), .int .i32 0, .int .i32 127, .int .i32 128, .int .i32 2047, .int .i32 2048, .int .i32 55295, .int .i32 55296, .int .i32 57343, .int .i32 57344, .int .i32 65535, .int .i32 65536, .int .i32 1114111, .int .i32 1114112, .int .i32 2147483647, .int .i32 (-2147483648)]) (ok := fun _ => True) (okp := fun _ => True) ?hr ?hp (fun _ hk => hk) trivial (Below.refl _ _) (Nat.le_refl _) (by simp) ?_; (case hd => rfl); (case hg => rfl); (case hr => (simp [execOp, Act.eval]; rw [lit16]; rfl)); (case hp => exact (Reps.one (show Kd.M (Kd.int .i32) _ _ _ (-1) [.int .i32 (-1)] from rfl) (Reps.one (show Kd.M (Kd.int .i32) _ _ _ 0 [.int .i32 0] from rfl) (Reps.one (show Kd.M (Kd.int .i32) _ _ _ 127 [.int .i32 127] from rfl) (Reps.one (show Kd.M (Kd.int .i32) _ _ _ 128 [.int .i32 128] from rfl) (Reps.one (show Kd.M (Kd.int .i32) _ _ _ 2047 [.int .i32 2047] from rfl) (Reps.one (show Kd.M (Kd.int .i32) _ _ _ 2048 [.int .i32 2048] from rfl) (Reps.one (show Kd.M (Kd.int .i32) _ _ _ 55295 [.int .i32 55295] from rfl) (Reps.one (show Kd.M (Kd.int .i32) _ _ _ 55296 [.int .i32 55296] from rfl) (Reps.one (show Kd.M (Kd.int .i32) _ _ _ 57343 [.int .i32 57343] from rfl) (Reps.one (show Kd.M (Kd.int .i32) _ _ _ 57344 [.int .i32 57344] from rfl) (Reps.one (show Kd.M (Kd.int .i32) _ _ _ 65535 [.int .i32 65535] from rfl) (Reps.one (show Kd.M (Kd.int .i32) _ _ _ 65536 [.int .i32 65536] from rfl) (Reps.one (show Kd.M (Kd.int .i32) _ _ _ 1114111 [.int .i32 1114111] from rfl) (Reps.one (show Kd.M (Kd.int .i32) _ _ _ 1114112 [.int .i32 1114112] from rfl) (Reps.one (show Kd.M (Kd.int .i32) _ _ _ 2147483647 [.int .i32 2147483647] from rfl) (Reps.one (show Kd.M (Kd.int .i32) _ _ _ (-2147483648) [.int .i32 (-2147483648)] from rfl) (Reps.none _ _)))))))))))))))))); intro v84 w84 ho hb hg_ hn_; clear hg_ hn_; obtain ⟨A84, c84, e84, hc84, hC84⟩ := Kd.R_reads ho; subst e84; have HM84 := Aside0.mk (And.intro hc84 (And.intro hC84 hb)); clear ho hb hc84 hC84) | (go_at_call 5; fail))
          obtain ⟨k5, hk5⟩ := Pure.UtfStrings knr (by simp [maxLen, knr]) (by simp [knr]) (by decide)
          refine (selvedgelaw02_UtfStrings.calls k5 A84 c84 knr true w84 HM84.out.2.1 HM84.out.1 hk5).mono ?_
          rintro e w85 ⟨rfl, hB85⟩
          have HB85 := Aside0.mk ((HB70.out.trans (HM84.out.2.2.mono HB70.out.size)).trans (hB85.mono (Nat.le_trans HB70.out.size HM84.out.2.2.size)))
          clear hB85 HM84 hk5 HB70
          go_wp2_with (go_at_call 9; fail)
          refine (selvedgelaw02_works.calls true _ rfl).mono ?_
          rintro e w86 ⟨rfl, hB86⟩
          have HB86 := Aside0.mk (HB85.out.trans (hB86.mono HB85.out.size))
          clear hB86 HB85
          go_wp2
          go_ret
          exact ⟨rfl, HB86.out⟩
end Go.Proofs.Ytdmkbaebcopjfaa.X
