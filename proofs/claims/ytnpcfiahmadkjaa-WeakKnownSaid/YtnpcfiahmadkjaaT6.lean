import Derived.Test.YtnpcfiahmadkjaaT9
import Derived.Deep.QuietTactic
import Derived.Deep.Cut
import Derived.IntWalk
import Derived.Deep.RegionHeld3
import Derived.Deep.AppendLies
import Derived.Deep.RegionLaw
namespace Go.Proofs.Ytnpcfiahmadkjaa.X
open Go.RowKit Go.Proofs.YtnpcfiahmadkjaaW.PrintWords Go.Proofs.YtnpcfiahmadkjaaW.PrintLast Go.Proofs.YtnpcfiahmadkjaaW.PrintMore
attribute [local go_sem] max2_int min2_int max_two min_two max_three min_three max_four min_four   -- for this text's walks alone
set_option linter.unusedVariables false
set_option linter.unusedSimpArgs false

def Res16 (w : World) (r : List Int) (e : Ending) (w' : World) : Prop := ∃ v0_ : Value, e = .returned (v0_) ∧ Kd.R (Kd.int .u8) 23 w' w.heap.size (fun _ => True) v0_ r ∧ Below w.heap.size w w'
theorem wkDA (X : World) (o : Obj) : (X.alloc o).drew = (X.drewN 1).alloc o := rfl
theorem wkInfo3 : (Try.prog.info? 3).map (fun i => (i.zero, i.size, i.bytes)) = some (some (.int .i64 0), 1, 8) := by kernel_rfl
set_option maxRecDepth 100000 in
def WkAtLabel (w : World) (A0 : Option Addr) (c0 : Nat) (l0 : List Int) (s : Int) (a' : Act) (w' : World) : Prop := ∃ (st k : Int) (u6 u7 u9 u10 u11 u12 u15 u16 u17 u18 u19 u20 u21 u22 u23 u24 u25 u26 u27 u28 u29 u30 u31 u32 u33 u34 u35 u36 u37 u38 u39 u40 u41 u42 u43 u44 u45 u46 u47 u48 u49 u50 u51 u52 u53 u54 u55 u56 u57 u58 u59 u60 u61 u62 u63 u64 u65 u66 u67 u68 u69 u70 u71 u72 u73 u74 u75 u76 u77 u78 u79 u80 u81 u82 u83 u84 u85 u86 u87 u88 u89 u90 u91 u92 u93 u94 u95 u96 u97 u98 u99 u100 u101 u102 u103 u104 u105 u106 u107 u108 u109 u110 u111 u112 u113 u114 u115 u116 u117 u118 u119 u120 u121 u122 u123 u124 u125 u126 u127 u128 u129 u130 u131 u132 u133 u134 u135 u136 u137 u138 u139 u140 u141 u142 u143 u144 u145 u146 u147 u148 u149 u150 u151 u152 u153 u154 u155 u156 u157 u158 u159 u160 u161 u162 u163 u164 u165 u166 u167 u168 u169 u170 u171 u172 u173 u174 u175 u176 u177 u178 u179 u180 u181 u182 u183 u184 u185 u186 : Value), a' = { tmps := #[.slice A0 l0.length c0, .int .u8 s, undef, undef, .slice none 0 0, .pointer (some ⟨w.heap.size + 1 + 1, 0, none⟩), u6, u7, .func (.func 15) #[] #[.pointer (some ⟨w.heap.size + 1 + 1, 0, none⟩)], u9, u10, u11, u12, .int .u8 st, .int .i64 k, u15, u16, u17, u18, u19, u20, u21, u22, u23, u24, u25, u26, u27, u28, u29, u30, u31, u32, u33, u34, u35, u36, u37, u38, u39, u40, u41, u42, u43, u44, u45, u46, u47, u48, u49, u50, u51, u52, u53, u54, u55, u56, u57, u58, u59, u60, u61, u62, u63, u64, u65, u66, u67, u68, u69, u70, u71, u72, u73, u74, u75, u76, u77, u78, u79, u80, u81, u82, u83, u84, u85, u86, u87, u88, u89, u90, u91, u92, u93, u94, u95, u96, u97, u98, u99, u100, u101, u102, u103, u104, u105, u106, u107, u108, u109, u110, u111, u112, u113, u114, u115, u116, u117, u118, u119, u120, u121, u122, u123, u124, u125, u126, u127, u128, u129, u130, u131, u132, u133, u134, u135, u136, u137, u138, u139, u140, u141, u142, u143, u144, u145, u146, u147, u148, u149, u150, u151, u152, u153, u154, u155, u156, u157, u158, u159, u160, u161, u162, u163, u164, u165, u166, u167, u168, u169, u170, u171, u172, u173, u174, u175, u176, u177, u178, u179, u180, u181, u182, u183, u184, u185, u186], defers := [] } ∧ Aside0 (WkJ w (w.heap.size + 1) (w.heap.size + 1 + 1) w.heap.size l0 s st k w')
set_option maxHeartbeats 8000000 in
set_option maxRecDepth 100000 in
theorem weak_Resolve_calls (A0 : Option Addr) (c0 : Nat) (l0 : List Int) (a1 : Int) (w : World) (hr0 : Kd.C (Kd.int .u8) w A0 l0.length l0) (hc0 : l0.length ≤ c0) (hlen : l0.length < 17592186044416) :
    Calls Try.prog 12 #[.slice A0 l0.length c0, .int .u8 a1] w (Res16 w (wkRes a1 l0)) := by
  have HR0 := Aside0.mk hr0
  have HC0 := Aside0.mk hc0
  have HB := Aside0.mk (Below.refl w.heap.size w)
  clear hr0 hc0
  have hu := Try.underlying36
  have hlen2 : l0.length ≤ 9223372036854775807 := by omega
  have hple := wkPlc_le l0 0
  have hmk := print_make (P := Try.prog) 22 23 .u8 1 Try.underlying22 info23 (by decide) l0.length (by omega)
  have LM := Aside0.mk hlen
  clear hlen
  obtain ⟨s, hs⟩ : ∃ s, s = wkSos a1 := ⟨_, rfl⟩
  have hss : s = 1 ∨ s = 2 := by rw [hs, wkSos]; split <;> simp
  rw [wkRes, ← hs]
  have HSS := Aside0.mk hss
  clear hss
  go_enter Try.func12, Try.ntmps12
  go_wp2
  refine wkJumps2 0 (WkAtLabel w A0 c0 l0 s) (fun a' w' => wkMuV (wkPlc 0 l0).length (wkPlc 0 l0) w.heap.size (a'.tmps[14]?.getD undef) w') rfl ?pass ?first
  case pass =>
    as_aux_lemma =>
    clear hs
    intro a wa hJ
    obtain ⟨st, hJ⟩ := hJ
    obtain ⟨k, hJ⟩ := hJ
    obtain ⟨u6, hJ⟩ := hJ
    obtain ⟨u7, hJ⟩ := hJ
    obtain ⟨u9, hJ⟩ := hJ
    obtain ⟨u10, hJ⟩ := hJ
    obtain ⟨u11, hJ⟩ := hJ
    obtain ⟨u12, hJ⟩ := hJ
    obtain ⟨u15, hJ⟩ := hJ
    obtain ⟨u16, hJ⟩ := hJ
    obtain ⟨u17, hJ⟩ := hJ
    obtain ⟨u18, hJ⟩ := hJ
    obtain ⟨u19, hJ⟩ := hJ
    obtain ⟨u20, hJ⟩ := hJ
    obtain ⟨u21, hJ⟩ := hJ
    obtain ⟨u22, hJ⟩ := hJ
    obtain ⟨u23, hJ⟩ := hJ
    obtain ⟨u24, hJ⟩ := hJ
    obtain ⟨u25, hJ⟩ := hJ
    obtain ⟨u26, hJ⟩ := hJ
    obtain ⟨u27, hJ⟩ := hJ
    obtain ⟨u28, hJ⟩ := hJ
    obtain ⟨u29, hJ⟩ := hJ
    obtain ⟨u30, hJ⟩ := hJ
    obtain ⟨u31, hJ⟩ := hJ
    obtain ⟨u32, hJ⟩ := hJ
    obtain ⟨u33, hJ⟩ := hJ
    obtain ⟨u34, hJ⟩ := hJ
    obtain ⟨u35, hJ⟩ := hJ
    obtain ⟨u36, hJ⟩ := hJ
    obtain ⟨u37, hJ⟩ := hJ
    obtain ⟨u38, hJ⟩ := hJ
    obtain ⟨u39, hJ⟩ := hJ
    obtain ⟨u40, hJ⟩ := hJ
    obtain ⟨u41, hJ⟩ := hJ
    obtain ⟨u42, hJ⟩ := hJ
    obtain ⟨u43, hJ⟩ := hJ
    obtain ⟨u44, hJ⟩ := hJ
    obtain ⟨u45, hJ⟩ := hJ
    obtain ⟨u46, hJ⟩ := hJ
    obtain ⟨u47, hJ⟩ := hJ
    obtain ⟨u48, hJ⟩ := hJ
    obtain ⟨u49, hJ⟩ := hJ
    obtain ⟨u50, hJ⟩ := hJ
    obtain ⟨u51, hJ⟩ := hJ
    obtain ⟨u52, hJ⟩ := hJ
    obtain ⟨u53, hJ⟩ := hJ
    obtain ⟨u54, hJ⟩ := hJ
    obtain ⟨u55, hJ⟩ := hJ
    obtain ⟨u56, hJ⟩ := hJ
    obtain ⟨u57, hJ⟩ := hJ
    obtain ⟨u58, hJ⟩ := hJ
    obtain ⟨u59, hJ⟩ := hJ
    obtain ⟨u60, hJ⟩ := hJ
    obtain ⟨u61, hJ⟩ := hJ
    obtain ⟨u62, hJ⟩ := hJ
    obtain ⟨u63, hJ⟩ := hJ
    obtain ⟨u64, hJ⟩ := hJ
    obtain ⟨u65, hJ⟩ := hJ
    obtain ⟨u66, hJ⟩ := hJ
    obtain ⟨u67, hJ⟩ := hJ
    obtain ⟨u68, hJ⟩ := hJ
    obtain ⟨u69, hJ⟩ := hJ
    obtain ⟨u70, hJ⟩ := hJ
    obtain ⟨u71, hJ⟩ := hJ
    obtain ⟨u72, hJ⟩ := hJ
    obtain ⟨u73, hJ⟩ := hJ
    obtain ⟨u74, hJ⟩ := hJ
    obtain ⟨u75, hJ⟩ := hJ
    obtain ⟨u76, hJ⟩ := hJ
    obtain ⟨u77, hJ⟩ := hJ
    obtain ⟨u78, hJ⟩ := hJ
    obtain ⟨u79, hJ⟩ := hJ
    obtain ⟨u80, hJ⟩ := hJ
    obtain ⟨u81, hJ⟩ := hJ
    obtain ⟨u82, hJ⟩ := hJ
    obtain ⟨u83, hJ⟩ := hJ
    obtain ⟨u84, hJ⟩ := hJ
    obtain ⟨u85, hJ⟩ := hJ
    obtain ⟨u86, hJ⟩ := hJ
    obtain ⟨u87, hJ⟩ := hJ
    obtain ⟨u88, hJ⟩ := hJ
    obtain ⟨u89, hJ⟩ := hJ
    obtain ⟨u90, hJ⟩ := hJ
    obtain ⟨u91, hJ⟩ := hJ
    obtain ⟨u92, hJ⟩ := hJ
    obtain ⟨u93, hJ⟩ := hJ
    obtain ⟨u94, hJ⟩ := hJ
    obtain ⟨u95, hJ⟩ := hJ
    obtain ⟨u96, hJ⟩ := hJ
    obtain ⟨u97, hJ⟩ := hJ
    obtain ⟨u98, hJ⟩ := hJ
    obtain ⟨u99, hJ⟩ := hJ
    obtain ⟨u100, hJ⟩ := hJ
    obtain ⟨u101, hJ⟩ := hJ
    obtain ⟨u102, hJ⟩ := hJ
    obtain ⟨u103, hJ⟩ := hJ
    obtain ⟨u104, hJ⟩ := hJ
    obtain ⟨u105, hJ⟩ := hJ
    obtain ⟨u106, hJ⟩ := hJ
    obtain ⟨u107, hJ⟩ := hJ
    obtain ⟨u108, hJ⟩ := hJ
    obtain ⟨u109, hJ⟩ := hJ
    obtain ⟨u110, hJ⟩ := hJ
    obtain ⟨u111, hJ⟩ := hJ
    obtain ⟨u112, hJ⟩ := hJ
    obtain ⟨u113, hJ⟩ := hJ
    obtain ⟨u114, hJ⟩ := hJ
    obtain ⟨u115, hJ⟩ := hJ
    obtain ⟨u116, hJ⟩ := hJ
    obtain ⟨u117, hJ⟩ := hJ
    obtain ⟨u118, hJ⟩ := hJ
    obtain ⟨u119, hJ⟩ := hJ
    obtain ⟨u120, hJ⟩ := hJ
    obtain ⟨u121, hJ⟩ := hJ
    obtain ⟨u122, hJ⟩ := hJ
    obtain ⟨u123, hJ⟩ := hJ
    obtain ⟨u124, hJ⟩ := hJ
    obtain ⟨u125, hJ⟩ := hJ
    obtain ⟨u126, hJ⟩ := hJ
    obtain ⟨u127, hJ⟩ := hJ
    obtain ⟨u128, hJ⟩ := hJ
    obtain ⟨u129, hJ⟩ := hJ
    obtain ⟨u130, hJ⟩ := hJ
    obtain ⟨u131, hJ⟩ := hJ
    obtain ⟨u132, hJ⟩ := hJ
    obtain ⟨u133, hJ⟩ := hJ
    obtain ⟨u134, hJ⟩ := hJ
    obtain ⟨u135, hJ⟩ := hJ
    obtain ⟨u136, hJ⟩ := hJ
    obtain ⟨u137, hJ⟩ := hJ
    obtain ⟨u138, hJ⟩ := hJ
    obtain ⟨u139, hJ⟩ := hJ
    obtain ⟨u140, hJ⟩ := hJ
    obtain ⟨u141, hJ⟩ := hJ
    obtain ⟨u142, hJ⟩ := hJ
    obtain ⟨u143, hJ⟩ := hJ
    obtain ⟨u144, hJ⟩ := hJ
    obtain ⟨u145, hJ⟩ := hJ
    obtain ⟨u146, hJ⟩ := hJ
    obtain ⟨u147, hJ⟩ := hJ
    obtain ⟨u148, hJ⟩ := hJ
    obtain ⟨u149, hJ⟩ := hJ
    obtain ⟨u150, hJ⟩ := hJ
    obtain ⟨u151, hJ⟩ := hJ
    obtain ⟨u152, hJ⟩ := hJ
    obtain ⟨u153, hJ⟩ := hJ
    obtain ⟨u154, hJ⟩ := hJ
    obtain ⟨u155, hJ⟩ := hJ
    obtain ⟨u156, hJ⟩ := hJ
    obtain ⟨u157, hJ⟩ := hJ
    obtain ⟨u158, hJ⟩ := hJ
    obtain ⟨u159, hJ⟩ := hJ
    obtain ⟨u160, hJ⟩ := hJ
    obtain ⟨u161, hJ⟩ := hJ
    obtain ⟨u162, hJ⟩ := hJ
    obtain ⟨u163, hJ⟩ := hJ
    obtain ⟨u164, hJ⟩ := hJ
    obtain ⟨u165, hJ⟩ := hJ
    obtain ⟨u166, hJ⟩ := hJ
    obtain ⟨u167, hJ⟩ := hJ
    obtain ⟨u168, hJ⟩ := hJ
    obtain ⟨u169, hJ⟩ := hJ
    obtain ⟨u170, hJ⟩ := hJ
    obtain ⟨u171, hJ⟩ := hJ
    obtain ⟨u172, hJ⟩ := hJ
    obtain ⟨u173, hJ⟩ := hJ
    obtain ⟨u174, hJ⟩ := hJ
    obtain ⟨u175, hJ⟩ := hJ
    obtain ⟨u176, hJ⟩ := hJ
    obtain ⟨u177, hJ⟩ := hJ
    obtain ⟨u178, hJ⟩ := hJ
    obtain ⟨u179, hJ⟩ := hJ
    obtain ⟨u180, hJ⟩ := hJ
    obtain ⟨u181, hJ⟩ := hJ
    obtain ⟨u182, hJ⟩ := hJ
    obtain ⟨u183, hJ⟩ := hJ
    obtain ⟨u184, hJ⟩ := hJ
    obtain ⟨u185, hJ⟩ := hJ
    obtain ⟨u186, hJ⟩ := hJ
    obtain ⟨rfl, HJ⟩ := hJ
    obtain ⟨vp, dn, cur, b, n, q1, q2, q3, q5, q4⟩ := HJ.out
    clear HJ
    have hk0 : 0 ≤ k := by omega
    obtain ⟨hc1, hc2, hc3⟩ := q1.cells
    obtain ⟨Ap, cp, ep, _, _⟩ := Kd.R_reads q1.1.p
    subst ep
    by_cases hn : k = (wkPlc 0 l0).length
    · as_aux_lemma =>
      have b1 : (k == ((wkPlc 0 l0).length : Int)) = true := beq_iff_eq.mpr hn
      have he := WkJ_end (W := wa) (w := w) (g := 0) (bx := 0) (bm := 0) (by omega) q3 q4
      rw [he] at q1
      have QH := Aside0.mk q1
      clear q1 q2 q3 q4 q5 hn he
      go_wp2
      simp only [Exit.jump]
      go_ret
      exact ⟨_, rfl, QH.out.1.o, QH.out.2.2⟩
    · as_aux_lemma =>
      obtain ⟨c, t, ec⟩ : ∃ c t, cur = c :: t := by
        cases cur with
        | nil => simp at q3; omega
        | cons c t => exact ⟨c, t, rfl⟩
      subst ec
      have hlt : k < ((wkPlc 0 l0).length : Int) := by rw [← q3]; simp; omega
      have b1 : (k == ((wkPlc 0 l0).length : Int)) = false := beq_eq_false_iff_ne.mpr hn
      clear hn
      have ATh : Calls Try.prog 16 #[.pointer (some ⟨w.heap.size + 1, 0, none⟩), .int .i64 (k)] wa fun e w' => e = .returned (.int .u8 (c)) ∧ ∃ m, w' = wa.drewN m := by
        have h := at_c q1.1 (k) (fun h0 h1 => wkPl_in l0 _ q3 _ h0 h1)
        rw [wkAtv _ _ q3, show wkAt _ (k) = c from by have h := wkAt_app dn (c :: t) 0 (by omega); rw [Int.add_zero, wkAt_zero, q2] at h; exact h] at h
        exact h.mono fun e w' hh => ⟨hh.1, by obtain ⟨m, hm⟩ := hh.2; exact ⟨m, hm⟩⟩
      by_cases hc : c = 6
      · as_aux_lemma =>
        subst hc
        obtain ⟨m, rest, er, hr⟩ := wkSplit t
        have ec : (6 : Int) :: t = List.replicate (m + 1) 6 ++ rest := by rw [er]; rfl
        have hS6 := wkHas6_of q1 q2 q3
        rw [ec] at q1 q3 q4
        clear ec er
        have hend : k + ((m : Int) + 1) ≤ (wkPlc 0 l0).length := by rw [← q3]; simp; omega
        by_cases hcl : dn.getLastD 10 = 4 ∨ rest.headD 10 = 4
        · as_aux_lemma =>
          have AR : ∀ j q, k ≤ j → j < k + ((m : Int) + 1) → Calls Try.prog 16 #[.pointer (some ⟨w.heap.size + 1, 0, none⟩), .int .i64 j] (wa.drewN q) fun e w' => e = .returned (.int .u8 6) ∧ ∃ m, w' = (wa.drewN q).drewN m := fun j q hj0 hj1 => by
            have h := at_c (q1.1.drewN q) j (fun h0 h1 => wkPl_in l0 _ q3 _ h0 h1)
            rw [wkAtv _ _ q3, show wkAt (dn ++ (List.replicate (m + 1) 6 ++ rest)) j = 6 from by rw [show j = (dn).length + (j - (k)) by omega, wkAt_app _ _ _ (by omega), wkAt_run _ _ _ (by omega) (by omega)]] at h
            exact h.mono fun e w' hh => ⟨hh.1, by obtain ⟨m, hm⟩ := hh.2; exact ⟨m, hm⟩⟩
          have vE : wkAt (dn ++ (List.replicate (m + 1) 6 ++ rest)) (k + ((m : Int) + 1)) = rest.headD 10 := by
            rw [show k + ((m : Int) + 1) = (dn).length + ((m + 1 : Nat) : Int) by omega, wkAt_app _ _ _ (by omega), wkAt_end]
          obtain ⟨xE, hxE⟩ : ∃ xE, xE = rest.headD 10 := ⟨_, rfl⟩
          have AE : ∀ q, Calls Try.prog 16 #[.pointer (some ⟨w.heap.size + 1, 0, none⟩), .int .i64 (k + ((m : Int) + 1))] (wa.drewN q) fun e w' => e = .returned (.int .u8 xE) ∧ ∃ m, w' = (wa.drewN q).drewN m := fun q => by
            have h := at_c (q1.1.drewN q) (k + ((m : Int) + 1)) (fun h0 h1 => wkPl_in l0 _ q3 _ h0 h1)
            rw [wkAtv _ _ q3, vE, ← hxE] at h
            exact h.mono fun e w' hh => ⟨hh.1, by obtain ⟨m, hm⟩ := hh.2; exact ⟨m, hm⟩⟩
          have bE : (xE == 6) = false := beq_eq_false_iff_ne.mpr (by rw [hxE]; exact hr)
          clear hxE
          have vB : wkAt (dn ++ (List.replicate (m + 1) 6 ++ rest)) (k - 1) = dn.getLastD 10 := by rw [← q2, wkAt_prev]
          have hL := LM.out
          have TERM : ∀ q, Calls Try.prog 17 #[.pointer (some ⟨w.heap.size + 1, 0, none⟩), .int .i64 (k), .int .i64 (k + ((m : Int) + 1))] (wa.drewN q) (WPut w.heap.size (wa.drewN q) (w.heap.size + 1) (.slice (some ⟨w.heap.size, 0, none⟩) l0.length l0.length) (.slice Ap (wkPlc 0 l0).length cp) (wkMg l0 (dn ++ List.replicate (m + 1) 4 ++ rest)) (wkPlc 0 l0) b n) := fun q => by
            have h := terms_loop (q1.1.drewN q) (fun k h0 h1 => wkPl_in l0 _ q3 k h0 h1) (k) (k + ((m : Int) + 1)) (by omega) (by omega) hend (by rw [wkMg_length]; omega) (by omega) 4 (by rw [trmC, wkAtv _ _ q3, wkAtv _ _ q3, vE, vB, if_pos hcl])
            rw [show (k + ((m : Int) + 1) - (k)).toNat = m + 1 by omega, show dn ++ (List.replicate (m + 1) 6 ++ rest) = dn ++ List.replicate (m + 1) 6 ++ rest from (List.append_assoc _ _ _).symm, wkFill l0 4 (k) (dn) (List.replicate (m + 1) 6) rest (by rw [← q3]; simp) (by omega) (m + 1) (by simp)] at h
            exact h
          clear hL
          have HQ := Aside0.mk (And.intro hr (And.intro hcl hS6))
          have QH := Aside0.mk (And.intro q1 (And.intro q2 (And.intro q3 (And.intro q5 (And.intro q4 trivial)))))
          clear q1 q2 q3 q4 q5 hr hcl hS6 vE vB
          go_wp2_with (go_at_call 16; (with_reducible refine ATh.mono ?_); rintro e w' ⟨rfl, ⟨m1, rfl⟩⟩)
          go_loopw [15] (fun v wr => ∃ j : Int, k ≤ j ∧ j ≤ k + ((m : Int) + 1) ∧ v = .int .i64 j ∧ ∃ q, wr = wa.drewN q) (fun v _ => (k + ((m : Int) + 1) - intOf v).toNat)
          case atStart => exact ⟨k, by omega, by omega, rfl, _, rfl⟩
          case round =>
            as_aux_lemma =>
            obtain ⟨j, hj0, hj1, rfl, q, rfl⟩ := hrel
            by_cases hjl : j < k + ((m : Int) + 1)
            · as_aux_lemma =>
              have ARj := fun q => AR j q hj0 hjl
              go_wp2_with (go_at_call 16; (with_reducible refine (ARj _).mono ?_); rintro e w' ⟨rfl, ⟨m3, rfl⟩⟩)
              go_roundw
              case rel => exact ⟨j + 1, by omega, by omega, by go_num, _, rfl⟩
              case measure => simp [intOf]; omega
            · as_aux_lemma =>
              obtain rfl : j = k + ((m : Int) + 1) := by omega
              go_wp2_with (first | (go_at_call 16; (with_reducible refine (AE _).mono ?_); rintro e w' ⟨rfl, ⟨m3, rfl⟩⟩) | (go_at_call 17; (with_reducible refine (TERM _).mono ?_); rintro e w2 ⟨rfl, hP⟩; have QT := Aside0.mk ((QH.out.1.drewN _).putd hP.1 hP.2); clear hP; obtain ⟨hd1, hd2, hd3⟩ := QT.out.cells; have q3' := Aside0.mk (show (dn ++ List.replicate (m + 1) 4 ++ rest).length = (wkPlc 0 l0).length from by rw [← QH.out.2.2.1]; simp); have AT4 : Calls Try.prog 16 #[.pointer (some ⟨w.heap.size + 1, 0, none⟩), .int .i64 k] w2 (fun e w' => e = .returned (.int .u8 4) ∧ ∃ m, w' = w2.drewN m) := wkAt4 QT.out q3'.out QH.out.2.1) | (go_at_call 16; (with_reducible refine AT4.mono ?_); rintro e w' ⟨rfl, ⟨m4, rfl⟩⟩))
              refine wp_goto (And.intro rfl (And.intro ?_ ?_))
              · unfold WkAtLabel
                (repeat apply Exists.intro)
                exact ⟨rfl, ⟨WkJ_et4 (QT.out.drewN _) QH.out.2.1 QH.out.2.2.1 QH.out.2.2.2.1 QH.out.2.2.2.2.1 HQ.out.1 HQ.out.2.1⟩⟩
              · exact wkMu_four (QT.out.drewN _) q3'.out QH.out.2.1 HQ.out.2.2
        · as_aux_lemma =>
          have AR : ∀ j q, k ≤ j → j < k + ((m : Int) + 1) → Calls Try.prog 16 #[.pointer (some ⟨w.heap.size + 1, 0, none⟩), .int .i64 j] (wa.drewN q) fun e w' => e = .returned (.int .u8 6) ∧ ∃ m, w' = (wa.drewN q).drewN m := fun j q hj0 hj1 => by
            have h := at_c (q1.1.drewN q) j (fun h0 h1 => wkPl_in l0 _ q3 _ h0 h1)
            rw [wkAtv _ _ q3, show wkAt (dn ++ (List.replicate (m + 1) 6 ++ rest)) j = 6 from by rw [show j = (dn).length + (j - (k)) by omega, wkAt_app _ _ _ (by omega), wkAt_run _ _ _ (by omega) (by omega)]] at h
            exact h.mono fun e w' hh => ⟨hh.1, by obtain ⟨m, hm⟩ := hh.2; exact ⟨m, hm⟩⟩
          have vE : wkAt (dn ++ (List.replicate (m + 1) 6 ++ rest)) (k + ((m : Int) + 1)) = rest.headD 10 := by
            rw [show k + ((m : Int) + 1) = (dn).length + ((m + 1 : Nat) : Int) by omega, wkAt_app _ _ _ (by omega), wkAt_end]
          obtain ⟨xE, hxE⟩ : ∃ xE, xE = rest.headD 10 := ⟨_, rfl⟩
          have AE : ∀ q, Calls Try.prog 16 #[.pointer (some ⟨w.heap.size + 1, 0, none⟩), .int .i64 (k + ((m : Int) + 1))] (wa.drewN q) fun e w' => e = .returned (.int .u8 xE) ∧ ∃ m, w' = (wa.drewN q).drewN m := fun q => by
            have h := at_c (q1.1.drewN q) (k + ((m : Int) + 1)) (fun h0 h1 => wkPl_in l0 _ q3 _ h0 h1)
            rw [wkAtv _ _ q3, vE, ← hxE] at h
            exact h.mono fun e w' hh => ⟨hh.1, by obtain ⟨m, hm⟩ := hh.2; exact ⟨m, hm⟩⟩
          have bE : (xE == 6) = false := beq_eq_false_iff_ne.mpr (by rw [hxE]; exact hr)
          clear hxE
          have vB : wkAt (dn ++ (List.replicate (m + 1) 6 ++ rest)) (k - 1) = dn.getLastD 10 := by rw [← q2, wkAt_prev]
          have hL := LM.out
          have TERM : ∀ q, Calls Try.prog 17 #[.pointer (some ⟨w.heap.size + 1, 0, none⟩), .int .i64 (k), .int .i64 (k + ((m : Int) + 1))] (wa.drewN q) (WPut w.heap.size (wa.drewN q) (w.heap.size + 1) (.slice (some ⟨w.heap.size, 0, none⟩) l0.length l0.length) (.slice Ap (wkPlc 0 l0).length cp) (wkMg l0 (dn ++ List.replicate (m + 1) 14 ++ rest)) (wkPlc 0 l0) b n) := fun q => by
            have h := terms_loop (q1.1.drewN q) (fun k h0 h1 => wkPl_in l0 _ q3 k h0 h1) (k) (k + ((m : Int) + 1)) (by omega) (by omega) hend (by rw [wkMg_length]; omega) (by omega) 14 (by rw [trmC, wkAtv _ _ q3, wkAtv _ _ q3, vE, vB, if_neg hcl])
            rw [show (k + ((m : Int) + 1) - (k)).toNat = m + 1 by omega, show dn ++ (List.replicate (m + 1) 6 ++ rest) = dn ++ List.replicate (m + 1) 6 ++ rest from (List.append_assoc _ _ _).symm, wkFill l0 14 (k) (dn) (List.replicate (m + 1) 6) rest (by rw [← q3]; simp) (by omega) (m + 1) (by simp)] at h
            exact h
          clear hL
          have HQ := Aside0.mk (And.intro hr (And.intro hcl hS6))
          have QH := Aside0.mk (And.intro q1 (And.intro q2 (And.intro q3 (And.intro q5 (And.intro q4 trivial)))))
          clear q1 q2 q3 q4 q5 hr hcl hS6 vE vB
          go_wp2_with (go_at_call 16; (with_reducible refine ATh.mono ?_); rintro e w' ⟨rfl, ⟨m1, rfl⟩⟩)
          go_loopw [15] (fun v wr => ∃ j : Int, k ≤ j ∧ j ≤ k + ((m : Int) + 1) ∧ v = .int .i64 j ∧ ∃ q, wr = wa.drewN q) (fun v _ => (k + ((m : Int) + 1) - intOf v).toNat)
          case atStart => exact ⟨k, by omega, by omega, rfl, _, rfl⟩
          case round =>
            as_aux_lemma =>
            obtain ⟨j, hj0, hj1, rfl, q, rfl⟩ := hrel
            by_cases hjl : j < k + ((m : Int) + 1)
            · as_aux_lemma =>
              have ARj := fun q => AR j q hj0 hjl
              go_wp2_with (go_at_call 16; (with_reducible refine (ARj _).mono ?_); rintro e w' ⟨rfl, ⟨m3, rfl⟩⟩)
              go_roundw
              case rel => exact ⟨j + 1, by omega, by omega, by go_num, _, rfl⟩
              case measure => simp [intOf]; omega
            · as_aux_lemma =>
              obtain rfl : j = k + ((m : Int) + 1) := by omega
              go_wp2_with (first | (go_at_call 16; (with_reducible refine (AE _).mono ?_); rintro e w' ⟨rfl, ⟨m3, rfl⟩⟩) | (go_at_call 17; (with_reducible refine (TERM _).mono ?_); rintro e w2 ⟨rfl, hP⟩; have QT := Aside0.mk ((QH.out.1.drewN _).putd hP.1 hP.2); clear hP; obtain ⟨hd1, hd2, hd3⟩ := QT.out.cells; have q3' := Aside0.mk (show (dn ++ List.replicate (m + 1) 14 ++ rest).length = (wkPlc 0 l0).length from by rw [← QH.out.2.2.1]; simp); have AT4 : Calls Try.prog 16 #[.pointer (some ⟨w.heap.size + 1, 0, none⟩), .int .i64 k] w2 (fun e w' => e = .returned (.int .u8 14) ∧ ∃ m, w' = w2.drewN m) := wkAt4 QT.out q3'.out QH.out.2.1) | (go_at_call 16; (with_reducible refine AT4.mono ?_); rintro e w' ⟨rfl, ⟨m4, rfl⟩⟩))
              refine wp_goto (And.intro rfl (And.intro ?_ ?_))
              · unfold WkAtLabel
                (repeat apply Exists.intro)
                exact ⟨rfl, ⟨by have h := WkJ_et14 (QT.out.drewN m4) QH.out.2.1 QH.out.2.2.1 QH.out.2.2.2.1 QH.out.2.2.2.2.1 HQ.out.1 HQ.out.2.1; rwa [show ((m + 1 : Nat) : Int) = (m : Int) + 1 from rfl] at h⟩⟩
              · exact wkMu_next hk0 (by omega) (by omega)
      · as_aux_lemma =>
        by_cases hc : c = 5
        · as_aux_lemma =>
          have hcc : c = 5 ∨ c = 8 := by omega
          have b6 : (c == 6) = false := by rw [hc]; rfl
          have b5 : (c == 5) = true := by rw [hc]; rfl
          have b8 : (c == 8) = false := by rw [hc]; rfl
          have bL : (c == 1) = false := by rw [hc]; rfl
          have bR : (c == 2) = false := by rw [hc]; rfl
          have b4 : (c == 4) = false := by rw [hc]; rfl
          have PUT : ∀ q, Calls Try.prog 15 #[.int .i64 k, .int .u8 14, .pointer (some ⟨w.heap.size + 1 + 1, 0, none⟩)] (wa.drewN q) (WPut w.heap.size (wa.drewN q) (w.heap.size + 1) (.slice (some ⟨w.heap.size, 0, none⟩) l0.length l0.length) (.slice Ap (wkPlc 0 l0).length cp) ((wkMg l0 (dn ++ c :: t)).set (rd (wkPlc 0 l0) k).toNat 14) (wkPlc 0 l0) b n) := fun q => put_c (q1.1.drewN q) (q1.drewN q).cells.1 k 14 hk0 hlt (wkPl_in l0 _ q3 k hk0 hlt).1 (wkPl_in l0 _ q3 k hk0 hlt).2
          have HCC := Aside0.mk hcc
          clear hcc
          have QH := Aside0.mk (And.intro q1 (And.intro q2 (And.intro q3 (And.intro q5 (And.intro q4 trivial)))))
          clear q1 q2 q3 q4 q5 hc
          go_wp2_with (first | (go_at_call 16; (with_reducible refine ATh.mono ?_); rintro e w' ⟨rfl, ⟨m1, rfl⟩⟩) | (go_at_call 15; (with_reducible refine (PUT _).mono ?_); rintro e w' ⟨rfl, hP⟩))
          refine wp_goto (And.intro rfl (And.intro ?_ ?_))
          · unfold WkAtLabel
            (repeat apply Exists.intro)
            exact ⟨rfl, ⟨WkJ_on ((QH.out.1.drewN _).putd hP.1 hP.2) QH.out.2.1 QH.out.2.2.1 QH.out.2.2.2.1 QH.out.2.2.2.2.1 HCC.out⟩⟩
          · exact wkMu_next hk0 (by omega) (by omega)
        · as_aux_lemma =>
          by_cases hc : c = 8
          · as_aux_lemma =>
            have hcc : c = 5 ∨ c = 8 := by omega
            have b6 : (c == 6) = false := by rw [hc]; rfl
            have b5 : (c == 5) = false := by rw [hc]; rfl
            have b8 : (c == 8) = true := by rw [hc]; rfl
            have bL : (c == 1) = false := by rw [hc]; rfl
            have bR : (c == 2) = false := by rw [hc]; rfl
            have b4 : (c == 4) = false := by rw [hc]; rfl
            have PUT : ∀ q, Calls Try.prog 15 #[.int .i64 k, .int .u8 14, .pointer (some ⟨w.heap.size + 1 + 1, 0, none⟩)] (wa.drewN q) (WPut w.heap.size (wa.drewN q) (w.heap.size + 1) (.slice (some ⟨w.heap.size, 0, none⟩) l0.length l0.length) (.slice Ap (wkPlc 0 l0).length cp) ((wkMg l0 (dn ++ c :: t)).set (rd (wkPlc 0 l0) k).toNat 14) (wkPlc 0 l0) b n) := fun q => put_c (q1.1.drewN q) (q1.drewN q).cells.1 k 14 hk0 hlt (wkPl_in l0 _ q3 k hk0 hlt).1 (wkPl_in l0 _ q3 k hk0 hlt).2
            have HCC := Aside0.mk hcc
            clear hcc
            have QH := Aside0.mk (And.intro q1 (And.intro q2 (And.intro q3 (And.intro q5 (And.intro q4 trivial)))))
            clear q1 q2 q3 q4 q5 hc
            go_wp2_with (first | (go_at_call 16; (with_reducible refine ATh.mono ?_); rintro e w' ⟨rfl, ⟨m1, rfl⟩⟩) | (go_at_call 15; (with_reducible refine (PUT _).mono ?_); rintro e w' ⟨rfl, hP⟩))
            refine wp_goto (And.intro rfl (And.intro ?_ ?_))
            · unfold WkAtLabel
              (repeat apply Exists.intro)
              exact ⟨rfl, ⟨WkJ_on ((QH.out.1.drewN _).putd hP.1 hP.2) QH.out.2.1 QH.out.2.2.1 QH.out.2.2.2.1 QH.out.2.2.2.2.1 HCC.out⟩⟩
            · exact wkMu_next hk0 (by omega) (by omega)
          · as_aux_lemma =>
            by_cases hc : c = 1
            · as_aux_lemma =>
              have hcc : c = 1 ∨ c = 2 := by omega
              have b6 : (c == 6) = false := by rw [hc]; rfl
              have b5 : (c == 5) = false := by rw [hc]; rfl
              have b8 : (c == 8) = false := by rw [hc]; rfl
              have bL : (c == 1) = true := by rw [hc]; rfl
              have bR : (c == 2) = false := by rw [hc]; rfl
              have b4 : (c == 4) = false := by rw [hc]; rfl
              have ATq : ∀ q, Calls Try.prog 16 #[.pointer (some ⟨w.heap.size + 1, 0, none⟩), .int .i64 (k)] (wa.drewN q) fun e w' => e = .returned (.int .u8 (c)) ∧ ∃ m, w' = (wa.drewN q).drewN m := fun q => by
                have h := at_c (q1.1.drewN q) (k) (fun h0 h1 => wkPl_in l0 _ q3 _ h0 h1)
                rw [wkAtv _ _ q3, show wkAt _ (k) = c from by have h := wkAt_app dn (c :: t) 0 (by omega); rw [Int.add_zero, wkAt_zero, q2] at h; exact h] at h
                exact h.mono fun e w' hh => ⟨hh.1, by obtain ⟨m, hm⟩ := hh.2; exact ⟨m, hm⟩⟩
              have HCC := Aside0.mk hcc
              clear hcc
              have QH := Aside0.mk (And.intro q1 (And.intro q2 (And.intro q3 (And.intro q5 (And.intro q4 trivial)))))
              clear q1 q2 q3 q4 q5 hc
              go_wp2_with (first | (go_at_call 16; (with_reducible refine ATh.mono ?_); rintro e w' ⟨rfl, ⟨m1, rfl⟩⟩) | (go_at_call 16; (with_reducible refine (ATq _).mono ?_); rintro e w' ⟨rfl, ⟨m2, rfl⟩⟩))
              refine wp_goto (And.intro rfl (And.intro ?_ ?_))
              · unfold WkAtLabel
                (repeat apply Exists.intro)
                exact ⟨rfl, ⟨WkJ_strong (QH.out.1.drewN _) QH.out.2.1 QH.out.2.2.1 QH.out.2.2.2.1 QH.out.2.2.2.2.1 HCC.out⟩⟩
              · exact wkMu_next hk0 (by omega) (by omega)
            · as_aux_lemma =>
              by_cases hc : c = 2
              · as_aux_lemma =>
                have hcc : c = 1 ∨ c = 2 := by omega
                have b6 : (c == 6) = false := by rw [hc]; rfl
                have b5 : (c == 5) = false := by rw [hc]; rfl
                have b8 : (c == 8) = false := by rw [hc]; rfl
                have bL : (c == 1) = false := by rw [hc]; rfl
                have bR : (c == 2) = true := by rw [hc]; rfl
                have b4 : (c == 4) = false := by rw [hc]; rfl
                have ATq : ∀ q, Calls Try.prog 16 #[.pointer (some ⟨w.heap.size + 1, 0, none⟩), .int .i64 (k)] (wa.drewN q) fun e w' => e = .returned (.int .u8 (c)) ∧ ∃ m, w' = (wa.drewN q).drewN m := fun q => by
                  have h := at_c (q1.1.drewN q) (k) (fun h0 h1 => wkPl_in l0 _ q3 _ h0 h1)
                  rw [wkAtv _ _ q3, show wkAt _ (k) = c from by have h := wkAt_app dn (c :: t) 0 (by omega); rw [Int.add_zero, wkAt_zero, q2] at h; exact h] at h
                  exact h.mono fun e w' hh => ⟨hh.1, by obtain ⟨m, hm⟩ := hh.2; exact ⟨m, hm⟩⟩
                have HCC := Aside0.mk hcc
                clear hcc
                have QH := Aside0.mk (And.intro q1 (And.intro q2 (And.intro q3 (And.intro q5 (And.intro q4 trivial)))))
                clear q1 q2 q3 q4 q5 hc
                go_wp2_with (first | (go_at_call 16; (with_reducible refine ATh.mono ?_); rintro e w' ⟨rfl, ⟨m1, rfl⟩⟩) | (go_at_call 16; (with_reducible refine (ATq _).mono ?_); rintro e w' ⟨rfl, ⟨m2, rfl⟩⟩))
                refine wp_goto (And.intro rfl (And.intro ?_ ?_))
                · unfold WkAtLabel
                  (repeat apply Exists.intro)
                  exact ⟨rfl, ⟨WkJ_strong (QH.out.1.drewN _) QH.out.2.1 QH.out.2.2.1 QH.out.2.2.2.1 QH.out.2.2.2.2.1 HCC.out⟩⟩
                · exact wkMu_next hk0 (by omega) (by omega)
              · as_aux_lemma =>
                by_cases hc : c = 4
                · as_aux_lemma =>
                  subst hc
                  by_cases hst : st = 1
                  · subst hst
                    obtain ⟨x, hx⟩ : ∃ x, x = t.headD 10 := ⟨_, rfl⟩
                    by_cases hx6 : x = 6
                    · as_aux_lemma =>
                      obtain ⟨m', rest, er, hr⟩ := wkSplit t
                      obtain ⟨m, rfl⟩ : ∃ m, m' = m + 1 := by
                        cases m' with
                        | zero => exact absurd (by have h := hx; rw [hx6, er] at h; exact h.symm) hr
                        | succ m => exact ⟨m, rfl⟩
                      clear hx hx6
                      subst er
                      have ANx : ∀ q, Calls Try.prog 16 #[.pointer (some ⟨w.heap.size + 1, 0, none⟩), .int .i64 (k + 1)] (wa.drewN q) fun e w' => e = .returned (.int .u8 (6)) ∧ ∃ m, w' = (wa.drewN q).drewN m := fun q => by
                        have h := at_c (q1.1.drewN q) (k + 1) (fun h0 h1 => wkPl_in l0 _ q3 _ h0 h1)
                        rw [wkAtv _ _ q3, show wkAt _ (k + 1) = 6 from by rw [← q2, wkAt_app _ _ 1 (by omega), wkAt_one]; rfl] at h
                        exact h.mono fun e w' hh => ⟨hh.1, by obtain ⟨m, hm⟩ := hh.2; exact ⟨m, hm⟩⟩
                      have q1' := q1
                      have q3' := q3
                      rw [show dn ++ 4 :: (List.replicate (m + 1) 6 ++ rest) = dn ++ [4] ++ (List.replicate (m + 1) 6 ++ rest) by simp] at q1' q3'
                      have hend : k + 1 + ((m : Int) + 1) ≤ (wkPlc 0 l0).length := by rw [← q3]; simp; omega
                      have hdl : ((dn ++ [4]).length : Int) = k + 1 := by simp; omega
                      have AR : ∀ j q, k + 1 ≤ j → j < k + 1 + ((m : Int) + 1) → Calls Try.prog 16 #[.pointer (some ⟨w.heap.size + 1, 0, none⟩), .int .i64 j] (wa.drewN q) fun e w' => e = .returned (.int .u8 6) ∧ ∃ m, w' = (wa.drewN q).drewN m := fun j q hj0 hj1 => by
                        have h := at_c (q1'.1.drewN q) j (fun h0 h1 => wkPl_in l0 _ q3' _ h0 h1)
                        rw [wkAtv _ _ q3', show wkAt (dn ++ [4] ++ (List.replicate (m + 1) 6 ++ rest)) j = 6 from by rw [show j = (dn ++ [4]).length + (j - (k + 1)) by omega, wkAt_app _ _ _ (by omega), wkAt_run _ _ _ (by omega) (by omega)]] at h
                        exact h.mono fun e w' hh => ⟨hh.1, by obtain ⟨m, hm⟩ := hh.2; exact ⟨m, hm⟩⟩
                      have vE : wkAt (dn ++ [4] ++ (List.replicate (m + 1) 6 ++ rest)) (k + 1 + ((m : Int) + 1)) = rest.headD 10 := by
                        rw [show k + 1 + ((m : Int) + 1) = (dn ++ [4]).length + ((m + 1 : Nat) : Int) by omega, wkAt_app _ _ _ (by omega), wkAt_end]
                      obtain ⟨xE, hxE⟩ : ∃ xE, xE = rest.headD 10 := ⟨_, rfl⟩
                      have AE : ∀ q, Calls Try.prog 16 #[.pointer (some ⟨w.heap.size + 1, 0, none⟩), .int .i64 (k + 1 + ((m : Int) + 1))] (wa.drewN q) fun e w' => e = .returned (.int .u8 xE) ∧ ∃ m, w' = (wa.drewN q).drewN m := fun q => by
                        have h := at_c (q1'.1.drewN q) (k + 1 + ((m : Int) + 1)) (fun h0 h1 => wkPl_in l0 _ q3' _ h0 h1)
                        rw [wkAtv _ _ q3', vE, ← hxE] at h
                        exact h.mono fun e w' hh => ⟨hh.1, by obtain ⟨m, hm⟩ := hh.2; exact ⟨m, hm⟩⟩
                      have bE : (xE == 6) = false := beq_eq_false_iff_ne.mpr (by rw [hxE]; exact hr)
                      clear hxE
                      have vB : wkAt (dn ++ [4] ++ (List.replicate (m + 1) 6 ++ rest)) (k + 1 - 1) = 4 := by rw [← hdl, wkAt_prev, wkLast_snoc]
                      have hL := LM.out
                      have TERM : ∀ q, Calls Try.prog 17 #[.pointer (some ⟨w.heap.size + 1, 0, none⟩), .int .i64 (k + 1), .int .i64 (k + 1 + ((m : Int) + 1))] (wa.drewN q) (WPut w.heap.size (wa.drewN q) (w.heap.size + 1) (.slice (some ⟨w.heap.size, 0, none⟩) l0.length l0.length) (.slice Ap (wkPlc 0 l0).length cp) (wkMg l0 (dn ++ [4] ++ List.replicate (m + 1) 4 ++ rest)) (wkPlc 0 l0) b n) := fun q => by
                        have h := terms_loop (q1'.1.drewN q) (fun k h0 h1 => wkPl_in l0 _ q3' k h0 h1) (k + 1) (k + 1 + ((m : Int) + 1)) (by omega) (by omega) hend (by rw [wkMg_length]; omega) (by omega) 4 (by rw [trmC, wkAtv _ _ q3', wkAtv _ _ q3', vE, vB, if_pos (.inl rfl)])
                        rw [show (k + 1 + ((m : Int) + 1) - (k + 1)).toNat = m + 1 by omega, show dn ++ [4] ++ (List.replicate (m + 1) 6 ++ rest) = dn ++ [4] ++ List.replicate (m + 1) 6 ++ rest from (List.append_assoc _ _ _).symm, wkFill l0 4 (k + 1) (dn ++ [4]) (List.replicate (m + 1) 6) rest (by rw [← q3']; simp) (by omega) (m + 1) (by simp)] at h
                        exact h
                      clear hL
                      have HQ := Aside0.mk (And.intro hr trivial)
                      clear q1' q3' hdl vB vE hr
                      have QH := Aside0.mk (And.intro q1 (And.intro q2 (And.intro q3 (And.intro q5 (And.intro q4 trivial)))))
                      clear q1 q2 q3 q4 q5 
                      go_wp2_with (first | (go_at_call 16; (with_reducible refine ATh.mono ?_); rintro e w' ⟨rfl, ⟨m1, rfl⟩⟩) | (go_at_call 16; (with_reducible refine (ANx _).mono ?_); rintro e w' ⟨rfl, ⟨m2, rfl⟩⟩))
                      go_loopw [16] (fun v wr => ∃ j : Int, k + 1 ≤ j ∧ j ≤ k + 1 + ((m : Int) + 1) ∧ v = .int .i64 j ∧ ∃ q, wr = wa.drewN q) (fun v _ => (k + 1 + ((m : Int) + 1) - intOf v).toNat)
                      case atStart => exact ⟨k + 1, by omega, by omega, rfl, _, rfl⟩
                      case round =>
                        as_aux_lemma =>
                        obtain ⟨j, hj0, hj1, rfl, q, rfl⟩ := hrel
                        by_cases hjl : j < k + 1 + ((m : Int) + 1)
                        · as_aux_lemma =>
                          have ARj := fun q => AR j q hj0 hjl
                          go_wp2_with (go_at_call 16; (with_reducible refine (ARj _).mono ?_); rintro e w' ⟨rfl, ⟨m3, rfl⟩⟩)
                          go_roundw
                          case rel => exact ⟨j + 1, by omega, by omega, by go_num, _, rfl⟩
                          case measure => simp [intOf]; omega
                        · as_aux_lemma =>
                          obtain rfl : j = k + 1 + ((m : Int) + 1) := by omega
                          go_wp2_with (first | (go_at_call 16; (with_reducible refine (AE _).mono ?_); rintro e w' ⟨rfl, ⟨m3, rfl⟩⟩) | (go_at_call 17; (with_reducible refine (TERM _).mono ?_); rintro e w2 ⟨rfl, hP⟩; have QT := Aside0.mk ((QH.out.1.drewN _).putd hP.1 hP.2); clear hP; have PUT2 := wkPut2 QT.out QH.out.2.1 QH.out.2.2.1) | (go_at_call 15; (with_reducible refine PUT2.mono ?_); rintro e w3 ⟨rfl, hP⟩))
                          refine wp_goto (And.intro rfl (And.intro ?_ ?_))
                          · unfold WkAtLabel
                            (repeat apply Exists.intro)
                            exact ⟨rfl, ⟨WkJ_en2 (QT.out.putd hP.1 hP.2) QH.out.2.1 QH.out.2.2.1 QH.out.2.2.2.2.1 HQ.out.1⟩⟩
                          · exact wkMu_next hk0 (by omega) (by omega)
                    · as_aux_lemma =>
                      have bx6 : (x != 6) = true := bne_iff_ne.mpr hx6
                      rw [hx] at hx6
                      have HX := Aside0.mk hx6
                      have PUT : ∀ q, Calls Try.prog 15 #[.int .i64 k, .int .u8 1, .pointer (some ⟨w.heap.size + 1 + 1, 0, none⟩)] (wa.drewN q) (WPut w.heap.size (wa.drewN q) (w.heap.size + 1) (.slice (some ⟨w.heap.size, 0, none⟩) l0.length l0.length) (.slice Ap (wkPlc 0 l0).length cp) ((wkMg l0 (dn ++ 4 :: t)).set (rd (wkPlc 0 l0) k).toNat 1) (wkPlc 0 l0) b n) := fun q => put_c (q1.1.drewN q) (q1.drewN q).cells.1 k 1 hk0 hlt (wkPl_in l0 _ q3 k hk0 hlt).1 (wkPl_in l0 _ q3 k hk0 hlt).2
                      have ANx : ∀ q, Calls Try.prog 16 #[.pointer (some ⟨w.heap.size + 1, 0, none⟩), .int .i64 (k + 1)] (wa.drewN q) fun e w' => e = .returned (.int .u8 (x)) ∧ ∃ m, w' = (wa.drewN q).drewN m := fun q => by
                        have h := at_c (q1.1.drewN q) (k + 1) (fun h0 h1 => wkPl_in l0 _ q3 _ h0 h1)
                        rw [wkAtv _ _ q3, show wkAt _ (k + 1) = x from by rw [← q2, wkAt_app _ _ 1 (by omega), wkAt_one, hx]] at h
                        exact h.mono fun e w' hh => ⟨hh.1, by obtain ⟨m, hm⟩ := hh.2; exact ⟨m, hm⟩⟩
                      have QH := Aside0.mk (And.intro q1 (And.intro q2 (And.intro q3 (And.intro q5 (And.intro q4 trivial)))))
                      clear q1 q2 q3 q4 q5 hx6 hx
                      go_wp2_with (first | (go_at_call 16; (with_reducible refine ATh.mono ?_); rintro e w' ⟨rfl, ⟨m1, rfl⟩⟩) | (go_at_call 16; (with_reducible refine (ANx _).mono ?_); rintro e w' ⟨rfl, ⟨m2, rfl⟩⟩) | (go_at_call 15; (with_reducible refine (PUT _).mono ?_); rintro e w' ⟨rfl, hP⟩))
                      refine wp_goto (And.intro rfl (And.intro ?_ ?_))
                      · unfold WkAtLabel
                        (repeat apply Exists.intro)
                        exact ⟨rfl, ⟨WkJ_en ((QH.out.1.drewN _).putd hP.1 hP.2) QH.out.2.1 QH.out.2.2.1 QH.out.2.2.2.2.1 HX.out⟩⟩
                      · exact wkMu_next hk0 (by omega) (by omega)
                  · as_aux_lemma =>
                    have bst : (st == 1) = false := beq_eq_false_iff_ne.mpr hst
                    have HST := Aside0.mk hst
                    have QH := Aside0.mk (And.intro q1 (And.intro q2 (And.intro q3 (And.intro q5 (And.intro q4 trivial)))))
                    clear q1 q2 q3 q4 q5 hst
                    go_wp2_with (go_at_call 16; (with_reducible refine ATh.mono ?_); rintro e w' ⟨rfl, ⟨m1, rfl⟩⟩)
                    refine wp_goto (And.intro rfl (And.intro ?_ ?_))
                    · unfold WkAtLabel
                      (repeat apply Exists.intro)
                      exact ⟨rfl, ⟨WkJ_keep (QH.out.1.drewN _) QH.out.2.1 QH.out.2.2.1 QH.out.2.2.2.1 QH.out.2.2.2.2.1 (by decide) (by decide) (by decide) (by decide) (by decide) (fun _ => HST.out)⟩⟩
                    · exact wkMu_next hk0 (by omega) (by omega)
                · as_aux_lemma =>
                  have h6 : c ≠ 6 := by assumption
                  have h5 : c ≠ 5 := by assumption
                  have h8 : c ≠ 8 := by assumption
                  have h1 : c ≠ 1 := by assumption
                  have h2 : c ≠ 2 := by assumption
                  have h4 : c ≠ 4 := by assumption
                  have b6 : (c == 6) = false := beq_eq_false_iff_ne.mpr h6
                  have b5 : (c == 5) = false := beq_eq_false_iff_ne.mpr h5
                  have b8 : (c == 8) = false := beq_eq_false_iff_ne.mpr h8
                  have bL : (c == 1) = false := beq_eq_false_iff_ne.mpr h1
                  have bR : (c == 2) = false := beq_eq_false_iff_ne.mpr h2
                  have b4 : (c == 4) = false := beq_eq_false_iff_ne.mpr h4
                  have HN6 := Aside0.mk (And.intro h6 (And.intro h5 (And.intro h8 (And.intro h1 (And.intro h2 h4)))))
                  have QH := Aside0.mk (And.intro q1 (And.intro q2 (And.intro q3 (And.intro q5 (And.intro q4 trivial)))))
                  clear q1 q2 q3 q4 q5 h6 h5 h8 h1 h2 h4
                  go_wp2_with (go_at_call 16; (with_reducible refine ATh.mono ?_); rintro e w' ⟨rfl, ⟨m1, rfl⟩⟩)
                  refine wp_goto (And.intro rfl (And.intro ?_ ?_))
                  · unfold WkAtLabel
                    (repeat apply Exists.intro)
                    exact ⟨rfl, ⟨WkJ_keep (QH.out.1.drewN _) QH.out.2.1 QH.out.2.2.1 QH.out.2.2.2.1 QH.out.2.2.2.2.1 HN6.out.1 HN6.out.2.1 HN6.out.2.2.1 HN6.out.2.2.2.1 HN6.out.2.2.2.2.1 (fun h => absurd h HN6.out.2.2.2.2.2)⟩⟩
                  · exact wkMu_next hk0 (by omega) (by omega)
  case first =>
    as_aux_lemma =>
    intro X' hX' hp
    rw [← hX']
    clear hX'
    have HPASS := Aside0.mk hp
    clear hp
    go_upto_if 18 with (fail)
    go_cut [1] from 17 (fun v1 wx => v1 = .int .u8 s ∧ w = wx)
    case first =>
      as_aux_lemma =>
      by_cases hs2 : a1 = 2
      · as_aux_lemma =>
        have b1 : (a1 != 2) = false := by rw [hs2]; rfl
        go_wp2
        go_meet
        case rel => exact ⟨by rw [hs, hs2]; rfl, rfl⟩
      · as_aux_lemma =>
        have b1 : (a1 != 2) = true := bne_iff_ne.mpr hs2
        go_wp2
        go_meet
        case rel => exact ⟨by rw [hs, wkSos, if_neg hs2], rfl⟩
    obtain ⟨rfl, rfl⟩ := hcut
    clear hs
    have H0 := Aside0.mk (WkL1_start w l0 s hlen2)
    go_wp2
    clear hmk
    go_loopw [28] (fun v28 wr => ∃ k : Int, 0 ≤ k ∧ k ≤ l0.length ∧ v28 = .int .i64 k ∧ Aside0 (WkL1 w (w.heap.size + 1) (w.heap.size + 1 + 1) w.heap.size l0 s k wr)) (fun v28 _ => l0.length - (intOf v28).toNat)
    case atStart => exact ⟨0, by omega, by omega, rfl, H0⟩
    case round =>
      as_aux_lemma =>
      clear H0
      obtain ⟨k, hk0, hk1, rfl, HF⟩ := hrel
      obtain ⟨vp, o, pl, b, n, q1, q2, q3, q4⟩ := HF.out
      clear HF
      by_cases hlt : k < (l0.length : Int)
      · as_aux_lemma =>
        have b1 : decide (k < (l0.length : Int)) = true := decide_eq_true hlt
        obtain ⟨ad1, e1, hx1⟩ := Kd.at_int HR0.out k hk0 hlt
        subst e1
        replace hx1 := (q1.2.2.cell (World.block_lt_of_cell? w _ hx1)).trans hx1
        obtain ⟨hc1, hc2, hc3⟩ := q1.cells
        obtain ⟨hcO, hfO⟩ := q1.outc k hk0 hlt
        have hol : (o ++ List.replicate (l0.length - o.length) (0 : Int)).length = l0.length := by simp; omega
        have hp1 := q1.put hol k (rd l0 k)
        by_cases e10 : rd l0 k = 10
        · as_aux_lemma =>
          have b10 : (rd l0 k != 10) = false := by rw [e10]; rfl
          rw [e10] at hp1
          have HF := Aside0.mk (WkL1_ten hk0 hlt e10 q2 hp1 q3 q4)
          clear q1 q2 q3 q4 hp1
          go_wp2
          go_roundw
          case rel => exact ⟨k + 1, by omega, by omega, by go_num, HF⟩
          case measure => simp [intOf]; omega
        · as_aux_lemma =>
          have b10 : (rd l0 k != 10) = true := bne_iff_ne.mpr e10
          have HP := Aside0.mk hp1
          clear hp1
          go_upto_region 9 with (fail)
          have FC := fun q => first_c (HP.out.drewN q).1 (rd l0 k)
          obtain ⟨hp1, hp2, _⟩ := HP.out.cells
          obtain ⟨hp4, hp5⟩ := HP.out.outc k hk0 hlt
          go_region_held3 (fun w' => w'.cell? ⟨w.heap.size + 1 + 1, 0, none⟩ = some (.pointer (some ⟨w.heap.size + 1, 0, none⟩)) ∧ w'.cell? ⟨w.heap.size + 1, 0, none⟩ = some (.slice (some ⟨w.heap.size, 0, none⟩) l0.length l0.length)) (first | exact ⟨hp1, hp2⟩ | exact ⟨hm1, hm2⟩ | exact ⟨hn1, hn2⟩) (first | (go_at_call 14; (refine (FC 1).mono ?_); rintro e w1 ⟨rfl, hw, hg⟩; have HN := Aside0.mk ((HP.out.drewN 1).first hw hg); obtain ⟨hn1, hn2, _⟩ := HN.out.cells; obtain ⟨hn3, hn4⟩ := HN.out.outc k hk0 hlt; have HM := Aside0.mk (HN.out.put (by rw [List.length_set]; exact hol) k (fst1 b n (rd l0 k)).1); obtain ⟨hm1, hm2, hm3⟩ := HM.out.cells))
          rw [List.set_set] at HM
          have hpl : (pl.length + 1) * 8 ≤ 140737488355328 := by
            have h := congrArg List.length q4
            have := wkPlc_le l0 0
            have := LM.out
            simp only [List.length_append] at h
            omega
          have HPL := Aside0.mk hpl
          have q1 := Aside0.mk q1
          clear HN hn1 hn2 hn3 hn4 hp1 hp2 hp4 hp5 HP FC hg hw hpl hcO hfO hc1 hc2 hc3 hx1
          have hma1 := fun o => (HM.out.allocC o).1
          have hma3 := fun o => (HM.out.allocC o).2
          have HEL := Aside0.mk (show (pl ++ [k]).length = pl.length + 1 from by simp)
          go_upto_region 10 with (fail)
          go_region_law (first | ((rw [wkDA]); (refine Kd.R_append_step (Kd.int .i64) (w0 := w) (W := World.drewN (w1.setCell ⟨w.heap.size, k.toNat, none⟩ (.int .u8 (fst1 b n (rd l0 k)).1)) 1) w.heap.size ?hw (.tmp 55) (.tmp 57) 34 3 (.int .i64 0) 8 ?h1 Try.underlying34 wkInfo3 ?h2 ?h3 ?h4 vp pl k [.int .i64 k] (fun _ => True) (fun _ => False) ?hs ?hx ?aP (fun _ hk => hk.elim) ?aF ?aO ?aB ?aS ?aL ?_); (case h1 => rfl); (case h2 => rfl); (case h3 => decide); (case h4 => decide); (case hw => rfl); (case hs => rfl); (case hx => exact congrArg (fun n => Value.slice (some ⟨n, 0, none⟩) 1 1) (World.size_setCell _ _ _).symm); (case aP => exact rfl); (case aB => exact ((HM.out.drewN 1).2.2)); (case aF => exact (fun _ _ => trivial)); (case aO => exact (HM.out.drewN 1).1.p); (case aS => exact (below_size (HM.out.drewN 1).2.2)); (case aL => exact HPL.out); intro v1 w2 ho hb hg hat; obtain ⟨Av, cv, ev⟩ := Kd.R_slice ho; subst ev; rw [HEL.out] at ho; have HN := Aside0.mk ((HM.out.drewN 1).push k ho hb hg); obtain ⟨hn1, hn3, hn4⟩ := (HM.out.drewN 1).pushC hg))
          all_goals
            go_wp2
            go_roundw
            case rel => exact ⟨k + 1, by omega, by omega, by go_num, ⟨WkL1_next hk0 hlt e10 q2 HN.out q3 q4⟩⟩
            case measure => simp [intOf]; omega
      · obtain rfl : k = l0.length := by omega
        have b1 : decide ((l0.length : Int) < (l0.length : Int)) = false := decide_eq_false hlt
        have H2 := Aside0.mk (WkL2_start ⟨vp, o, pl, b, n, q1, q2, q3, q4⟩)
        obtain ⟨hc1, hc2, hc3⟩ := q1.cells
        obtain ⟨Ap, cp, ep, _, _⟩ := Kd.R_reads q1.1.p
        have epl : pl.length = (wkPlc 0 l0).length := by
          have h := congrArg List.length q4
          rw [show l0.drop (l0.length : Int).toNat = [] by simp, wkPlc, List.append_nil] at h
          exact h
        subst ep
        rw [epl] at hc3
        clear q1 q2 q3 q4 hlt epl
        go_wp2
        go_loopw [68] (fun v68 wr => ∃ k : Int, 0 ≤ k ∧ k ≤ (wkPlc 0 l0).length ∧ v68 = .int .i64 k ∧ Aside0 (WkL2 w (w.heap.size + 1) (w.heap.size + 1 + 1) w.heap.size l0 s k wr)) (fun v68 _ => (wkPlc 0 l0).length - (intOf v68).toNat)
        case atStart => exact ⟨0, by omega, by omega, rfl, H2⟩
        case round =>
          as_aux_lemma =>
          clear H2 hc1 hc2 hc3
          obtain ⟨k, hk0, hk1, rfl, HF⟩ := hrel
          by_cases hlt : k < ((wkPlc 0 l0).length : Int)
          · as_aux_lemma =>
            have b1 : decide (k < ((wkPlc 0 l0).length : Int)) = true := decide_eq_true hlt
            obtain ⟨vp, dn, cur, b, n, q1, q2, q3, q4⟩ := HF.out
            clear HF
            obtain ⟨c, t, ec⟩ : ∃ c t, cur = c :: t := by
              cases cur with
              | nil => simp at q3; omega
              | cons c t => exact ⟨c, t, rfl⟩
            subst ec
            obtain ⟨hc1, hc2, hc3⟩ := q1.cells
            obtain ⟨p, hp⟩ : ∃ p, p = dn.getLastD 10 := ⟨_, rfl⟩
            obtain ⟨x, hx⟩ : ∃ x, x = t.headD 10 := ⟨_, rfl⟩
            have A1 : ∀ q, Calls Try.prog 16 #[.pointer (some ⟨w.heap.size + 1, 0, none⟩), .int .i64 (k - 1)] (wr.drewN q) fun e w' => e = .returned (.int .u8 (p)) ∧ ∃ m, w' = (wr.drewN q).drewN m := fun q => by
              have h := at_c (q1.1.drewN q) (k - 1) (fun h0 h1 => wkPl_in l0 _ q3 _ h0 h1)
              rw [wkAtv _ _ q3, show wkAt _ (k - 1) = p from by rw [← q2, wkAt_prev, hp]] at h
              exact h.mono fun e w' hh => ⟨hh.1, by obtain ⟨m, hm⟩ := hh.2; exact ⟨m, hm⟩⟩
            have A2 : ∀ q, Calls Try.prog 16 #[.pointer (some ⟨w.heap.size + 1, 0, none⟩), .int .i64 (k + 1)] (wr.drewN q) fun e w' => e = .returned (.int .u8 (x)) ∧ ∃ m, w' = (wr.drewN q).drewN m := fun q => by
              have h := at_c (q1.1.drewN q) (k + 1) (fun h0 h1 => wkPl_in l0 _ q3 _ h0 h1)
              rw [wkAtv _ _ q3, show wkAt _ (k + 1) = x from by rw [← q2, wkAt_app _ _ 1 (by omega), wkAt_one, hx]] at h
              exact h.mono fun e w' hh => ⟨hh.1, by obtain ⟨m, hm⟩ := hh.2; exact ⟨m, hm⟩⟩
            have A3 : ∀ q, Calls Try.prog 16 #[.pointer (some ⟨w.heap.size + 1, 0, none⟩), .int .i64 (k)] (wr.drewN q) fun e w' => e = .returned (.int .u8 (c)) ∧ ∃ m, w' = (wr.drewN q).drewN m := fun q => by
              have h := at_c (q1.1.drewN q) (k) (fun h0 h1 => wkPl_in l0 _ q3 _ h0 h1)
              rw [wkAtv _ _ q3, show wkAt _ (k) = c from by have h := wkAt_app dn (c :: t) 0 (by omega); rw [Int.add_zero, wkAt_zero, q2] at h; exact h] at h
              exact h.mono fun e w' hh => ⟨hh.1, by obtain ⟨m, hm⟩ := hh.2; exact ⟨m, hm⟩⟩
            have PUT : ∀ q, Calls Try.prog 15 #[.int .i64 k, .int .u8 p, .pointer (some ⟨w.heap.size + 1 + 1, 0, none⟩)] (wr.drewN q) (WPut w.heap.size (wr.drewN q) (w.heap.size + 1) (.slice (some ⟨w.heap.size, 0, none⟩) l0.length l0.length) vp ((wkMg l0 (dn ++ c :: t)).set (rd (wkPlc 0 l0) k).toNat p) (wkPlc 0 l0) b n) := fun q => put_c (q1.1.drewN q) (q1.drewN q).cells.1 k p hk0 hlt (wkPl_in l0 _ q3 k hk0 hlt).1 (wkPl_in l0 _ q3 k hk0 hlt).2
            by_cases hpx : p = x
            · as_aux_lemma =>
              have bx_ : (p != x) = false := by rw [hpx]; exact bne_self_eq_false _
              by_cases h4 : p = 4
              · as_aux_lemma =>
                have b4 : (p == 4) = true := beq_iff_eq.mpr h4
                have b7 : (p == 7) = false := by rw [h4]; rfl
                by_cases h5 : c = 5
                · as_aux_lemma =>
                  have b5 : (c == 5) = true := beq_iff_eq.mpr h5
                  have hc : p = x ∧ (p = 4 ∧ (c = 5 ∨ c = 8) ∨ p = 7 ∧ c = 8) := by omega
                  rw [hp, hx] at hc
                  have QH := Aside0.mk (And.intro q1 (And.intro q2 (And.intro q3 (And.intro q4 (And.intro hc hp)))))
                  clear q1 q2 q3 q4 hc hx hp hpx h4 h5
                  have hw1 : IntKind.i64.wrap (k - 1) = k - 1 := IntWalk.i64_in _ (by omega)
                  have hw2 : IntKind.i64.wrap (k + 1) = k + 1 := IntWalk.i64_in _ (by omega)
                  go_upto_region 16 with (fail)
                  go_quiet ((go_at_call 16; (first | (with_reducible exact Calls.quiet_of (A1 _)) | (with_reducible exact Calls.quiet_of (A2 _)))))
                  clear hw1 hw2
                  go_wp2_with (first | (go_at_call 16; (with_reducible refine (A3 _).mono ?_); rintro e w' ⟨rfl, ⟨m3, rfl⟩⟩) | (go_at_call 15; (with_reducible refine (PUT _).mono ?_); rintro e w' ⟨rfl, hP⟩))
                  go_roundw
                  case rel => exact ⟨k + 1, by omega, by omega, by go_num, ⟨WkL2_put (by rw [← QH.out.2.2.2.2.2]; exact (QH.out.1.drewN _).putd hP.1 hP.2) QH.out.2.1 QH.out.2.2.1 QH.out.2.2.2.1 QH.out.2.2.2.2.1⟩⟩
                  case measure => simp [intOf]; omega
                · as_aux_lemma =>
                  have b5 : (c == 5) = false := beq_eq_false_iff_ne.mpr h5
                  by_cases h8 : c = 8
                  · as_aux_lemma =>
                    have b8 : (c == 8) = true := beq_iff_eq.mpr h8
                    have hc : p = x ∧ (p = 4 ∧ (c = 5 ∨ c = 8) ∨ p = 7 ∧ c = 8) := by omega
                    rw [hp, hx] at hc
                    have QH := Aside0.mk (And.intro q1 (And.intro q2 (And.intro q3 (And.intro q4 (And.intro hc hp)))))
                    clear q1 q2 q3 q4 hc hx hp hpx h4 h5 h8
                    have hw1 : IntKind.i64.wrap (k - 1) = k - 1 := IntWalk.i64_in _ (by omega)
                    have hw2 : IntKind.i64.wrap (k + 1) = k + 1 := IntWalk.i64_in _ (by omega)
                    go_upto_region 16 with (fail)
                    go_quiet ((go_at_call 16; (first | (with_reducible exact Calls.quiet_of (A1 _)) | (with_reducible exact Calls.quiet_of (A2 _)))))
                    clear hw1 hw2
                    go_wp2_with (first | (go_at_call 16; (with_reducible refine (A3 _).mono ?_); rintro e w' ⟨rfl, ⟨m3, rfl⟩⟩) | (go_at_call 15; (with_reducible refine (PUT _).mono ?_); rintro e w' ⟨rfl, hP⟩))
                    go_roundw
                    case rel => exact ⟨k + 1, by omega, by omega, by go_num, ⟨WkL2_put (by rw [← QH.out.2.2.2.2.2]; exact (QH.out.1.drewN _).putd hP.1 hP.2) QH.out.2.1 QH.out.2.2.1 QH.out.2.2.2.1 QH.out.2.2.2.2.1⟩⟩
                    case measure => simp [intOf]; omega
                  · as_aux_lemma =>
                    have b8 : (c == 8) = false := beq_eq_false_iff_ne.mpr h8
                    have hc : ¬(p = x ∧ (p = 4 ∧ (c = 5 ∨ c = 8) ∨ p = 7 ∧ c = 8)) := by omega
                    rw [hp, hx] at hc
                    have QH := Aside0.mk (And.intro q1 (And.intro q2 (And.intro q3 (And.intro q4 (And.intro hc hp)))))
                    clear q1 q2 q3 q4 hc hx hp hpx h4 h5 h8
                    have hw1 : IntKind.i64.wrap (k - 1) = k - 1 := IntWalk.i64_in _ (by omega)
                    have hw2 : IntKind.i64.wrap (k + 1) = k + 1 := IntWalk.i64_in _ (by omega)
                    go_upto_region 16 with (fail)
                    go_quiet ((go_at_call 16; (first | (with_reducible exact Calls.quiet_of (A1 _)) | (with_reducible exact Calls.quiet_of (A2 _)))))
                    clear hw1 hw2
                    go_wp2_with (first | (go_at_call 16; (with_reducible refine (A3 _).mono ?_); rintro e w' ⟨rfl, ⟨m3, rfl⟩⟩) | (go_at_call 15; (with_reducible refine (PUT _).mono ?_); rintro e w' ⟨rfl, hP⟩))
                    go_roundw
                    case rel => exact ⟨k + 1, by omega, by omega, by go_num, ⟨WkL2_keep (QH.out.1.drewN _) QH.out.2.1 QH.out.2.2.1 QH.out.2.2.2.1 QH.out.2.2.2.2.1⟩⟩
                    case measure => simp [intOf]; omega
              · as_aux_lemma =>
                have b4 : (p == 4) = false := beq_eq_false_iff_ne.mpr h4
                by_cases h7 : p = 7
                · as_aux_lemma =>
                  have b7 : (p == 7) = true := beq_iff_eq.mpr h7
                  by_cases h8 : c = 8
                  · as_aux_lemma =>
                    have b8 : (c == 8) = true := beq_iff_eq.mpr h8
                    have hc : p = x ∧ (p = 4 ∧ (c = 5 ∨ c = 8) ∨ p = 7 ∧ c = 8) := by omega
                    rw [hp, hx] at hc
                    have QH := Aside0.mk (And.intro q1 (And.intro q2 (And.intro q3 (And.intro q4 (And.intro hc hp)))))
                    clear q1 q2 q3 q4 hc hx hp hpx h4 h7 h8
                    have hw1 : IntKind.i64.wrap (k - 1) = k - 1 := IntWalk.i64_in _ (by omega)
                    have hw2 : IntKind.i64.wrap (k + 1) = k + 1 := IntWalk.i64_in _ (by omega)
                    go_upto_region 16 with (fail)
                    go_quiet ((go_at_call 16; (first | (with_reducible exact Calls.quiet_of (A1 _)) | (with_reducible exact Calls.quiet_of (A2 _)))))
                    clear hw1 hw2
                    go_wp2_with (first | (go_at_call 16; (with_reducible refine (A3 _).mono ?_); rintro e w' ⟨rfl, ⟨m3, rfl⟩⟩) | (go_at_call 15; (with_reducible refine (PUT _).mono ?_); rintro e w' ⟨rfl, hP⟩))
                    go_roundw
                    case rel => exact ⟨k + 1, by omega, by omega, by go_num, ⟨WkL2_put (by rw [← QH.out.2.2.2.2.2]; exact (QH.out.1.drewN _).putd hP.1 hP.2) QH.out.2.1 QH.out.2.2.1 QH.out.2.2.2.1 QH.out.2.2.2.2.1⟩⟩
                    case measure => simp [intOf]; omega
                  · as_aux_lemma =>
                    have b8 : (c == 8) = false := beq_eq_false_iff_ne.mpr h8
                    have hc : ¬(p = x ∧ (p = 4 ∧ (c = 5 ∨ c = 8) ∨ p = 7 ∧ c = 8)) := by omega
                    rw [hp, hx] at hc
                    have QH := Aside0.mk (And.intro q1 (And.intro q2 (And.intro q3 (And.intro q4 (And.intro hc hp)))))
                    clear q1 q2 q3 q4 hc hx hp hpx h4 h7 h8
                    have hw1 : IntKind.i64.wrap (k - 1) = k - 1 := IntWalk.i64_in _ (by omega)
                    have hw2 : IntKind.i64.wrap (k + 1) = k + 1 := IntWalk.i64_in _ (by omega)
                    go_upto_region 16 with (fail)
                    go_quiet ((go_at_call 16; (first | (with_reducible exact Calls.quiet_of (A1 _)) | (with_reducible exact Calls.quiet_of (A2 _)))))
                    clear hw1 hw2
                    go_wp2_with (first | (go_at_call 16; (with_reducible refine (A3 _).mono ?_); rintro e w' ⟨rfl, ⟨m3, rfl⟩⟩) | (go_at_call 15; (with_reducible refine (PUT _).mono ?_); rintro e w' ⟨rfl, hP⟩))
                    go_roundw
                    case rel => exact ⟨k + 1, by omega, by omega, by go_num, ⟨WkL2_keep (QH.out.1.drewN _) QH.out.2.1 QH.out.2.2.1 QH.out.2.2.2.1 QH.out.2.2.2.2.1⟩⟩
                    case measure => simp [intOf]; omega
                · as_aux_lemma =>
                  have b7 : (p == 7) = false := beq_eq_false_iff_ne.mpr h7
                  have hc : ¬(p = x ∧ (p = 4 ∧ (c = 5 ∨ c = 8) ∨ p = 7 ∧ c = 8)) := by omega
                  rw [hp, hx] at hc
                  have QH := Aside0.mk (And.intro q1 (And.intro q2 (And.intro q3 (And.intro q4 (And.intro hc hp)))))
                  clear q1 q2 q3 q4 hc hx hp hpx h4 h7
                  have hw1 : IntKind.i64.wrap (k - 1) = k - 1 := IntWalk.i64_in _ (by omega)
                  have hw2 : IntKind.i64.wrap (k + 1) = k + 1 := IntWalk.i64_in _ (by omega)
                  go_upto_region 16 with (fail)
                  go_quiet ((go_at_call 16; (first | (with_reducible exact Calls.quiet_of (A1 _)) | (with_reducible exact Calls.quiet_of (A2 _)))))
                  clear hw1 hw2
                  go_wp2_with (first | (go_at_call 16; (with_reducible refine (A3 _).mono ?_); rintro e w' ⟨rfl, ⟨m3, rfl⟩⟩) | (go_at_call 15; (with_reducible refine (PUT _).mono ?_); rintro e w' ⟨rfl, hP⟩))
                  go_roundw
                  case rel => exact ⟨k + 1, by omega, by omega, by go_num, ⟨WkL2_keep (QH.out.1.drewN _) QH.out.2.1 QH.out.2.2.1 QH.out.2.2.2.1 QH.out.2.2.2.2.1⟩⟩
                  case measure => simp [intOf]; omega
            · as_aux_lemma =>
              have bx_ : (p != x) = true := bne_iff_ne.mpr hpx
              have hc : ¬(p = x ∧ (p = 4 ∧ (c = 5 ∨ c = 8) ∨ p = 7 ∧ c = 8)) := by omega
              rw [hp, hx] at hc
              have QH := Aside0.mk (And.intro q1 (And.intro q2 (And.intro q3 (And.intro q4 (And.intro hc hp)))))
              clear q1 q2 q3 q4 hc hx hp hpx
              have hw1 : IntKind.i64.wrap (k - 1) = k - 1 := IntWalk.i64_in _ (by omega)
              have hw2 : IntKind.i64.wrap (k + 1) = k + 1 := IntWalk.i64_in _ (by omega)
              go_upto_region 16 with (fail)
              go_quiet ((go_at_call 16; (first | (with_reducible exact Calls.quiet_of (A1 _)) | (with_reducible exact Calls.quiet_of (A2 _)))))
              clear hw1 hw2
              go_wp2_with (first | (go_at_call 16; (with_reducible refine (A3 _).mono ?_); rintro e w' ⟨rfl, ⟨m3, rfl⟩⟩) | (go_at_call 15; (with_reducible refine (PUT _).mono ?_); rintro e w' ⟨rfl, hP⟩))
              go_roundw
              case rel => exact ⟨k + 1, by omega, by omega, by go_num, ⟨WkL2_keep (QH.out.1.drewN _) QH.out.2.1 QH.out.2.2.1 QH.out.2.2.2.1 QH.out.2.2.2.2.1⟩⟩
              case measure => simp [intOf]; omega
          · obtain rfl : k = (wkPlc 0 l0).length := by omega
            have b1 : decide (((wkPlc 0 l0).length : Int) < ((wkPlc 0 l0).length : Int)) = false := decide_eq_false hlt
            have H3 := Aside0.mk (WkJ_start HSS.out HF.out)
            clear hlt
            go_wp2
            refine wp_label ?_
            simp only [Exit.then]
            go_step
            refine HPASS.out _ _ ?_
            unfold WkAtLabel
            (repeat apply Exists.intro)
            exact ⟨rfl, H3⟩
end Go.Proofs.Ytnpcfiahmadkjaa.X
