import Derived.Test.YtdkbkecnhebanaaG
import Derived.Test.YtdkbkecnhebanaaI
import Derived.Deep.QuietTactic
import Derived.BigQuiet
/-! The walk of ExplicitBounds. -/
namespace Go.Proofs.Ytdkbkecnhebanaa.X
open Go.RowKit Go.Proofs.YtdkbkecnhebanaaW.PrintWords Go.Proofs.YtdkbkecnhebanaaW.PrintLast Go.Proofs.YtdkbkecnhebanaaW.PrintMore
attribute [local go_sem] max2_int min2_int max_two min_two max_three min_three max_four min_four
set_option linter.unusedVariables false
set_option linter.unusedSimpArgs false
/-- The operations of a region, by its number. -/
def opsAt (n : Nat) : Code → List Oper
  | .region id ops _ => if id = n then ops.toList else []
  | .seq a b => opsAt n a ++ opsAt n b
  | .cond _ a b => opsAt n a ++ opsAt n b
  | .block _ a => opsAt n a
  | .loop a => opsAt n a
  | .scope a => opsAt n a
  | .rangeFunc _ _ a b => opsAt n a ++ opsAt n b
  | _ => []
theorem lex12 : Region.lexB .any (opsAt 12 (Try.f6.body.getD .skip)).toArray = true := by kernel_rfl
theorem drewN_ex1 (w : World) (a : Nat) : ∃ q, w.drewN a = w.drewN q := ⟨_, rfl⟩
theorem drewN_ex2 (w : World) (a b : Nat) : ∃ q, (w.drewN a).drewN b = w.drewN q := ⟨_, World.drewN_drewN _ _ _⟩
theorem drewN_ex3 (w : World) (a b c : Nat) : ∃ q, ((w.drewN a).drewN b).drewN c = w.drewN q := ⟨_, by rw [World.drewN_drewN, World.drewN_drewN]⟩
theorem removed_c (c : Int) (b : Bool) (w : World) (h : remC c = b) : Calls Try.prog 19 #[.int .u8 c] w fun e w' => e = .returned (.bool b) ∧ Drawn0 w w' := by
  subst h
  exact selvedgeref14_Removed.calls c (remC c) w (ref_removed_f c)
theorem removed_q (c : Int) (b : Bool) (w : World) (q : Nat) (h : remC c = b) (a : Nat) : Calls Try.prog 19 #[.int .u8 c] (w.drewN (q + a)) fun e w' => e = .returned (.bool b) ∧ ∃ m, w' = w.drewN (q + m) :=
  (removed_c c b _ h).mono fun e w' ⟨he, hd⟩ => by
    obtain ⟨n, hn⟩ := hd.out
    exact ⟨he, a + n, by rw [hn, World.drewN_drewN, Nat.add_assoc]⟩
theorem works_some : ∃ k, selvedgelaw14_works.f k = some true := E.out works_ev
theorem bOk_at {n : Int} : ∀ {l : List Int} {R : List (Int × Int)} {bf : Int}, bOk n bf l R → ∀ {c : Int} {t : List Int}, l = c :: t → ∃ o S, R = o :: S ∧ (n ≤ o.1 ∧ o.1 ≤ 125 ∧ (c = 11 → o.1 = n) ∧ (remC c = true → o = (bf, 10)) ∧ (remC c = false → o.2 = c ∨ o.2 = 1 ∨ o.2 = 2)) ∧ bOk n o.1 t S := by
  intro l R bf h c t e
  subst e
  cases R with
  | nil => exact h.elim
  | cons o S => exact ⟨o, S, rfl, h.1, h.2⟩
def BndF (e : Ending) (w w' : World) : Prop := e = .returned (.bool true) ∧ Below w.heap.size w w'
set_option maxHeartbeats 4000000 in
set_option maxRecDepth 100000 in
theorem bounds_big (A0 : Option Addr) (c0 : Nat) (l : List Int) (base : Int) (w : World) (hr0 : Kd.C (Kd.int .u8) w A0 l.length l) (hl : 2000 < l.length) :
    Calls Try.prog 6 #[.slice A0 l.length c0, .int .u8 base] w (fun e w' => BndF e w w') := by
  obtain ⟨k, hk⟩ := works_some
  have WK := fun W => selvedgelaw14_works.calls k true W hk
  have b1 : decide (2000 < (l.length : Int)) = true := decide_eq_true (by omega)
  have b2 : decide (2000 < l.length) = true := decide_eq_true (by omega)
  have HWK := Aside0.mk WK
  clear WK hk hr0 hl
  go_enter Try.func6, Try.ntmps6
  go_wp2_with (go_at_call 10; refine (HWK.out _).mono ?_; rintro e w' ⟨rfl, hb⟩; have HB := Aside0.mk hb; clear hb)
  go_ret
  exact ⟨rfl, HB.out⟩
set_option maxHeartbeats 4000000 in
set_option maxRecDepth 100000 in
theorem bounds_err (A0 : Option Addr) (c0 : Nat) (l : List Int) (base : Int) (w : World) (hr0 : Kd.C (Kd.int .u8) w A0 l.length l) (hc0 : l.length ≤ c0) (hl : l.length ≤ 2000) (n : Int) (hn : n ≠ 0) (hv : explicit_Levels.f l base = some ([], [], 0, n)) :
    Calls Try.prog 6 #[.slice A0 l.length c0, .int .u8 base] w (fun e w' => BndF e w w') := by
  obtain ⟨k, hk⟩ := works_some
  have HWK := Aside0.mk (fun W => selvedgelaw14_works.calls k true W hk)
  have HLV := Aside0.mk (explicit_Levels.calls A0 c0 l base [] [] 0 n w hr0 hc0 hv)
  have b1 : decide (2000 < (l.length : Int)) = false := decide_eq_false (by omega)
  have b2 : decide (2000 < l.length) = false := decide_eq_false (by omega)
  have b3 : (n != 0) = true := by simpa using hn
  clear hk hr0 hl hc0 hv hn
  go_enter Try.func6, Try.ntmps6
  go_wp2_with (first
    | (go_at_call 15; refine (HLV.out).mono ?_; rintro e w1 ⟨v0, v1, rfl, h0, h1, hb⟩; obtain ⟨B0, d0, rfl⟩ := Kd.R_slice h0; obtain ⟨B1, d1, rfl⟩ := Kd.R_slice h1; have HB1 := Aside0.mk hb; clear h0 h1 hb)
    | (go_at_call 10; refine (HWK.out _).mono ?_; rintro e w' ⟨rfl, hb⟩; have HB := Aside0.mk hb; clear hb))
  go_ret
  exact ⟨rfl, below_step HB1.out HB.out⟩
set_option maxHeartbeats 8000000 in
set_option maxRecDepth 100000 in
theorem bounds_ok (A0 : Option Addr) (c0 : Nat) (l : List Int) (base : Int) (w : World) (hr0 : Kd.C (Kd.int .u8) w A0 l.length l) (hc0 : l.length ≤ c0) (hl : l.length ≤ 2000) (n : Int) (hn0 : 0 ≤ n) (hn1 : n ≤ 1) (R : List (Int × Int)) (hRl : R.length = l.length) (hR : bOk n n l R) (xs1 xs2 : List Int) (hx1 : xs1 = R.map fun x => x.1) (hx2 : xs2 = R.map fun x => x.2) (hv : explicit_Levels.f l base = some (xs1, xs2, n, 0)) :
    Calls Try.prog 6 #[.slice A0 l.length c0, .int .u8 base] w (fun e w' => BndF e w w') := by
  obtain ⟨k, hk⟩ := works_some
  have HWK := Aside0.mk (fun W => selvedgelaw14_works.calls k true W hk)
  have HLV := Aside0.mk (explicit_Levels.calls A0 c0 l base xs1 xs2 n 0 w hr0 hc0 hv)
  have b1 : decide (2000 < (l.length : Int)) = false := decide_eq_false (by omega)
  have b2 : decide (2000 < l.length) = false := decide_eq_false (by omega)
  have b4 : decide (1 < n) = false := decide_eq_false (by omega)
  have hl1 : xs1.length = l.length := by rw [hx1, List.length_map, hRl]
  have hl2 : xs2.length = l.length := by rw [hx2, List.length_map, hRl]
  have hmax : (l.length : Int) ≤ 9223372036854775807 := by omega
  have HR0 := Aside0.mk hr0
  have HRR := Aside0.mk (And.intro hRl (And.intro hR (And.intro hx1 hx2)))
  have HXL := Aside0.mk (And.intro hl1 hl2)
  clear hk hr0 hl hc0 hv hRl hR hx1 hx2 hl1 hl2
  go_enter Try.func6, Try.ntmps6
  go_wp2_with (go_at_call 15; refine (HLV.out).mono ?_; rintro e w1 ⟨v0, v1, rfl, h0, h1, hb⟩; obtain ⟨B0, d0, rfl⟩ := Kd.R_slice h0; obtain ⟨B1, d1, rfl⟩ := Kd.R_slice h1; have HB1 := Aside0.mk hb; obtain ⟨_, _, q0⟩ := Kd.R_reads' h0; obtain ⟨_, _, q1⟩ := Kd.R_reads' h1; have HQ := Aside0.mk (And.intro q0 q1); clear h0 h1 hb q0 q1; (simp only [HXL.out.1, HXL.out.2]))
  rw [HXL.out.1, HXL.out.2] at HQ
  go_loopw [9, 10] (fun v9 v10 wr => ∃ (i bf q : Int) (qn : Nat), 0 ≤ i ∧ i ≤ (l.length : Int) ∧ v10 = .int .i64 i ∧ v9 = .int .u8 bf ∧ Aside0 (bOk n bf (l.drop i.toNat) (R.drop i.toNat)) ∧ wr = w1.drewN qn) (fun _ v10 _ => l.length - (intOf v10).toNat)
  case atStart => exact ⟨0, n, 0, 0, by omega, by omega, rfl, rfl, ⟨HRR.out.2.1⟩, rfl⟩
  case round =>
    obtain ⟨i, bf, _, qn, hi0, hi1, rfl, rfl, HF, rfl⟩ := hrel
    by_cases hlt : i < (l.length : Int)
    · have bl : decide (i < (l.length : Int)) = true := decide_eq_true hlt
      have di0 : decide (0 ≤ i) = true := decide_eq_true hi0
      obtain ⟨o, S, hRS, ⟨g1, g2, g3, g4, g5⟩, hF2⟩ := bOk_at HF.out (E.rd_drop hi0 hlt)
      have hRi : R.drop (i + 1).toNat = S := by
        rw [show (i + 1).toNat = i.toNat + 1 by omega, ← List.drop_drop, hRS]; rfl
      have hr1 : rd xs1 i = o.1 := by
        rw [HRR.out.2.2.1]
        obtain ⟨m, rfl⟩ := Int.eq_ofNat_of_zero_le hi0
        have hm : m < R.length := by have := HRR.out.1; omega
        have e := congrArg (fun L : List (Int × Int) => L[0]?) hRS
        simp only [List.getElem?_drop, Int.toNat_natCast, Nat.add_zero, List.getElem?_cons_zero, List.getElem?_eq_getElem hm] at e
        rw [E.rd_get (by simpa using hm), List.getElem_map, Option.some.inj e]
      have hr2 : rd xs2 i = o.2 := by
        rw [HRR.out.2.2.2]
        obtain ⟨m, rfl⟩ := Int.eq_ofNat_of_zero_le hi0
        have hm : m < R.length := by have := HRR.out.1; omega
        have e := congrArg (fun L : List (Int × Int) => L[0]?) hRS
        simp only [List.getElem?_drop, Int.toNat_natCast, Nat.add_zero, List.getElem?_cons_zero, List.getElem?_eq_getElem hm] at e
        rw [E.rd_get (by simpa using hm), List.getElem_map, Option.some.inj e]
      have HF2 : Aside0 (bOk n o.1 (l.drop (i + 1).toNat) (R.drop (i + 1).toNat)) := ⟨by rw [hRi]; exact hF2⟩
      obtain ⟨ad, rfl, hx⟩ := Kd.at_int (Kd.C_below HR0.out HB1.out) i hi0 hlt
      obtain ⟨ad0, rfl, y0⟩ := Kd.at_int HQ.out.1 i hi0 hlt
      obtain ⟨ad1, rfl, y1⟩ := Kd.at_int HQ.out.2 i hi0 hlt
      rw [hr1] at y0
      rw [hr2] at y1
      obtain ⟨lev, cl⟩ := o
      simp only at g1 g2 g3 g4 g5 y0 y1 HF2
      have p1 : decide (125 < lev) = false := decide_eq_false (by omega)
      have p2 : decide (lev < n) = false := decide_eq_false (by omega)
      generalize hcq : rd l i = c at hx g3 g4 g5
      clear hcq hRS hRi hr1 hr2 hF2 HF
      cases hrm : remC c with
      | true =>
        obtain ⟨rfl, rfl⟩ : lev = bf ∧ cl = 10 := by have := g4 hrm; injection this with e1 e2; exact ⟨e1, e2⟩
        have p3 : (c == 11) = false := beq_eq_false_iff_ne.2 (fun h => by rw [h] at hrm; exact absurd hrm (by decide))
        have p4 : (lev != lev) = false := by simp
        have NEU := removed_q c true w1 qn hrm
        clear hrm g1 g2 g3 g4 g5
        go_upto_region 12 with (fail)
        try simp only [List.append]
        refine wp_region_quiet_lit (by kernel_rfl) ?lex ?_
        case lex =>
          refine Eq.trans (congrArg (fun l : List Oper => Region.lexB Region.Mode.any l.toArray) (?_ : _ = opsAt 12 (Try.f6.body.getD .skip))) lex12
          kernel_rfl
        repeat (go_big_quiet_step ((go_at_call 19; (with_reducible exact NEU _))))
        refine wpQuiet_nil ?_
        intro _ hw'
        obtain ⟨nq, hw''⟩ := hw'
        subst hw''
        go_wp2
        go_roundw
        case rel => exact ⟨i + 1, lev, 0, _, by omega, by omega, by go_num, rfl, HF2, by first | rfl | exact World.drewN_drewN _ _ _⟩
        case measure => simp [intOf]; omega
      | false =>
        have g6 := g5 hrm
        have NEU := removed_q c false w1 qn hrm
        clear g4 g5 hrm
        by_cases h11 : c = 11
        · have p3 : (c == 11) = true := beq_iff_eq.2 h11
          obtain rfl : lev = n := g3 h11
          have p4 : (lev != lev) = false := by simp
          clear h11 g3 g1 g2
          by_cases h1 : cl = c
          · as_aux_lemma =>
            have p5 : (cl != c) = false := by rw [h1]; simp
            clear g6 h1
            go_upto_region 12 with (fail)
            try simp only [List.append]
            refine wp_region_quiet_lit (by kernel_rfl) ?lex ?_
            case lex =>
              refine Eq.trans (congrArg (fun l : List Oper => Region.lexB Region.Mode.any l.toArray) (?_ : _ = opsAt 12 (Try.f6.body.getD .skip))) lex12
              kernel_rfl
            repeat (go_big_quiet_step ((go_at_call 19; (with_reducible exact NEU _))))
            refine wpQuiet_nil ?_
            intro _ hw'
            obtain ⟨nq, hw''⟩ := hw'
            subst hw''
            go_wp2
            go_roundw
            case rel => exact ⟨i + 1, lev, 0, _, by omega, by omega, by go_num, rfl, HF2, by first | rfl | exact World.drewN_drewN _ _ _⟩
            case measure => simp [intOf]; omega
          · have p5 : (cl != c) = true := by simpa using h1
            by_cases h2 : cl = 1
            · as_aux_lemma =>
              have p6 : (cl != 1) = false := by rw [h2]; rfl
              clear g6 h1 h2
              go_upto_region 12 with (fail)
              try simp only [List.append]
              refine wp_region_quiet_lit (by kernel_rfl) ?lex ?_
              case lex =>
                refine Eq.trans (congrArg (fun l : List Oper => Region.lexB Region.Mode.any l.toArray) (?_ : _ = opsAt 12 (Try.f6.body.getD .skip))) lex12
                kernel_rfl
              repeat (go_big_quiet_step ((go_at_call 19; (with_reducible exact NEU _))))
              refine wpQuiet_nil ?_
              intro _ hw'
              obtain ⟨nq, hw''⟩ := hw'
              subst hw''
              go_wp2
              go_roundw
              case rel => exact ⟨i + 1, lev, 0, _, by omega, by omega, by go_num, rfl, HF2, by first | rfl | exact World.drewN_drewN _ _ _⟩
              case measure => simp [intOf]; omega
            · as_aux_lemma =>
              have p6 : (cl != 1) = true := by simpa using h2
              have p7 : (cl != 2) = false := by rw [show cl = 2 by omega]; rfl
              clear g6 h1 h2
              go_upto_region 12 with (fail)
              try simp only [List.append]
              refine wp_region_quiet_lit (by kernel_rfl) ?lex ?_
              case lex =>
                refine Eq.trans (congrArg (fun l : List Oper => Region.lexB Region.Mode.any l.toArray) (?_ : _ = opsAt 12 (Try.f6.body.getD .skip))) lex12
                kernel_rfl
              repeat (go_big_quiet_step ((go_at_call 19; (with_reducible exact NEU _))))
              refine wpQuiet_nil ?_
              intro _ hw'
              obtain ⟨nq, hw''⟩ := hw'
              subst hw''
              go_wp2
              go_roundw
              case rel => exact ⟨i + 1, lev, 0, _, by omega, by omega, by go_num, rfl, HF2, by first | rfl | exact World.drewN_drewN _ _ _⟩
              case measure => simp [intOf]; omega
        · have p3 : (c == 11) = false := beq_eq_false_iff_ne.2 h11
          clear h11 g3 g1 g2
          by_cases h1 : cl = c
          · as_aux_lemma =>
            have p5 : (cl != c) = false := by rw [h1]; simp
            clear g6 h1
            go_upto_region 12 with (fail)
            try simp only [List.append]
            refine wp_region_quiet_lit (by kernel_rfl) ?lex ?_
            case lex =>
              refine Eq.trans (congrArg (fun l : List Oper => Region.lexB Region.Mode.any l.toArray) (?_ : _ = opsAt 12 (Try.f6.body.getD .skip))) lex12
              kernel_rfl
            repeat (go_big_quiet_step ((go_at_call 19; (with_reducible exact NEU _))))
            refine wpQuiet_nil ?_
            intro _ hw'
            obtain ⟨nq, hw''⟩ := hw'
            subst hw''
            go_wp2
            go_roundw
            case rel => exact ⟨i + 1, lev, 0, _, by omega, by omega, by go_num, rfl, HF2, by first | rfl | exact World.drewN_drewN _ _ _⟩
            case measure => simp [intOf]; omega
          · have p5 : (cl != c) = true := by simpa using h1
            by_cases h2 : cl = 1
            · as_aux_lemma =>
              have p6 : (cl != 1) = false := by rw [h2]; rfl
              clear g6 h1 h2
              go_upto_region 12 with (fail)
              try simp only [List.append]
              refine wp_region_quiet_lit (by kernel_rfl) ?lex ?_
              case lex =>
                refine Eq.trans (congrArg (fun l : List Oper => Region.lexB Region.Mode.any l.toArray) (?_ : _ = opsAt 12 (Try.f6.body.getD .skip))) lex12
                kernel_rfl
              repeat (go_big_quiet_step ((go_at_call 19; (with_reducible exact NEU _))))
              refine wpQuiet_nil ?_
              intro _ hw'
              obtain ⟨nq, hw''⟩ := hw'
              subst hw''
              go_wp2
              go_roundw
              case rel => exact ⟨i + 1, lev, 0, _, by omega, by omega, by go_num, rfl, HF2, by first | rfl | exact World.drewN_drewN _ _ _⟩
              case measure => simp [intOf]; omega
            · as_aux_lemma =>
              have p6 : (cl != 1) = true := by simpa using h2
              have p7 : (cl != 2) = false := by rw [show cl = 2 by omega]; rfl
              clear g6 h1 h2
              go_upto_region 12 with (fail)
              try simp only [List.append]
              refine wp_region_quiet_lit (by kernel_rfl) ?lex ?_
              case lex =>
                refine Eq.trans (congrArg (fun l : List Oper => Region.lexB Region.Mode.any l.toArray) (?_ : _ = opsAt 12 (Try.f6.body.getD .skip))) lex12
                kernel_rfl
              repeat (go_big_quiet_step ((go_at_call 19; (with_reducible exact NEU _))))
              refine wpQuiet_nil ?_
              intro _ hw'
              obtain ⟨nq, hw''⟩ := hw'
              subst hw''
              go_wp2
              go_roundw
              case rel => exact ⟨i + 1, lev, 0, _, by omega, by omega, by go_num, rfl, HF2, by first | rfl | exact World.drewN_drewN _ _ _⟩
              case measure => simp [intOf]; omega
    · have bl : decide (i < (l.length : Int)) = false := decide_eq_false hlt
      clear HQ
      go_wp2_with (go_at_call 10; refine (HWK.out _).mono ?_; rintro e w' ⟨rfl, hb⟩; have HB := Aside0.mk hb; clear hb)
      go_ret
      exact ⟨rfl, below_step (pw_below_drewN HB1.out _) HB.out⟩
def selvedgelaw14_ExplicitBounds.f (l0 : List Int) (a1 : Int) : Option Bool := if 0 ≤ a1 then some true else none
theorem selvedgelaw14_ExplicitBounds.calls (A0 : Option Addr) (c0 : Nat) (l0 : List Int) (a1 : Int) (r : Bool) (w : World) (hr0 : Kd.C (Kd.int .u8) w A0 l0.length l0) (hc0 : l0.length ≤ c0) (h : selvedgelaw14_ExplicitBounds.f l0 a1 = some r) :
    Calls Try.prog 6 #[.slice A0 l0.length c0, .int .u8 a1] w fun e w' => e = .returned (.bool r) ∧ Below w.heap.size w w' := by
  unfold selvedgelaw14_ExplicitBounds.f at h
  by_cases q : 0 ≤ a1
  · rw [if_pos q] at h
    obtain rfl := Option.some.inj h
    by_cases q1 : 2000 < l0.length
    · exact bounds_big A0 c0 l0 a1 w hr0 q1
    · by_cases hz : (lvRes l0 a1).2.2.2 = 0
      · obtain ⟨hv, hb2, e⟩ := lvRes_zero l0 a1 (by omega) hz
        have hn := lvBase01 l0 a1 q hb2
        refine bounds_ok A0 c0 l0 a1 w hr0 hc0 (by omega) (lvBase l0 a1) hn.1 hn.2 _ (runL_len _ _ _ _) (runL_out _ hn.1 hn.2 l0 _ _ 0 (Wf.new hn.1 hn.2) (Int.le_refl 0) (fun x hx => ?_) (Int.le_refl _) (by omega)) _ _ rfl rfl ((lvRes_some l0 a1 q).trans (congrArg some e))
        have := List.mem_singleton.1 hx
        subst this
        exact Int.le_refl _
      · have e : lvRes l0 a1 = ([], [], 0, 2) := by
          unfold lvRes at hz ⊢
          rw [if_neg (by omega)] at hz ⊢
          by_cases q2 : l0.all okC = false
          · rw [if_pos q2]
          · rw [if_neg q2] at hz ⊢
            by_cases q3 : 2 < a1
            · rw [if_pos q3]
            · rw [if_neg q3] at hz
              exact absurd rfl hz
        exact bounds_err A0 c0 l0 a1 w hr0 hc0 (by omega) 2 (by decide) ((lvRes_some l0 a1 q).trans (congrArg some e))
  · rw [if_neg q] at h
    cases h
end Go.Proofs.Ytdkbkecnhebanaa.X
