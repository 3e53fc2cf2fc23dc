/- Whatever stands in an LRI or RLI with its PDI, whose initiator is not overflown, changes no level and no class outside of it: in an isolate only what came since it began is popped, and its own PDI brings back what was there. -/
import Derived.Test.YtdkbkecnhebanaaX2
import Derived.Test.YtdkbkecnhebanaaG
import Derived.Test.YtdkbkecnhebanaaH
import Derived.Test.YtdkbkecnhebanaaE
namespace Go.Proofs.Ytdkbkecnhebanaa.Pure
open Go.RowKit Go.Proofs.Ytdkbkecnhebanaa Go.Proofs.Ytdkbkecnhebanaa.X Go.Proofs.YtdkbkecnhebanaaW.PrintWords Go.Proofs.YtdkbkecnhebanaaW.PrintLast
set_option linter.unusedVariables false
set_option linter.unusedSimpArgs false
theorem plain_l (X : List Int) (hl : X.length ≤ 1000000) : ∀ (m : Nat) (d : Nat) (i : Int), 0 ≤ i → i ≤ X.length → X.length - i.toNat ≤ m → (d : Int) ≤ i → Ev (fun k => selvedgelaw14_plain.l0 k X (d : Int) i) (decide (plN (X.drop i.toNat) d = some 0)) := by
  intro m
  have fin : ∀ (d : Nat) (i : Int), 0 ≤ i → ¬ i < (X.length : Int) → Ev (fun k => selvedgelaw14_plain.l0 k X (d : Int) i) (decide (plN (X.drop i.toNat) d = some 0)) := fun d i h0 h => by
    refine E.succ (E.neg h (E.ret ?_))
    rw [List.drop_of_length_le (by omega)]
    show ((d : Int) == 0) = decide (some d = some 0)
    by_cases q : d = 0
    · subst q; rfl
    · rw [decide_eq_false (by simpa using q)]; simp; omega
  induction m with
  | zero => intro d i h0 h1 h2 h3; exact fin d i h0 (by omega)
  | succ m ih =>
    intro d i h0 h1 h2 h3
    by_cases h : i < (X.length : Int)
    · have hd := E.rd_drop h0 h
      rw [hd]
      have hw : wrap64 (i + 1) = i + 1 := E.w64 (by omega) (by omega)
      refine E.succ (E.pos h (E.pos h0 ?_))
      by_cases q0 : rd X i < 1 ∨ 23 < rd X i ∨ rd X i = 11
      · have e : plN (rd X i :: X.drop (i + 1).toNat) d = none := if_pos q0
        rw [e]
        have no : Ev (fun k => selvedgelaw14_plain.j1 k X (d : Int) i true) false := by
          refine E.succ ?_
          exact E.ret rfl
        rw [show decide ((none : Option Nat) = some 0) = false by rfl]
        by_cases r1 : rd X i < 1
        · exact E.pos r1 no
        · refine E.neg r1 ?_
          by_cases r2 : rd X i > 23
          · exact E.pos r2 no
          · refine E.neg r2 ?_
            rw [show (rd X i == 11) = true by simp; omega]
            exact no
      · have st : ∀ {r : Bool}, Ev (fun k => selvedgelaw14_plain.j1 k X (d : Int) i false) r → Ev (fun n => if rd X i < 1 then selvedgelaw14_plain.j1 n X (d : Int) i true else if rd X i > 23 then selvedgelaw14_plain.j1 n X (d : Int) i true else selvedgelaw14_plain.j1 n X (d : Int) i (rd X i == 11)) r := fun hr => by
          refine E.neg (by omega) (E.neg (by omega) ?_)
          rw [show (rd X i == 11) = false by simp; omega]
          exact hr
        refine st (E.succ ?_)
        refine E.pos h0 (E.pos h (E.bno (initiator14 _) ?_))
        by_cases r1 : 20 ≤ rd X i ∧ rd X i ≤ 22
        · have e : plN (rd X i :: X.drop (i + 1).toNat) d = plN (X.drop (i + 1).toNat) (d + 1) := (if_neg q0).trans (if_pos r1)
          rw [e]
          refine E.pos (decide_eq_true r1) ?_
          rw [hw, E.w64 (by omega) (by omega)]
          exact ih (d + 1) (i + 1) (by omega) (by omega) (by omega) (by omega)
        · refine E.neg (by rw [decide_eq_false r1]; decide) ?_
          by_cases r2 : rd X i = 23
          · refine E.pos r2 ?_
            rw [hw, E.w64 (by omega) (by omega)]
            cases d with
            | zero =>
              have e : plN (rd X i :: X.drop (i + 1).toNat) 0 = none := (if_neg q0).trans ((if_neg r1).trans (if_pos r2))
              rw [e]
              exact E.pos (by omega) (E.ret rfl)
            | succ d =>
              have e : plN (rd X i :: X.drop (i + 1).toNat) (d + 1) = plN (X.drop (i + 1).toNat) d := (if_neg q0).trans ((if_neg r1).trans (if_pos r2))
              rw [e]
              refine E.neg (by omega) ?_
              rw [show ((d + 1 : Nat) : Int) - 1 = (d : Int) by omega]
              exact ih d (i + 1) (by omega) (by omega) (by omega) (by omega)
          · have e : plN (rd X i :: X.drop (i + 1).toNat) d = plN (X.drop (i + 1).toNat) d := (if_neg q0).trans ((if_neg r1).trans (if_neg r2))
            rw [e]
            refine E.neg r2 ?_
            rw [hw]
            exact ih d (i + 1) (by omega) (by omega) (by omega) (by omega)
    · exact fin d i h0 h
theorem plain_ev (X : List Int) (hl : X.length ≤ 1000000) : Ev (fun k => selvedgelaw14_plain.f k X) (decide (plN X 0 = some 0)) := plain_l X hl X.length 0 0 (by omega) (by omega) (by omega) (by omega)
theorem plN_ok : ∀ (X : List Int) (d d' : Nat), plN X d = some d' → X.all okC = true := by
  intro X
  induction X with
  | nil => intros; rfl
  | cons c t ih =>
    intro d d' h
    unfold plN at h
    by_cases q0 : c < 1 ∨ 23 < c ∨ c = 11
    · rw [if_pos q0] at h; cases h
    · rw [if_neg q0] at h
      have hc : okC c = true := decide_eq_true (by omega)
      rw [List.all_cons, hc, Bool.true_and]
      by_cases q1 : 20 ≤ c ∧ c ≤ 22
      · rw [if_pos q1] at h; exact ih _ _ h
      · rw [if_neg q1] at h
        by_cases q3 : c = 23
        · rw [if_pos q3] at h
          cases d with
          | zero => cases h
          | succ d => exact ih _ _ h
        · rw [if_neg q3] at h; exact ih _ _ h
/-- Behind: the last places are alike. -/
theorem isol_l1 (nb : List Int) (P1 P2 Q1 Q2 S1 S2 : List Int) (y1 y2 : List Int) (hS1 : S1.length = nb.length + 1) (hS2 : S2.length = nb.length + 1) (hP : P1.length = P2.length) (hQ : Q1.length = Q2.length) (hy1 : y1.length = P1.length + nb.length + 1) (hy2 : y2.length = Q1.length + nb.length + 1) (hb : y1.length ≤ 1000000) (hb2 : y2.length ≤ 1000000) :
    ∀ (d : Nat) (i : Int), 0 ≤ i → i ≤ (nb.length : Int) + 1 → nb.length + 1 - i.toNat ≤ d → Ev (fun k => selvedgelaw14_ExplicitIsolates.l1 k nb y1 y2 (P1 ++ S1) (P2 ++ S2) (Q1 ++ S1) (Q2 ++ S2) i) true := by
  intro d
  induction d with
  | zero => intro i h0 h1 h2; exact E.succ (E.neg (by omega) works_then)
  | succ d ih =>
    intro i h0 h1 h2
    by_cases h : i ≤ (nb.length : Int)
    · have w1 : wrap64 ((y1.length : Int) - 1) = (y1.length : Int) - 1 := E.w64 (by omega) (by omega)
      have w2 : wrap64 ((y2.length : Int) - 1) = (y2.length : Int) - 1 := E.w64 (by omega) (by omega)
      have w3 : wrap64 ((y1.length : Int) - 1 - i) = (y1.length : Int) - 1 - i := E.w64 (by omega) (by omega)
      have w4 : wrap64 ((y2.length : Int) - 1 - i) = (y2.length : Int) - 1 - i := E.w64 (by omega) (by omega)
      refine E.succ (E.pos h ?_)
      rw [w1, w2, w3, w4]
      have r1 : rd (P1 ++ S1) ((y1.length : Int) - 1 - i) = rd S1 ((nb.length : Int) - i) := by rw [E.rd_append_right (by omega)]; congr 1; omega
      have r2 : rd (Q1 ++ S1) ((y2.length : Int) - 1 - i) = rd S1 ((nb.length : Int) - i) := by rw [E.rd_append_right (by omega)]; congr 1; omega
      have r3 : rd (P2 ++ S2) ((y1.length : Int) - 1 - i) = rd S2 ((nb.length : Int) - i) := by rw [E.rd_append_right (by omega)]; congr 1; omega
      have r4 : rd (Q2 ++ S2) ((y2.length : Int) - 1 - i) = rd S2 ((nb.length : Int) - i) := by rw [E.rd_append_right (by omega)]; congr 1; omega
      refine E.pos (by omega) (E.pos (by simp; omega) (E.pos (by omega) (E.pos (by simp; omega) (E.pos (by rw [r1, r2]) (E.pos (by simp; omega) (E.pos (by simp; omega) (E.pos (by rw [r3, r4]) ?_)))))))
      rw [E.w64 (by omega) (by omega)]
      exact ih (i + 1) (by omega) (by omega) (by omega)
    · exact E.succ (E.neg h works_then)
/-- Ahead: the first places are alike. -/
theorem isol_l0 (na nb : List Int) (y1 y2 : List Int) (A1 A2 r1 r2 s1 s2 : List Int) (hA1 : A1.length = na.length + 1) (hA2 : A2.length = na.length + 1) (hn : na.length ≤ 1000000) (next : Ev (fun k => selvedgelaw14_ExplicitIsolates.l1 k nb y1 y2 (A1 ++ r1) (A2 ++ r2) (A1 ++ s1) (A2 ++ s2) 0) true) :
    ∀ (d : Nat) (i : Int), 0 ≤ i → i ≤ (na.length : Int) + 1 → na.length + 1 - i.toNat ≤ d → Ev (fun k => selvedgelaw14_ExplicitIsolates.l0 k na nb y1 y2 (A1 ++ r1) (A2 ++ r2) (A1 ++ s1) (A2 ++ s2) i) true := by
  intro d
  induction d with
  | zero => intro i h0 h1 h2; exact E.succ (E.neg (by omega) next)
  | succ d ih =>
    intro i h0 h1 h2
    by_cases h : i ≤ (na.length : Int)
    · have k1 : rd (A1 ++ r1) i = rd (A1 ++ s1) i := by rw [E.rd_append_left h0 (by omega), E.rd_append_left h0 (by omega)]
      have k2 : rd (A2 ++ r2) i = rd (A2 ++ s2) i := by rw [E.rd_append_left h0 (by omega), E.rd_append_left h0 (by omega)]
      refine E.succ (E.pos h (E.pos h0 (E.pos (by simp; omega) (E.pos (by simp; omega) (E.pos k1 (E.pos (by simp; omega) (E.pos (by simp; omega) (E.pos k2 ?_))))))))
      rw [E.w64 (by omega) (by omega)]
      exact ih (i + 1) (by omega) (by omega) (by omega)
    · exact E.succ (E.neg h next)
theorem isol_j1 (ahead one two behind : List Int) (base : Int) (h0 : 0 ≤ base) (c : Int) (hc : c = 20 ∨ c = 21) (l1 : ahead.length ≤ 600) (l2 : one.length ≤ 600) (l3 : two.length ≤ 600) (l4 : behind.length ≤ 600) (p1 : plN one 0 = some 0) (p2 : plN two 0 = some 0) :
    Ev (fun k => selvedgelaw14_ExplicitIsolates.j1 k ahead one two behind base c) true := by
  refine E.succ ?_
  refine E.pos (by simp; omega) (E.bno rfl (E.pos (by simp; omega) (E.bno rfl (E.pos (by simp; omega) (E.bno rfl (E.pos (by simp; omega) (E.bno rfl (E.pos (by simp; omega) (E.bno rfl (E.pos (by simp; omega) (E.bno rfl (E.pos (by simp; omega) (E.bno rfl (E.pos (by simp; omega) (E.bno rfl (E.pos (by simp; omega) (E.bno rfl (E.bno (lvRes_some _ base h0) (E.bno (lvRes_some _ base h0) ?_)))))))))))))))))))
  have g : ∀ X : List Int, (([] ++ ahead) ++ [c]) ++ X ++ [23] ++ behind = ahead ++ (c :: X ++ 23 :: behind) := fun X => by simp
  have g2 : ∀ X : List Int, ([] ++ (([] ++ ahead) ++ [c])) ++ X ++ [23] ++ behind = ahead ++ (c :: X ++ 23 :: behind) := fun X => by simp
  rw [g one, g2 two]
  have okc : okC c = true := by rcases hc with rfl | rfl <;> decide
  have okl : ∀ X : List Int, X.all okC = true → (ahead ++ (c :: X ++ 23 :: behind)).all okC = (ahead.all okC && behind.all okC) := fun X hX => by
    have : okC 23 = true := by decide
    simp [List.all_append, hX, okc, this]
  have ok1 := plN_ok one 0 0 p1
  have ok2 := plN_ok two 0 0 p2
  have len : ∀ X : List Int, X.length ≤ 600 → (ahead ++ (c :: X ++ 23 :: behind)).length ≤ 65536 := fun X hX => by simp; omega
  by_cases hz : (lvRes (ahead ++ (c :: one ++ 23 :: behind)) base).2.2.2 = 0
  · obtain ⟨hv, hb2, e1⟩ := lvRes_zero _ base (len one l2) hz
    rw [okl one ok1] at hv
    have hv2 := okl two ok2
    rw [hv] at hv2
    have e2 := lvRes_is _ base (len two l3) hv2 hb2
    have hdir : ∀ X, plN X 0 = some 0 → dirS false (ahead ++ (c :: X ++ 23 :: behind)) 0 = dirS false (ahead ++ behind) 0 := fun X hX => dir_ahead false _ _ (fun d => dir_isol false c hc X behind hX d) ahead 0
    have hbs : lvBase (ahead ++ (c :: two ++ 23 :: behind)) base = lvBase (ahead ++ (c :: one ++ 23 :: behind)) base := by unfold lvBase; rw [hdir one p1, hdir two p2]
    rw [hbs] at e2
    have hn := lvBase01 (ahead ++ (c :: one ++ 23 :: behind)) base h0 hb2
    rw [e1, e2]
    generalize lvBase (ahead ++ (c :: one ++ 23 :: behind)) base = n at hn
    refine E.pos rfl (E.pos rfl ?_)
    show Ev (fun k => selvedgelaw14_ExplicitIsolates.j2 k _ _ _ _ _ _ _ n 0 _ _ 0 false) true
    refine E.succ ?_
    have e14 : plN [14] 0 = some 0 := by decide
    have ok14 : ([14] : List Int).all okC = true := by decide
    have hv3 := okl [14] ok14
    rw [hv] at hv3
    have e3 := lvRes_is _ n (len [14] (by simp)) hv3 (by omega)
    rw [lvBase_own n (by omega)] at e3
    have hx := (lvRes_some (ahead ++ (c :: [14] ++ 23 :: behind)) n (by omega)).trans (congrArg some e3)
    have g3 : ([] ++ ahead) ++ [c, 14, 23] ++ behind = ahead ++ (c :: [14] ++ 23 :: behind) := by simp
    refine E.pos (by simp; omega) (E.bno rfl (E.bno rfl (E.pos (by simp; omega) (E.bno rfl (E.pos (by simp; omega) (E.bno rfl ?_))))))
    rw [g3]
    have wa : wrap64 ((ahead.length : Int) + 1) = (ahead.length : Int) + 1 := E.w64 (by omega) (by omega)
    refine E.bno hx (E.pos (by simp [runL_len]) ?_)
    rw [wa]
    refine E.pos (by omega) (E.pos (by simp [runL_len]; omega) (E.pos (by omega) (E.pos (by simp [runL_len]; omega) ?_)))
    rcases isol_main n hn.1 hn.2 ahead behind c hc with ⟨A, Z, oc, k1, k2, k3⟩ | ⟨A, R, oc, o2, k1, k2, k3⟩
    · obtain ⟨Y1, m1, m2⟩ := k3 one p1
      obtain ⟨Y2, m3, m4⟩ := k3 two p2
      rw [m2, m4]
      generalize (rd ((runL n (ahead ++ (c :: [14] ++ 23 :: behind)) (newA n) n).map fun x => x.1) ((ahead.length : Int) + 1) == rd ((runL n (ahead ++ (c :: [14] ++ 23 :: behind)) (newA n) n).map fun x => x.1) (ahead.length : Int)) = b
      refine E.succ ?_
      cases b with
      | true => exact works_then
      | false =>
        show Ev (fun k => selvedgelaw14_ExplicitIsolates.l0 k ahead behind _ _ _ _ _ _ 0) true
        have sp : ∀ (f : Int × Int → Int) (Y : List (Int × Int)), (A ++ oc :: (Y ++ Z)).map f = (A ++ [oc]).map f ++ (Y.map f ++ Z.map f) := fun f Y => by simp
        rw [sp, sp, sp, sp]
        refine isol_l0 ahead behind _ _ _ _ _ _ _ _ (by simp [k1]) (by simp [k1]) (by omega) ?_ (ahead.length + 1) 0 (by omega) (by omega) (by omega)
        have h := isol_l1 behind ((A ++ [oc]).map (fun x : Int × Int => x.1) ++ Y1.map (fun x : Int × Int => x.1)) ((A ++ [oc]).map (fun x : Int × Int => x.2) ++ Y1.map (fun x : Int × Int => x.2)) ((A ++ [oc]).map (fun x : Int × Int => x.1) ++ Y2.map (fun x : Int × Int => x.1)) ((A ++ [oc]).map (fun x : Int × Int => x.2) ++ Y2.map (fun x : Int × Int => x.2)) (Z.map (fun x : Int × Int => x.1)) (Z.map (fun x : Int × Int => x.2)) (ahead ++ (c :: one ++ 23 :: behind)) (ahead ++ (c :: two ++ 23 :: behind)) (by simp [k2]) (by simp [k2]) (by simp) (by simp) (by simp [k1, m1]; omega) (by simp [k1, m3]; omega) (by simp; omega) (by simp; omega) (behind.length + 1) 0 (by omega) (by omega) (by omega)
        rw [List.append_assoc, List.append_assoc, List.append_assoc, List.append_assoc] at h
        exact h
    · rw [k3]
      have q1 : rd ((A ++ oc :: o2 :: R).map fun x => x.1) (ahead.length : Int) = oc.1 := by
        rw [List.map_append, List.map_cons]; exact E.rd_mid' (by simp [k1])
      have q2 : rd ((A ++ oc :: o2 :: R).map fun x => x.1) ((ahead.length : Int) + 1) = o2.1 := by
        rw [show A ++ oc :: o2 :: R = (A ++ [oc]) ++ o2 :: R by simp, List.map_append, List.map_cons]; exact E.rd_mid' (by simp [k1])
      rw [q1, q2, k2, show (oc.1 == oc.1) = true by simp]
      refine E.succ ?_
      exact works_then
  · have q1 : ∀ X : List Int, X.length ≤ 600 → (ahead ++ (c :: X ++ 23 :: behind)).all okC = (ahead.all okC && behind.all okC) → ((ahead.all okC && behind.all okC) = false ∨ 2 < base) → lvRes (ahead ++ (c :: X ++ 23 :: behind)) base = ([], [], 0, 2) := fun X hX hv hq => by
      have hl := len X hX
      refine (if_neg (by omega)).trans ?_
      rw [hv]
      rcases hq with hq | hq
      · exact if_pos hq
      · by_cases hh : (ahead.all okC && behind.all okC) = false
        · exact if_pos hh
        · exact (if_neg hh).trans (if_pos hq)
    have hq : (ahead.all okC && behind.all okC) = false ∨ 2 < base := by
      by_cases hh : (ahead.all okC && behind.all okC) = false
      · exact .inl hh
      · refine .inr ?_
        have hv : (ahead.all okC && behind.all okC) = true := by simpa using hh
        have := lvRes_is (ahead ++ (c :: one ++ 23 :: behind)) base (len one l2) ((okl one ok1).trans hv)
        rcases Int.lt_or_le 2 base with h | h
        · exact h
        · rw [this h] at hz; exact absurd rfl hz
    rw [q1 one l2 (okl one ok1) hq, q1 two l3 (okl two ok2) hq]
    refine E.pos rfl (E.pos rfl ?_)
    show Ev (fun k => selvedgelaw14_ExplicitIsolates.j2 k ahead behind c _ _ [] [] 0 2 [] [] 2 true) true
    refine E.succ ?_
    first | exact works_then | exact E.pos rfl works_then
theorem ExplicitIsolates : selvedgelaw14_ExplicitIsolates.Pure := by
  intro ahead one two behind right base _ _ _ _ _ _ _ _ _ _ _ _ hb
  apply E.out
  have h0 := u8_nonneg hb
  have big : Ev (fun k => selvedgelaw14_ExplicitIsolates.j0 k ahead one two behind right base true) true := by
    refine E.succ ?_
    exact works_then
  by_cases q1 : (ahead.length : Int) > 600
  · exact E.pos q1 big
  refine E.neg q1 ?_
  by_cases q2 : (one.length : Int) > 600
  · exact E.pos q2 big
  refine E.neg q2 ?_
  by_cases q3 : (two.length : Int) > 600
  · exact E.pos q3 big
  refine E.neg q3 ?_
  by_cases q4 : (behind.length : Int) > 600
  · exact E.pos q4 big
  refine E.neg q4 (E.bnd (plain_ev one (by omega)) ?_)
  by_cases p1 : plN one 0 = some 0
  · rw [decide_eq_true p1]
    refine E.pos rfl (E.bnd (plain_ev two (by omega)) ?_)
    by_cases p2 : plN two 0 = some 0
    · rw [decide_eq_true p2]
      show Ev (fun k => selvedgelaw14_ExplicitIsolates.j0 k ahead one two behind right base false) true
      refine E.succ ?_
      cases right with
      | true => exact isol_j1 ahead one two behind base h0 21 (.inr rfl) (by omega) (by omega) (by omega) (by omega) p1 p2
      | false => exact isol_j1 ahead one two behind base h0 20 (.inl rfl) (by omega) (by omega) (by omega) (by omega) p1 p2
    · rw [decide_eq_false p2]
      exact big
  · rw [decide_eq_false p1]
    exact E.neg (by decide) big
end Go.Proofs.Ytdkbkecnhebanaa.Pure
