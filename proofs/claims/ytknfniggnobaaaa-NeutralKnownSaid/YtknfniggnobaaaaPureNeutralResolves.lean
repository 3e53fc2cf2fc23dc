/- The statement NeutralResolves of chapter 18: whatever row of classes, level, sos and eos comes in, the law answers true: the program's classes are the document's (for a row of more than 3000 classes: the short call alone). -/
import Derived.Test.YtknfniggnobaaaaB
namespace Go.Proofs.Ytknfniggnobaaaa.Pure
open Go.RowKit Go.Proofs.Ytknfniggnobaaaa.X Go.Proofs.YtknfniggnobaaaaW.PrintWords Go.Proofs.YtknfniggnobaaaaW.PrintLast Go.Proofs.Ytknfniggnobaaaa

theorem NeutralResolves : selvedgelaw18_NeutralResolves.Pure := by
  intro l a s e hm hy hw ha hs he
  have h0 := E.u8_lo ha
  refine E.out ?_
  unfold selvedgelaw18_NeutralResolves.f
  by_cases h : (l.length : Int) > 3000
  · exact E.pos h (E.bnd A.works_ev (E.ret rfl))
  · have hl : l.length < 140737488355328 := by omega
    refine E.neg h (E.bno (a := l) (by unfold selvedgelaw18_own.f; rw [if_pos (by simpa using hl), List.nil_append]) (E.bno (a := nRes (if a % 2 = 1 then 2 else 1) (nEdge e) (nEdge s) l) (by unfold neutral_Resolve.f; rw [if_pos ⟨hl, h0.1, h0.2⟩]) (E.bnd (A.refResolve l a s e h0.1 h0.2 (by omega)) (E.bnd (A.is_self _ (by rw [A.nRes_length]; omega)) (E.pos rfl (E.bnd (A.is_self l (by omega)) (E.pos rfl (E.bnd A.works_ev (E.ret rfl)))))))))
end Go.Proofs.Ytknfniggnobaaaa.Pure
