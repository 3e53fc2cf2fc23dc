import Derived.Test.YtiogpnefnapfeaaDoorX0
/-! The reference's ranges: a long literal. -/
namespace Go.Proofs.YtiogpnefnapfeaaDoor.X
open Go.RowKit Go.Proofs.YtiogpnefnapfeaaDoorW.PrintWords Go.Proofs.YtiogpnefnapfeaaDoorW.PrintLast Go.Proofs.YtiogpnefnapfeaaDoorW.PrintMore
set_option linter.unusedVariables false
set_option linter.unusedSimpArgs false
/-- All ranges. -/
def RGL : List S75 := [(⟨0, 8, 10⟩ : S75), (⟨9, 9, 12⟩ : S75), (⟨10, 10, 11⟩ : S75), (⟨11, 11, 12⟩ : S75), (⟨12, 12, 13⟩ : S75), (⟨13, 13, 11⟩ : S75), (⟨14, 27, 10⟩ : S75), (⟨28, 30, 11⟩ : S75), (⟨31, 31, 12⟩ : S75), (⟨32, 32, 13⟩ : S75), (⟨33, 34, 14⟩ : S75), (⟨35, 37, 6⟩ : S75), (⟨38, 42, 14⟩ : S75), (⟨43, 43, 5⟩ : S75), (⟨44, 44, 8⟩ : S75), (⟨45, 45, 5⟩ : S75), (⟨46, 47, 8⟩ : S75), (⟨48, 57, 4⟩ : S75), (⟨58, 58, 8⟩ : S75), (⟨59, 64, 14⟩ : S75), (⟨91, 96, 14⟩ : S75), (⟨123, 126, 14⟩ : S75), (⟨127, 132, 10⟩ : S75), (⟨133, 133, 11⟩ : S75), (⟨134, 159, 10⟩ : S75), (⟨160, 160, 8⟩ : S75), (⟨161, 161, 14⟩ : S75), (⟨162, 165, 6⟩ : S75), (⟨166, 169, 14⟩ : S75), (⟨171, 172, 14⟩ : S75), (⟨173, 173, 10⟩ : S75), (⟨174, 175, 14⟩ : S75), (⟨176, 177, 6⟩ : S75), (⟨178, 179, 4⟩ : S75), (⟨180, 180, 14⟩ : S75), (⟨182, 184, 14⟩ : S75), (⟨185, 185, 4⟩ : S75), (⟨187, 191, 14⟩ : S75), (⟨215, 215, 14⟩ : S75), (⟨247, 247, 14⟩ : S75), (⟨768, 879, 9⟩ : S75), (⟨1155, 1161, 9⟩ : S75), (⟨1424, 1424, 2⟩ : S75), (⟨1425, 1469, 9⟩ : S75), (⟨1470, 1470, 2⟩ : S75), (⟨1471, 1471, 9⟩ : S75), (⟨1472, 1472, 2⟩ : S75), (⟨1473, 1474, 9⟩ : S75), (⟨1475, 1475, 2⟩ : S75), (⟨1476, 1477, 9⟩ : S75), (⟨1478, 1478, 2⟩ : S75), (⟨1479, 1479, 9⟩ : S75), (⟨1480, 1535, 2⟩ : S75), (⟨1536, 1541, 7⟩ : S75), (⟨1542, 1543, 14⟩ : S75), (⟨1544, 1544, 3⟩ : S75), (⟨1545, 1546, 6⟩ : S75), (⟨1547, 1547, 3⟩ : S75), (⟨1548, 1548, 8⟩ : S75), (⟨1549, 1549, 3⟩ : S75), (⟨1550, 1551, 14⟩ : S75), (⟨1552, 1562, 9⟩ : S75), (⟨1563, 1610, 3⟩ : S75), (⟨1611, 1631, 9⟩ : S75), (⟨1632, 1641, 7⟩ : S75), (⟨1642, 1642, 6⟩ : S75), (⟨1643, 1644, 7⟩ : S75), (⟨1645, 1647, 3⟩ : S75), (⟨1648, 1648, 9⟩ : S75), (⟨1649, 1749, 3⟩ : S75), (⟨1750, 1756, 9⟩ : S75), (⟨1757, 1757, 7⟩ : S75), (⟨1758, 1758, 14⟩ : S75), (⟨1759, 1764, 9⟩ : S75), (⟨1765, 1766, 3⟩ : S75), (⟨1767, 1768, 9⟩ : S75), (⟨1769, 1769, 14⟩ : S75), (⟨1770, 1773, 9⟩ : S75), (⟨1774, 1775, 3⟩ : S75), (⟨1776, 1785, 4⟩ : S75), (⟨1786, 1808, 3⟩ : S75), (⟨1809, 1809, 9⟩ : S75), (⟨1810, 1839, 3⟩ : S75), (⟨1840, 1866, 9⟩ : S75), (⟨1867, 1957, 3⟩ : S75), (⟨1958, 1968, 9⟩ : S75), (⟨1969, 1983, 3⟩ : S75), (⟨8192, 8202, 13⟩ : S75), (⟨8203, 8205, 10⟩ : S75), (⟨8207, 8207, 2⟩ : S75), (⟨8208, 8231, 14⟩ : S75), (⟨8232, 8232, 13⟩ : S75), (⟨8233, 8233, 11⟩ : S75), (⟨8234, 8234, 15⟩ : S75), (⟨8235, 8235, 16⟩ : S75), (⟨8236, 8236, 19⟩ : S75), (⟨8237, 8237, 17⟩ : S75), (⟨8238, 8238, 18⟩ : S75), (⟨8239, 8239, 8⟩ : S75), (⟨8240, 8244, 6⟩ : S75), (⟨8245, 8259, 14⟩ : S75), (⟨8260, 8260, 8⟩ : S75), (⟨8261, 8286, 14⟩ : S75), (⟨8287, 8287, 13⟩ : S75), (⟨8288, 8293, 10⟩ : S75), (⟨8294, 8294, 20⟩ : S75), (⟨8295, 8295, 21⟩ : S75), (⟨8296, 8296, 22⟩ : S75), (⟨8297, 8297, 23⟩ : S75), (⟨8298, 8303, 10⟩ : S75), (⟨8304, 8304, 4⟩ : S75), (⟨8308, 8313, 4⟩ : S75), (⟨8314, 8315, 5⟩ : S75), (⟨8316, 8318, 14⟩ : S75), (⟨8320, 8329, 4⟩ : S75), (⟨8330, 8331, 5⟩ : S75), (⟨8332, 8334, 14⟩ : S75), (⟨8352, 8399, 6⟩ : S75), (⟨8400, 8432, 9⟩ : S75), (⟨8592, 8721, 14⟩ : S75), (⟨8722, 8722, 5⟩ : S75), (⟨8723, 8723, 6⟩ : S75), (⟨8724, 9013, 14⟩ : S75), (⟨9472, 9783, 14⟩ : S75), (⟨10214, 10223, 14⟩ : S75), (⟨12288, 12288, 13⟩ : S75), (⟨12289, 12292, 14⟩ : S75), (⟨12296, 12320, 14⟩ : S75), (⟨64285, 64285, 2⟩ : S75), (⟨64286, 64286, 9⟩ : S75), (⟨64287, 64296, 2⟩ : S75), (⟨64297, 64297, 5⟩ : S75), (⟨64298, 64335, 2⟩ : S75), (⟨64336, 64829, 3⟩ : S75), (⟨64830, 64831, 14⟩ : S75), (⟨65024, 65039, 9⟩ : S75), (⟨65056, 65071, 9⟩ : S75), (⟨65136, 65276, 3⟩ : S75), (⟨65279, 65279, 10⟩ : S75), (⟨65533, 65533, 14⟩ : S75), (⟨125184, 125251, 2⟩ : S75), (⟨125252, 125258, 9⟩ : S75), (⟨125259, 125279, 2⟩ : S75), (⟨126464, 126703, 3⟩ : S75), (⟨127744, 128591, 14⟩ : S75), (⟨917760, 917999, 9⟩ : S75)]
set_option maxRecDepth 100000 in
theorem rgl_len : RGL.length = 146 := rfl
def enc75 (x : S75) : List Value := [.int .i32 x.f0, .int .i32 x.f1, .int .u8 x.f2]
def RGC : List Value := RGL.flatMap enc75
theorem rg_reps (base : Nat) (ok : Nat → Prop) (w : World) : ∀ l : List S75, Reps (k75.M w base ok) 3 l (l.flatMap enc75)
  | [] => Reps.none _ _
  | x :: l => Reps.c3 (k75_mkM w base ok x) (rg_reps base ok w l)
def selvedgeref01_Ranges.f : Option ((List (S75))) := some RGL
set_option maxHeartbeats 8000000 in
set_option maxRecDepth 100000 in
theorem selvedgeref01_Ranges.calls  (r : List (S75)) (w : World) (h : selvedgeref01_Ranges.f  = some r) :
  Calls Tryd.prog 32 #[] w fun e w' => ∃ v0_ : Value, e = .returned (v0_) ∧ Kd.R k75 75 w' w.heap.size (fun _ => True) v0_ r ∧ Below w.heap.size w w' := by
 have hu75 := Tryd.underlying75
 have HB := Aside0.mk (Below.refl w.heap.size w)
 obtain rfl := Option.some.inj h
 clear h
 go_enter Tryd.func32, Tryd.ntmps32
 try simp only [List.append]
 go_wp2_with (first | ((with_reducible refine gate_dst (N := 147) rfl ?_); refine Kd.R_lit k75 _ 75 ?hg (N := 147) ?hd (xs := RGL) (inner := RGC) (ok := fun _ => True) (okp := fun _ => True) ?hr ?hp (fun _ hk => hk) trivial (Below.refl _ _) (Nat.le_refl _) (by rw [rgl_len]; decide) ?_; (case hd => rfl); (case hg => rfl); (case hr => first | kernel_rfl | (go_simp; rfl)); (case hp => exact rg_reps _ _ _ RGL); intro v128 w1 ho2 hb hg_ hnew_; clear hg_ hnew_; have n0_ := Aside0.mk (Kd.R_lower ho2 (below_size (mvB HB))); have n1_ := Aside0.mk (below_step (mvB HB) hb); clear HB; have HO129 := n0_; have HB := n1_; clear n0_ n1_; clear hb ho2))
 go_ret
 exact ⟨_, by first | rfl | (simp [errW_none, errW_some] <;> rfl) | (simp [*, errW_none, errW_some] <;> rfl), mvR HO129, mvB HB⟩
end Go.Proofs.YtiogpnefnapfeaaDoor.X
