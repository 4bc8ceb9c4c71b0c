/- What the rows' listed package variables give the walks. -/
import Derived.Test.YtdojfnjgipeogaaGreatDoorRows
import Derived.Test.YtdojfnjgipeogaaGreatDoorNatL
import Derived.ProofKit
import Derived.LaidMore
import Derived.OpenShut
import Derived.Stop.Joined
import Derived.Lib.LaidTab
namespace Go.Proofs.YtdojfnjgipeogaaGreatDoor
open Go.ChangeShapes Go.WideShapes Go.ChangeAt Go.WideMaps Go.WideElems Go.RowKit

def laidL : List (String × DataW Unit) := [("math/bits.deBruijn32tab", Rows.laid_math_bits_deBruijn32tab), ("math/bits.deBruijn64tab", Rows.laid_math_bits_deBruijn64tab), ("internal/strconv.uint64pow10", Rows.laid_internal_strconv_uint64pow10), ("unicode/utf8.acceptRanges", Rows.laid_unicode_utf8_acceptRanges), ("strconv.ErrRange", Rows.laid_strconv_ErrRange), ("strconv.ErrSyntax", Rows.laid_strconv_ErrSyntax), ("unicode/utf8.first", Rows.laid_unicode_utf8_first)]
theorem gPow : Tryz.prog.globalNamed "internal/strconv.uint64pow10" = some 2 := by kernel_rfl
theorem tPow : (Tryz.prog.globals[2]?).map (·.type) = some 124 := by kernel_rfl
theorem gRng : Tryz.prog.globalNamed "strconv.ErrRange" = some 1 := by kernel_rfl
theorem tRng : (Tryz.prog.globals[1]?).map (·.type) = some 48 := by kernel_rfl
theorem gok_of_laid {W : World} (h : laidMetH Tryz.prog laidL W) : GOK W := by
  rw [MakeChecks.laidMetH_plain _ _ _ (by kernel_rfl)] at h
  obtain ⟨ps, ⟨g0, t0, cs0, f0, p0, q0, hg0, ht0, hv0, hd0, ⟨g1, t1, cs1, f1, p1, q1, hg1, ht1, hv1, hd1, ⟨g2, t2, cs2, f2, p2, q2, hg2, ht2, hv2, hd2, ⟨g3, t3, cs3, f3, p3, q3, hg3, ht3, hv3, hd3, ⟨g4, t4, cs4, f4, p4, q4, hg4, ht4, hv4, hd4, _, _⟩, _⟩, _⟩, _⟩, _⟩, _, _⟩ := h
  obtain rfl := Option.some.inj (gPow.symm.trans hg2)
  obtain rfl := Option.some.inj (tPow.symm.trans ht2)
  refine ⟨?_, ?_⟩
  · unfold Lib.TabIs
    rw [hv2]
    congr 1
    apply Array.toList_inj.1
    exact Lib.cells_of_tab (zs := Lib.pow10Tab) Tryz.underlying124 Tryz.underlying54 (by kernel_rfl) (by kernel_rfl) hd2
  · obtain rfl := Option.some.inj (gRng.symm.trans hg4)
    obtain rfl := Option.some.inj (tRng.symm.trans ht4)
    obtain ⟨_, u, v, hcs, _⟩ := iface_of_trod Tryz.underlying48 hd4
    refine ⟨u, v, ?_⟩
    rw [hv4]
    congr 1
    exact Array.toList_inj.1 hcs
end Go.Proofs.YtdojfnjgipeogaaGreatDoor
