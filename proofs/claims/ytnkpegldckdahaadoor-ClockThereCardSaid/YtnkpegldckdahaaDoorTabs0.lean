/- The tables that the seat's rows list: what they give to a walk, that they are kept, and a world in which they lie. -/
import Derived.Test.YtnkpegldckdahaaDoorRows
import Derived.Lib.LaidU8
import Derived.PinnedBridge
import Derived.MakeChecks
import Derived.Deep.DeepHandedRow
import Derived.Lib.LaidTab
import Derived.Lib.ItoaMem
import Derived.WalkSmall
import Derived.WalkKit
import Derived.KernelRfl
namespace Go.Proofs.YtnkpegldckdahaaDoor
open Go Go.Lib Go.RowKit
def theLaid : List (String × DataW Unit) := [("math/bits.deBruijn32tab", Rows.laid_math_bits_deBruijn32tab), ("math/bits.deBruijn64tab", Rows.laid_math_bits_deBruijn64tab), ("internal/strconv.uint64pow10", Rows.laid_internal_strconv_uint64pow10), ("unicode/utf8.acceptRanges", Rows.laid_unicode_utf8_acceptRanges), ("unicode/utf8.first", Rows.laid_unicode_utf8_first)]
structure Tabs (w : World) : Prop where
  u8 : Lib.Utf8Tabs 2 3 w
  p10 : Lib.TabIs Tryd.prog w "internal/strconv.uint64pow10" .u64 Lib.pow10Tab
theorem gPow : Tryd.prog.globalNamed "internal/strconv.uint64pow10" = some 1 := by kernel_rfl
theorem Tabs.below {w W : World} (h : Tabs w) (hb : Below w.heap.size w W) : Tabs W := by
  refine ⟨Utf8Tabs_below h.u8 hb, ?_⟩
  have hp := h.p10
  unfold Lib.TabIs at hp ⊢
  refine var?_below hb gPow ?_ hp
  unfold World.var? at hp
  rw [gPow] at hp
  simp only [Option.bind_some] at hp
  rcases Nat.lt_or_ge 1 w.heap.size with hlt | hge
  · exact hlt
  · rw [Array.getElem?_eq_none hge] at hp
    cases hp
end Go.Proofs.YtnkpegldckdahaaDoor
