-- Printed by the session's hookprint.py (the kit's print, some functions given by hand).
import Derived.Test.YtnkpegldckdahaaDoorProg
import Derived.Below
import Derived.Deep.Draws
import Derived.Deep.AppendLies
import Derived.Maps.AppendAt
import Derived.OwnWalk
import Derived.Laws.BytesArg
import Derived.Laws.MakeOwn
import Derived.Laws.OwnMore
import Derived.Deep.OwnRows
import Derived.Tactics
import Derived.Lib.ConvBytes
import Derived.Laws.Slices
import Derived.WalkKit
import Derived.KernelRfl
import Derived.RowKit3
import Derived.Deep.LoopGhost
import Derived.Deep.QuietTactic
import Derived.BigQuiet
import Derived.WideLaws
import Derived.Deep.DeepCutAuto
import Derived.Deep.CutBlock
import Derived.Deep.RegionHeld3
import Derived.Laws.Rows
import Derived.Lib.AppendStr
import Derived.ArgAppend
import Derived.Laws.IdiomCopy
import Derived.OrdersHeld
import Derived.Laws.BitsLemmas
import Derived.RowKit
import Derived.Test.YtnkpegldckdahaaDoorCkHand
import Derived.Test.YtnkpegldckdahaaDoorCkBehind
import Derived.Test.YtnkpegldckdahaaDoorCkPartsLaw
import Derived.Test.YtnkpegldckdahaaDoorCkPut
import Derived.Test.YtnkpegldckdahaaDoorWWords
import Derived.Test.YtnkpegldckdahaaDoorWLast
import Derived.Test.YtnkpegldckdahaaDoorWTab
import Derived.Test.YtnkpegldckdahaaDoorWFour
import Derived.Test.YtnkpegldckdahaaDoorWQPut
import Derived.Test.YtnkpegldckdahaaDoorWApart
import Derived.Test.YtnkpegldckdahaaDoorWArr
import Derived.Test.YtnkpegldckdahaaDoorWZeros
import Derived.Test.YtnkpegldckdahaaDoorWFoot
import Derived.Test.YtnkpegldckdahaaDoorWKept
import Derived.Test.YtnkpegldckdahaaDoorWShare
import Derived.Test.YtnkpegldckdahaaDoorWN
import Derived.Test.YtnkpegldckdahaaDoorWFootNe
import Derived.Test.YtnkpegldckdahaaDoorWAt
import Derived.Test.YtnkpegldckdahaaDoorWEqStruct
import Derived.Test.YtnkpegldckdahaaDoorWRepsOne
import Derived.Test.YtnkpegldckdahaaDoorWInv
import Derived.Test.YtnkpegldckdahaaDoorWInvWords
import Derived.Test.YtnkpegldckdahaaDoorWGuard
import Derived.Test.YtnkpegldckdahaaDoorWNEv
import Derived.Test.YtnkpegldckdahaaDoorWMore
namespace Go.Proofs.YtnkpegldckdahaaDoor.M
open Go.RowKit Go.Proofs.YtnkpegldckdahaaDoorW.PrintWords Go.Proofs.YtnkpegldckdahaaDoorW.PrintLast Go.Proofs.YtnkpegldckdahaaDoorW.PrintMore
attribute [local go_sem] max2_int min2_int max_two min_two max_three min_three max_four min_four   -- for this text's walks alone
set_option linter.unusedVariables false
set_option linter.unusedSimpArgs false



def errW : Option Int → Value
  | none => .nilIface
  | some c => .iface 0 (.int .i64 c)
theorem errW_none : errW none = .nilIface := rfl
theorem errW_some (c : Int) : errW (some c) = .iface 0 (.int .i64 c) := rfl

theorem info5 : (Tryd.prog.info? 5).map (fun i => (i.zero, i.size, i.bytes)) = some (some (.int .u8 0), 1, 1) := by kernel_rfl
-- the values' own types

end Go.Proofs.YtnkpegldckdahaaDoor.M
