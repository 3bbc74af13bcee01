-- PRINTED BY print.sh 35421559b90ae4d0a3588c463048766b98c2df88dd9212a6774a882060cdf62d: not written by this session
import Derived.Test.YtgiofinekmaceaaDoorProg
import Derived.Below
import Derived.Deep.Draws
import Derived.Deep.AppendLies
import Derived.Maps.AppendAt
import Derived.OwnWalk
import Derived.Laws.BytesArg
import Derived.Laws.MakeOwn
import Derived.Laws.OwnMore
import Derived.Deep.OwnRows
import Derived.Tactics
import Derived.Lib.ConvBytes
import Derived.Laws.Slices
import Derived.WalkKit
import Derived.KernelRfl
import Derived.RowKit3
import Derived.Deep.LoopGhost
import Derived.Deep.QuietTactic
import Derived.BigQuiet
import Derived.WideLaws
import Derived.Deep.DeepCutAuto
import Derived.Deep.CutBlock
import Derived.Deep.RegionHeld3
import Derived.Laws.Rows
import Derived.Lib.AppendStr
import Derived.ArgAppend
import Derived.Laws.IdiomCopy
import Derived.OrdersHeld
import Derived.Laws.BitsLemmas
import Derived.RowKit
import Derived.Test.YtgiofinekmaceaaDoorWWords
import Derived.Test.YtgiofinekmaceaaDoorWLast
import Derived.Test.YtgiofinekmaceaaDoorWTab
import Derived.Test.YtgiofinekmaceaaDoorWFour
import Derived.Test.YtgiofinekmaceaaDoorWQPut
import Derived.Test.YtgiofinekmaceaaDoorWApart
import Derived.Test.YtgiofinekmaceaaDoorWArr
import Derived.Test.YtgiofinekmaceaaDoorWZeros
import Derived.Test.YtgiofinekmaceaaDoorWFoot
import Derived.Test.YtgiofinekmaceaaDoorWKept
import Derived.Test.YtgiofinekmaceaaDoorWShare
import Derived.Test.YtgiofinekmaceaaDoorWN
import Derived.Test.YtgiofinekmaceaaDoorWFootNe
import Derived.Test.YtgiofinekmaceaaDoorWAt
import Derived.Test.YtgiofinekmaceaaDoorWEqStruct
import Derived.Test.YtgiofinekmaceaaDoorWRepsOne
import Derived.Test.YtgiofinekmaceaaDoorWInv
import Derived.Test.YtgiofinekmaceaaDoorWInvWords
import Derived.Test.YtgiofinekmaceaaDoorWGuard
import Derived.Test.YtgiofinekmaceaaDoorWNEv
import Derived.Test.YtgiofinekmaceaaDoorWMore
namespace Go.Proofs.YtgiofinekmaceaaDoor.PFiltersSpec
open Go.RowKit Go.Proofs.YtgiofinekmaceaaDoorW.PrintWords Go.Proofs.YtgiofinekmaceaaDoorW.PrintLast Go.Proofs.YtgiofinekmaceaaDoorW.PrintMore
attribute [local go_sem] max2_int min2_int max_two min_two max_three min_three max_four min_four   -- for this text's walks alone
set_option linter.unusedVariables false
set_option linter.unusedSimpArgs false



def errW : Option Int → Value
  | none => .nilIface
  | some c => .iface 0 (.int .i64 c)
theorem errW_none : errW none = .nilIface := rfl
theorem errW_some (c : Int) : errW (some c) = .iface 0 (.int .i64 c) := rfl

theorem info5 : (Tryd.prog.info? 5).map (fun i => (i.zero, i.size, i.bytes)) = some (some (.int .u8 0), 1, 1) := by kernel_rfl
-- the values' own types

end Go.Proofs.YtgiofinekmaceaaDoor.PFiltersSpec
