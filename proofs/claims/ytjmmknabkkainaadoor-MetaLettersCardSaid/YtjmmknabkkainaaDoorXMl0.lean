-- MADE BY wip/xprint.py (this session's own program, over the kit's print): not typed by hand; Lean checks it.
import Derived.Test.YtjmmknabkkainaaDoorProg
import Derived.Below
import Derived.Deep.Draws
import Derived.Deep.AppendLies
import Derived.Maps.AppendAt
import Derived.OwnWalk
import Derived.Laws.BytesArg
import Derived.Laws.MakeOwn
import Derived.Laws.OwnMore
import Derived.Deep.OwnRows
import Derived.Tactics
import Derived.Lib.ConvBytes
import Derived.Laws.Slices
import Derived.WalkKit
import Derived.KernelRfl
import Derived.RowKit3
import Derived.Deep.LoopGhost
import Derived.Deep.QuietTactic
import Derived.BigQuiet
import Derived.WideLaws
import Derived.Deep.DeepCutAuto
import Derived.Deep.CutBlock
import Derived.Deep.RegionHeld3
import Derived.Laws.Rows
import Derived.Lib.AppendStr
import Derived.ArgAppend
import Derived.Laws.IdiomCopy
import Derived.OrdersHeld
import Derived.Laws.BitsLemmas
import Derived.RowKit
import Derived.Test.YtjmmknabkkainaaDoorVars
import Derived.Test.YtjmmknabkkainaaDoorWWords
import Derived.Test.YtjmmknabkkainaaDoorWLast
import Derived.Test.YtjmmknabkkainaaDoorWTab
import Derived.Test.YtjmmknabkkainaaDoorWFour
import Derived.Test.YtjmmknabkkainaaDoorWQPut
import Derived.Test.YtjmmknabkkainaaDoorWApart
import Derived.Test.YtjmmknabkkainaaDoorWArr
import Derived.Test.YtjmmknabkkainaaDoorWZeros
import Derived.Test.YtjmmknabkkainaaDoorWFoot
import Derived.Test.YtjmmknabkkainaaDoorWKept
import Derived.Test.YtjmmknabkkainaaDoorWShare
import Derived.Test.YtjmmknabkkainaaDoorWN
import Derived.Test.YtjmmknabkkainaaDoorWFootNe
import Derived.Test.YtjmmknabkkainaaDoorWAt
import Derived.Test.YtjmmknabkkainaaDoorWEqStruct
import Derived.Test.YtjmmknabkkainaaDoorWRepsOne
import Derived.Test.YtjmmknabkkainaaDoorWInv
import Derived.Test.YtjmmknabkkainaaDoorWInvWords
import Derived.Test.YtjmmknabkkainaaDoorWGuard
import Derived.Test.YtjmmknabkkainaaDoorWNEv
import Derived.Test.YtjmmknabkkainaaDoorWMore
namespace Go.Proofs.YtjmmknabkkainaaDoor.XMl
open Go.RowKit Go.Proofs.YtjmmknabkkainaaDoorW.PrintWords Go.Proofs.YtjmmknabkkainaaDoorW.PrintLast Go.Proofs.YtjmmknabkkainaaDoorW.PrintMore
attribute [local go_sem] max2_int min2_int max_two min_two max_three min_three max_four min_four   -- for this text's walks alone
set_option linter.unusedVariables false
set_option linter.unusedSimpArgs false

noncomputable section


def errW : Option Int → Value
  | none => .nilIface
  | some c => .iface 0 (.int .i64 c)
theorem errW_none : errW none = .nilIface := rfl
theorem errW_some (c : Int) : errW (some c) = .iface 0 (.int .i64 c) := rfl

theorem info5 : (Tryd.prog.info? 5).map (fun i => (i.zero, i.size, i.bytes)) = some (some (.int .u8 0), 1, 1) := by kernel_rfl
-- the values' own types

end
end Go.Proofs.YtjmmknabkkainaaDoor.XMl
