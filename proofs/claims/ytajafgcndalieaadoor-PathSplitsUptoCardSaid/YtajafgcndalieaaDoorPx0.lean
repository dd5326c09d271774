-- Printed by wip/pr.py (our own turn of the kit's printer) out of the translation; Lean checks it.
import Derived.Test.YtajafgcndalieaaDoorProg
import Derived.Below
import Derived.Deep.Draws
import Derived.Deep.AppendLies
import Derived.Maps.AppendAt
import Derived.OwnWalk
import Derived.Laws.BytesArg
import Derived.Laws.MakeOwn
import Derived.Laws.OwnMore
import Derived.Deep.OwnRows
import Derived.Tactics
import Derived.Lib.ConvBytes
import Derived.Laws.Slices
import Derived.WalkKit
import Derived.KernelRfl
import Derived.RowKit3
import Derived.Deep.LoopGhost
import Derived.Deep.QuietTactic
import Derived.BigQuiet
import Derived.WideLaws
import Derived.Deep.DeepCutAuto
import Derived.Deep.CutBlock
import Derived.Deep.RegionHeld3
import Derived.Laws.Rows
import Derived.Lib.AppendStr
import Derived.ArgAppend
import Derived.Laws.IdiomCopy
import Derived.OrdersHeld
import Derived.Laws.BitsLemmas
import Derived.RowKit
import Derived.Test.YtajafgcndalieaaDoorWWords
import Derived.Test.YtajafgcndalieaaDoorWLast
import Derived.Test.YtajafgcndalieaaDoorWTab
import Derived.Test.YtajafgcndalieaaDoorWFour
import Derived.Test.YtajafgcndalieaaDoorWQPut
import Derived.Test.YtajafgcndalieaaDoorWApart
import Derived.Test.YtajafgcndalieaaDoorWArr
import Derived.Test.YtajafgcndalieaaDoorWZeros
import Derived.Test.YtajafgcndalieaaDoorWFoot
import Derived.Test.YtajafgcndalieaaDoorWKept
import Derived.Test.YtajafgcndalieaaDoorWShare
import Derived.Test.YtajafgcndalieaaDoorWN
import Derived.Test.YtajafgcndalieaaDoorWFootNe
import Derived.Test.YtajafgcndalieaaDoorWAt
import Derived.Test.YtajafgcndalieaaDoorWEqStruct
import Derived.Test.YtajafgcndalieaaDoorWRepsOne
import Derived.Test.YtajafgcndalieaaDoorWInv
import Derived.Test.YtajafgcndalieaaDoorWInvWords
import Derived.Test.YtajafgcndalieaaDoorWGuard
import Derived.Test.YtajafgcndalieaaDoorWNEv
import Derived.Test.YtajafgcndalieaaDoorWMore
namespace Go.Proofs.YtajafgcndalieaaDoor.P
open Go.RowKit Go.Proofs.YtajafgcndalieaaDoorW.PrintWords Go.Proofs.YtajafgcndalieaaDoorW.PrintLast Go.Proofs.YtajafgcndalieaaDoorW.PrintMore
attribute [local go_sem] max2_int min2_int max_two min_two max_three min_three max_four min_four   -- for this text's walks alone
set_option linter.unusedVariables false
set_option linter.unusedSimpArgs false



def errW : Option Int → Value
  | none => .nilIface
  | some c => .iface 0 (.int .i64 c)
theorem errW_none : errW none = .nilIface := rfl
theorem errW_some (c : Int) : errW (some c) = .iface 0 (.int .i64 c) := rfl

theorem info9 : (Tryd.prog.info? 9).map (fun i => (i.zero, i.size, i.bytes)) = some (some (.string ⟨#[]⟩), 1, 16) := by kernel_rfl
-- the values' own types

end Go.Proofs.YtajafgcndalieaaDoor.P
