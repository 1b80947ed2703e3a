-- Written by this session's program (wip/tools/gprint.py over the kit's print) out of the translation; Lean checks it.
import Derived.Test.YtigckonomoodaaaProg
import Derived.Below
import Derived.Deep.Draws
import Derived.Deep.AppendLies
import Derived.Maps.AppendAt
import Derived.OwnWalk
import Derived.Laws.BytesArg
import Derived.Laws.MakeOwn
import Derived.Laws.OwnMore
import Derived.Deep.OwnRows
import Derived.Tactics
import Derived.Lib.ConvBytes
import Derived.Laws.Slices
import Derived.WalkKit
import Derived.KernelRfl
import Derived.RowKit3
import Derived.Deep.LoopGhost
import Derived.Deep.QuietTactic
import Derived.BigQuiet
import Derived.WideLaws
import Derived.Deep.DeepCutAuto
import Derived.Deep.CutBlock
import Derived.Deep.RegionHeld3
import Derived.Laws.Rows
import Derived.Lib.AppendStr
import Derived.ArgAppend
import Derived.Laws.IdiomCopy
import Derived.OrdersHeld
import Derived.Laws.BitsLemmas
import Derived.RowKit
import Derived.Test.YtigckonomoodaaaWWords
import Derived.Test.YtigckonomoodaaaWLast
import Derived.Test.YtigckonomoodaaaWTab
import Derived.Test.YtigckonomoodaaaWFour
import Derived.Test.YtigckonomoodaaaWQPut
import Derived.Test.YtigckonomoodaaaWApart
import Derived.Test.YtigckonomoodaaaWArr
import Derived.Test.YtigckonomoodaaaWZeros
import Derived.Test.YtigckonomoodaaaWFoot
import Derived.Test.YtigckonomoodaaaWKept
import Derived.Test.YtigckonomoodaaaWShare
import Derived.Test.YtigckonomoodaaaWN
import Derived.Test.YtigckonomoodaaaWFootNe
import Derived.Test.YtigckonomoodaaaWAt
import Derived.Test.YtigckonomoodaaaWEqStruct
import Derived.Test.YtigckonomoodaaaWRepsOne
import Derived.Test.YtigckonomoodaaaWInv
import Derived.Test.YtigckonomoodaaaWInvWords
import Derived.Test.YtigckonomoodaaaWGuard
import Derived.Test.YtigckonomoodaaaWNEv
import Derived.Test.YtigckonomoodaaaWMore
namespace Go.Proofs.Ytigckonomoodaaa.N
open Go.RowKit Go.Proofs.YtigckonomoodaaaW.PrintWords Go.Proofs.YtigckonomoodaaaW.PrintLast Go.Proofs.YtigckonomoodaaaW.PrintMore
attribute [local go_sem] max2_int min2_int max_two min_two max_three min_three max_four min_four   -- for this text's walks alone
set_option linter.unusedVariables false
set_option linter.unusedSimpArgs false
set_option maxRecDepth 100000



def errW : Option Int → Value
  | none => .nilIface
  | some c => .iface 0 (.int .i64 c)
theorem errW_none : errW none = .nilIface := rfl
theorem errW_some (c : Int) : errW (some c) = .iface 0 (.int .i64 c) := rfl

theorem info3 : (Try.prog.info? 3).map (fun i => (i.zero, i.size, i.bytes)) = some (some (.int .i64 0), 1, 8) := by kernel_rfl
-- the values' own types

end Go.Proofs.Ytigckonomoodaaa.N
