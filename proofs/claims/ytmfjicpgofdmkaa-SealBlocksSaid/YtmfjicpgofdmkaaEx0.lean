-- Printed by a program of this session (wip/pp), out of Lean's print of the loaded functions. Lean checks it.
import Derived.Test.YtmfjicpgofdmkaaProg
import Derived.Below
import Derived.Deep.Draws
import Derived.Deep.AppendLies
import Derived.Maps.AppendAt
import Derived.OwnWalk
import Derived.Laws.BytesArg
import Derived.Laws.MakeOwn
import Derived.Laws.OwnMore
import Derived.Deep.OwnRows
import Derived.Tactics
import Derived.Lib.ConvBytes
import Derived.Laws.Slices
import Derived.WalkKit
import Derived.KernelRfl
import Derived.RowKit3
import Derived.Deep.LoopGhost
import Derived.Deep.QuietTactic
import Derived.BigQuiet
import Derived.WideLaws
import Derived.Deep.DeepCutAuto
import Derived.Deep.CutBlock
import Derived.Deep.RegionHeld3
import Derived.Laws.Rows
import Derived.Lib.AppendStr
import Derived.ArgAppend
import Derived.Laws.IdiomCopy
import Derived.OrdersHeld
import Derived.Laws.BitsLemmas
import Derived.RowKit
import Derived.Test.YtmfjicpgofdmkaaWWords
import Derived.Test.YtmfjicpgofdmkaaWLast
import Derived.Test.YtmfjicpgofdmkaaWTab
import Derived.Test.YtmfjicpgofdmkaaWFour
import Derived.Test.YtmfjicpgofdmkaaWQPut
import Derived.Test.YtmfjicpgofdmkaaWApart
import Derived.Test.YtmfjicpgofdmkaaWArr
import Derived.Test.YtmfjicpgofdmkaaWZeros
import Derived.Test.YtmfjicpgofdmkaaWFoot
import Derived.Test.YtmfjicpgofdmkaaWKept
import Derived.Test.YtmfjicpgofdmkaaWShare
import Derived.Test.YtmfjicpgofdmkaaWN
import Derived.Test.YtmfjicpgofdmkaaWFootNe
import Derived.Test.YtmfjicpgofdmkaaWAt
import Derived.Test.YtmfjicpgofdmkaaWEqStruct
import Derived.Test.YtmfjicpgofdmkaaWRepsOne
import Derived.Test.YtmfjicpgofdmkaaWInv
import Derived.Test.YtmfjicpgofdmkaaWInvWords
import Derived.Test.YtmfjicpgofdmkaaWGuard
import Derived.Test.YtmfjicpgofdmkaaWNEv
import Derived.Test.YtmfjicpgofdmkaaWMore
namespace Go.Proofs.Ytmfjicpgofdmkaa.E
open Go.RowKit Go.Proofs.YtmfjicpgofdmkaaW.PrintWords Go.Proofs.YtmfjicpgofdmkaaW.PrintLast Go.Proofs.YtmfjicpgofdmkaaW.PrintMore
attribute [local go_sem] max2_int min2_int max_two min_two max_three min_three max_four min_four   -- for this text's walks alone
set_option linter.unusedVariables false
set_option linter.unusedSimpArgs false



def errW : Option Int → Value
  | none => .nilIface
  | some c => .iface 0 (.int .i64 c)
theorem errW_none : errW none = .nilIface := rfl
theorem errW_some (c : Int) : errW (some c) = .iface 0 (.int .i64 c) := rfl

theorem info5 : (Try.prog.info? 5).map (fun i => (i.zero, i.size, i.bytes)) = some (some (.int .u8 0), 1, 1) := by kernel_rfl
-- the values' own types

end Go.Proofs.Ytmfjicpgofdmkaa.E
