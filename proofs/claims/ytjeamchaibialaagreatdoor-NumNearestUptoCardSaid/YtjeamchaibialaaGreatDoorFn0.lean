/- What the texts below lean on. -/
import Derived.Test.YtjeamchaibialaaGreatDoorProg
import Derived.Below
import Derived.Deep.Draws
import Derived.Deep.AppendLies
import Derived.Maps.AppendAt
import Derived.OwnWalk
import Derived.Laws.BytesArg
import Derived.Laws.MakeOwn
import Derived.Laws.OwnMore
import Derived.Deep.OwnRows
import Derived.Tactics
import Derived.Lib.ConvBytes
import Derived.Laws.Slices
import Derived.WalkKit
import Derived.KernelRfl
import Derived.RowKit3
import Derived.Deep.LoopGhost
import Derived.Deep.QuietTactic
import Derived.BigQuiet
import Derived.WideLaws
import Derived.Deep.DeepCutAuto
import Derived.Deep.CutBlock
import Derived.Deep.RegionHeld3
import Derived.Laws.Rows
import Derived.Lib.AppendStr
import Derived.ArgAppend
import Derived.Laws.IdiomCopy
import Derived.OrdersHeld
import Derived.Laws.BitsLemmas
import Derived.RowKit
import Derived.Test.YtjeamchaibialaaGreatDoorWWords
import Derived.Test.YtjeamchaibialaaGreatDoorWLast
import Derived.Test.YtjeamchaibialaaGreatDoorWRepsOne
import Derived.Test.YtjeamchaibialaaGreatDoorWQPut
import Derived.Test.YtjeamchaibialaaGreatDoorWApart
import Derived.Test.YtjeamchaibialaaGreatDoorWArr
import Derived.Test.YtjeamchaibialaaGreatDoorWZeros
import Derived.Test.YtjeamchaibialaaGreatDoorWFoot
import Derived.Test.YtjeamchaibialaaGreatDoorWKept
import Derived.Test.YtjeamchaibialaaGreatDoorWShare
import Derived.Test.YtjeamchaibialaaGreatDoorWN
import Derived.Test.YtjeamchaibialaaGreatDoorWNEv
import Derived.Test.YtjeamchaibialaaGreatDoorWMore
namespace Go.Proofs.YtjeamchaibialaaGreatDoor.Fns
open Go.RowKit Go.Proofs.YtjeamchaibialaaGreatDoorW.PrintWords Go.Proofs.YtjeamchaibialaaGreatDoorW.PrintLast Go.Proofs.YtjeamchaibialaaGreatDoorW.PrintMore
attribute [local go_sem] max2_int min2_int max_two min_two max_three min_three max_four min_four
set_option linter.unusedVariables false
set_option linter.unusedSimpArgs false

theorem info106 : (Tryz.prog.info? 106).map (fun i => (i.zero, i.size, i.bytes)) = some (some (.int .u32 0), 1, 4) := by kernel_rfl
theorem info3 : (Tryz.prog.info? 3).map (fun i => (i.zero, i.size, i.bytes)) = some (some (.int .i64 0), 1, 8) := by kernel_rfl
theorem info5 : (Tryz.prog.info? 5).map (fun i => (i.zero, i.size, i.bytes)) = some (some (.int .u8 0), 1, 1) := by kernel_rfl
def errW : Option Int → Value
  | none => .nilIface
  | some c => .iface 0 (.int .i64 c)
theorem errW_none : errW none = .nilIface := rfl
theorem errW_some (c : Int) : errW (some c) = .iface 0 (.int .i64 c) := rfl

end Go.Proofs.YtjeamchaibialaaGreatDoor.Fns
