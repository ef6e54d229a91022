/- What each Go function below comes to in the model is what the plain Lean function of its name says; no condition beyond those in each statement.
   Text by wip/myprint.py, which drives the kit's printer over the translation; Lean checks it. -/
import Derived.Test.YtfnffnhlfjcplaaProg
import Derived.Below
import Derived.Deep.Draws
import Derived.Deep.AppendLies
import Derived.Maps.AppendAt
import Derived.OwnWalk
import Derived.Laws.BytesArg
import Derived.Laws.MakeOwn
import Derived.Laws.OwnMore
import Derived.Deep.OwnRows
import Derived.Tactics
import Derived.Lib.ConvBytes
import Derived.Laws.Slices
import Derived.WalkKit
import Derived.KernelRfl
import Derived.RowKit3
import Derived.Deep.LoopGhost
import Derived.Deep.QuietTactic
import Derived.BigQuiet
import Derived.WideLaws
import Derived.Deep.DeepCutAuto
import Derived.Deep.CutBlock
import Derived.Deep.RegionHeld3
import Derived.Laws.Rows
import Derived.Lib.AppendStr
import Derived.ArgAppend
import Derived.Laws.IdiomCopy
import Derived.OrdersHeld
import Derived.Laws.BitsLemmas
import Derived.RowKit
import Derived.Test.YtfnffnhlfjcplaaWWords
import Derived.Test.YtfnffnhlfjcplaaWLast
import Derived.Test.YtfnffnhlfjcplaaWTab
import Derived.Test.YtfnffnhlfjcplaaWFour
import Derived.Test.YtfnffnhlfjcplaaWQPut
import Derived.Test.YtfnffnhlfjcplaaWApart
import Derived.Test.YtfnffnhlfjcplaaWArr
import Derived.Test.YtfnffnhlfjcplaaWZeros
import Derived.Test.YtfnffnhlfjcplaaWFoot
import Derived.Test.YtfnffnhlfjcplaaWKept
import Derived.Test.YtfnffnhlfjcplaaWShare
import Derived.Test.YtfnffnhlfjcplaaWN
import Derived.Test.YtfnffnhlfjcplaaWFootNe
import Derived.Test.YtfnffnhlfjcplaaWAt
import Derived.Test.YtfnffnhlfjcplaaWEqStruct
import Derived.Test.YtfnffnhlfjcplaaWRepsOne
import Derived.Test.YtfnffnhlfjcplaaWInv
import Derived.Test.YtfnffnhlfjcplaaWInvWords
import Derived.Test.YtfnffnhlfjcplaaWGuard
import Derived.Test.YtfnffnhlfjcplaaWNEv
import Derived.Test.YtfnffnhlfjcplaaWMore
namespace Go.Proofs.Ytfnffnhlfjcplaa.Q
open Go.RowKit Go.Proofs.YtfnffnhlfjcplaaW.PrintWords Go.Proofs.YtfnffnhlfjcplaaW.PrintLast Go.Proofs.YtfnffnhlfjcplaaW.PrintMore
attribute [local go_sem] max2_int min2_int max_two min_two max_three min_three max_four min_four   -- for this text's walks alone
-- no further namespaces
set_option linter.unusedVariables false
set_option linter.unusedSimpArgs false



def errW : Option Int → Value
  | none => .nilIface
  | some c => .iface 0 (.int .i64 c)
theorem errW_none : errW none = .nilIface := rfl
theorem errW_some (c : Int) : errW (some c) = .iface 0 (.int .i64 c) := rfl

theorem info3 : (Try.prog.info? 3).map (fun i => (i.zero, i.size, i.bytes)) = some (some (.int .i64 0), 1, 8) := by kernel_rfl
theorem info5 : (Try.prog.info? 5).map (fun i => (i.zero, i.size, i.bytes)) = some (some (.int .u8 0), 1, 1) := by kernel_rfl
-- the values' own types

end Go.Proofs.Ytfnffnhlfjcplaa.Q
