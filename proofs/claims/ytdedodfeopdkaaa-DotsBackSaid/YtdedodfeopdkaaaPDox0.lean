-- Written for this claim by a program: the kit's print.py from a scratch copy, turned by wip/tools/ghostprint.py
import Derived.Test.YtdedodfeopdkaaaProg
import Derived.Below
import Derived.Deep.Draws
import Derived.Deep.AppendLies
import Derived.Maps.AppendAt
import Derived.OwnWalk
import Derived.Laws.BytesArg
import Derived.Laws.MakeOwn
import Derived.Laws.OwnMore
import Derived.Deep.OwnRows
import Derived.Tactics
import Derived.Lib.ConvBytes
import Derived.Laws.Slices
import Derived.WalkKit
import Derived.KernelRfl
import Derived.RowKit3
import Derived.Deep.LoopGhost
import Derived.Deep.QuietTactic
import Derived.BigQuiet
import Derived.WideLaws
import Derived.Deep.DeepCutAuto
import Derived.Deep.CutBlock
import Derived.Deep.RegionHeld3
import Derived.Laws.Rows
import Derived.Lib.AppendStr
import Derived.ArgAppend
import Derived.Laws.IdiomCopy
import Derived.OrdersHeld
import Derived.Laws.BitsLemmas
import Derived.RowKit
import Derived.Test.YtdedodfeopdkaaaGiven
import Derived.Test.YtdedodfeopdkaaaShort
import Derived.Test.YtdedodfeopdkaaaWWords
import Derived.Test.YtdedodfeopdkaaaWLast
import Derived.Test.YtdedodfeopdkaaaWTab
import Derived.Test.YtdedodfeopdkaaaWFour
import Derived.Test.YtdedodfeopdkaaaWQPut
import Derived.Test.YtdedodfeopdkaaaWApart
import Derived.Test.YtdedodfeopdkaaaWArr
import Derived.Test.YtdedodfeopdkaaaWZeros
import Derived.Test.YtdedodfeopdkaaaWFoot
import Derived.Test.YtdedodfeopdkaaaWKept
import Derived.Test.YtdedodfeopdkaaaWShare
import Derived.Test.YtdedodfeopdkaaaWN
import Derived.Test.YtdedodfeopdkaaaWFootNe
import Derived.Test.YtdedodfeopdkaaaWAt
import Derived.Test.YtdedodfeopdkaaaWEqStruct
import Derived.Test.YtdedodfeopdkaaaWRepsOne
import Derived.Test.YtdedodfeopdkaaaWInv
import Derived.Test.YtdedodfeopdkaaaWInvWords
import Derived.Test.YtdedodfeopdkaaaWGuard
import Derived.Test.YtdedodfeopdkaaaWNEv
import Derived.Test.YtdedodfeopdkaaaWMore
namespace Go.Proofs.Ytdedodfeopdkaaa.PDo
open Go.RowKit Go.Proofs.YtdedodfeopdkaaaW.PrintWords Go.Proofs.YtdedodfeopdkaaaW.PrintLast Go.Proofs.YtdedodfeopdkaaaW.PrintMore
attribute [local go_sem] max2_int min2_int max_two min_two max_three min_three max_four min_four   -- for this text's walks alone
set_option linter.unusedVariables false
set_option linter.unusedSimpArgs false



def errW : Option Int → Value
 | none => .nilIface
 | some c => .iface 0 (.int .i64 c)
theorem errW_none : errW none = .nilIface := rfl
theorem errW_some (c : Int) : errW (some c) = .iface 0 (.int .i64 c) := rfl

theorem info5 : (Try.prog.info? 5).map (fun i => (i.zero, i.size, i.bytes)) = some (some (.int .u8 0), 1, 1) := by kernel_rfl
theorem info9 : (Try.prog.info? 9).map (fun i => (i.zero, i.size, i.bytes)) = some (some (.string ⟨#[]⟩), 1, 16) := by kernel_rfl
-- the values' own types

end Go.Proofs.Ytdedodfeopdkaaa.PDo
