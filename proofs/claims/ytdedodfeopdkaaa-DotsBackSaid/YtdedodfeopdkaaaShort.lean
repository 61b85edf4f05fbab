/- Short names for the kit's laws, so that a long printed text fits a claim's file. -/
import Derived.Test.YtdedodfeopdkaaaProg
import Derived.Below
import Derived.Deep.Draws
import Derived.Deep.AppendLies
import Derived.Maps.AppendAt
import Derived.OwnWalk
import Derived.Laws.BytesArg
import Derived.Laws.MakeOwn
import Derived.Laws.OwnMore
import Derived.Deep.OwnRows
import Derived.Tactics
import Derived.Lib.ConvBytes
import Derived.Laws.Slices
import Derived.WalkKit
import Derived.KernelRfl
import Derived.RowKit3
import Derived.Deep.LoopGhost
import Derived.Deep.QuietTactic
import Derived.BigQuiet
import Derived.WideLaws
import Derived.Deep.DeepCutAuto
import Derived.Deep.CutBlock
import Derived.Deep.RegionHeld3
import Derived.Laws.Rows
import Derived.Lib.AppendStr
import Derived.ArgAppend
import Derived.Laws.IdiomCopy
import Derived.OrdersHeld
import Derived.Laws.BitsLemmas
import Derived.RowKit
import Derived.Test.YtdedodfeopdkaaaWWords
import Derived.Test.YtdedodfeopdkaaaWLast
import Derived.Test.YtdedodfeopdkaaaWTab
import Derived.Test.YtdedodfeopdkaaaWFour
import Derived.Test.YtdedodfeopdkaaaWQPut
import Derived.Test.YtdedodfeopdkaaaWApart
import Derived.Test.YtdedodfeopdkaaaWArr
import Derived.Test.YtdedodfeopdkaaaWZeros
import Derived.Test.YtdedodfeopdkaaaWFoot
import Derived.Test.YtdedodfeopdkaaaWKept
import Derived.Test.YtdedodfeopdkaaaWShare
import Derived.Test.YtdedodfeopdkaaaWN
import Derived.Test.YtdedodfeopdkaaaWFootNe
import Derived.Test.YtdedodfeopdkaaaWAt
import Derived.Test.YtdedodfeopdkaaaWEqStruct
import Derived.Test.YtdedodfeopdkaaaWRepsOne
import Derived.Test.YtdedodfeopdkaaaWInv
import Derived.Test.YtdedodfeopdkaaaWInvWords
import Derived.Test.YtdedodfeopdkaaaWGuard
import Derived.Test.YtdedodfeopdkaaaWNEv
import Derived.Test.YtdedodfeopdkaaaWMore
namespace Go.Proofs.Ytdedodfeopdkaaa
open Go.RowKit Go.Proofs.YtdedodfeopdkaaaW.PrintWords Go.Proofs.YtdedodfeopdkaaaW.PrintLast Go.Proofs.YtdedodfeopdkaaaW.PrintMore
abbrev bl_ := @World.block_lt_of_cell?
abbrev ll_ := @Nat.lt_of_lt_of_le
abbrev ab_ := @add_block
abbrev am_ := @Aside0.mk
abbrev nl_ := @Nat.ne_of_lt
abbrev s1_ := @List.setIfInBounds_toArray
abbrev s2_ := @List.set_cons_zero
abbrev s3_ := @List.set_cons_succ
abbrev bn_ := @pw_below_drewN
abbrev ba_ := @below_alloc
abbrev bd_ := @below_drew1
abbrev ra_ := @Kd.R_alloc
abbrev rn_ := @Kd.R_drewN
abbrev re_ := @Kd.R_drew
abbrev kn_ := @blk_drewN
abbrev ka_ := @blk_alloc
abbrev kd_ := @blk_drew
abbrev bs_ := @below_set
abbrev od_ := @of_decide_eq_true
abbrev m1_ := @List.map_toArray
abbrev m2_ := @List.map_cons
abbrev m3_ := @List.map_nil
abbrev m4_ := @List.length_drop
abbrev m5_ := @List.length_take
abbrev rb_ := @Kd.R_below
abbrev cf_ := @cell_far
abbrev bz_ := @below_size
abbrev bt_ := @below_step
abbrev bb_ := @blk_below
abbrev cb_ := @Kd.C_below
abbrev ca_ := @Kd.C_alloc
abbrev cn_ := @Kd.C_drewN
abbrev cd_ := @Kd.C_drew
theorem nb_ {w : World} {p : Addr} {v : Value} {g : Nat} (h : w.cell? p = some v) (hg : w.heap.size ≤ g) : p.block ≠ g := Nat.ne_of_lt (Nat.lt_of_lt_of_le (World.block_lt_of_cell? _ _ h) hg)
end Go.Proofs.Ytdedodfeopdkaaa
