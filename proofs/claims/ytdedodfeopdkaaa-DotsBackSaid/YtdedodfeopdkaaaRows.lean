/-
  No cell of these rows narrows 'for every input' (looked for: loops, veiled, ifaces, maps, wideKeys, modest, calm, conditions, laid).
  DERIVED. THE GIVEN ROWS OF THIS SEAT. 4 by the template 'for every input the law returns true; each argument reads behind the call as it read before'; 0 by the template 'total and deterministic' (their statements: YtdedodfeopdkaaaTotals.lean).
  GIVEN WITH THE SEED: the statements are not yours to turn. If you find one false, say at which input.
  Laid BY PROGRAM, IN A SANDBOX (cutbox-rows.mjs): the forced cells as the released guide's own fill.sh prints them over the translation 888d4f914e37f900… (all of the seat's roots in one cut). By AI agents, Wed Nov 11 2026. No macro, syntax, notation, axiom, sorry.
-/
import Derived.Test.YtdedodfeopdkaaaChecked
import GoSem.Claim
import GoSem.ClaimJoined
import GoSem.ClaimMapViews
import Derived.JoinedTies
import Derived.KernelRfl
namespace Go.Proofs.Ytdedodfeopdkaaa
/- THE CELL 'sum', in the pinned program and in every row, IS THE sha256 OF THE DUMP (.gsa) THAT YtdedodfeopdkaaaProg.lean LOADS. Nothing in Lean hashes anything: it is a label: what it is worth is what the hold of that sum in a sandbox is worth. -/
noncomputable def Try.pinned : Pinned := { name := "ytdedodfeopdkaaa", sum := "888d4f914e37f9006906ff27007afb09fc78c7c01fef890d4738ea7719724ce0", checked := Try.checked }
namespace Rows
def none {H : Type} : Left H := { results := [], args := [] }

/-- 'pouchlaw2.DotsStuffs': WHATEVER THE INPUT: true; the input reads as it did. -/
def dotsStuffsSpec : ChangeSpec := { name := "dotsStuffs", fn := fun _ => fun
  | [d] => { results := [.lit (.bool true)], args := [d] }
  | _ => none }
def dotsStuffsRow : OpenClaim := { program := "ytdedodfeopdkaaa", sum := "888d4f914e37f9006906ff27007afb09fc78c7c01fef890d4738ea7719724ce0", func := "pouch/pouchlaw2.DotsStuffs", spec := "dotsStuffs", inPlace := ["internal/bytealg.IndexByteString", "internal/bytealg.IndexString", "internal/abi.NoEscape"], unfollowed := true, recurses := true, named := ["internal/bytealg.MaxLen"], apart := false }
def DotsStuffsSaid : Prop := dotsStuffsRow.holds Try.pinned (OpenSpec.ofChange dotsStuffsSpec)

/-- ITS FALSE NEIGHBOUR: 'it returns false'. Refute it at one input. -/
def dotsStuffsWrong : ChangeSpec := { name := "dotsStuffs", fn := fun _ => fun
  | [d] => { results := [.lit (.bool false)], args := [d] }
  | _ => none }
def DotsStuffsWrongFalsely : Prop := dotsStuffsRow.holds Try.pinned (OpenSpec.ofChange dotsStuffsWrong)

/-- 'pouchlaw2.DotsEdges': WHATEVER THE INPUT: true; the input reads as it did. -/
def dotsEdgesSpec : ChangeSpec := { name := "dotsEdges", fn := fun _ => fun
  | [d] => { results := [.lit (.bool true)], args := [d] }
  | _ => none }
def dotsEdgesRow : OpenClaim := { program := "ytdedodfeopdkaaa", sum := "888d4f914e37f9006906ff27007afb09fc78c7c01fef890d4738ea7719724ce0", func := "pouch/pouchlaw2.DotsEdges", spec := "dotsEdges", inPlace := ["internal/bytealg.IndexByteString", "internal/bytealg.IndexString", "internal/abi.NoEscape"], unfollowed := true, recurses := true, named := ["internal/bytealg.MaxLen"], apart := false }
def DotsEdgesSaid : Prop := dotsEdgesRow.holds Try.pinned (OpenSpec.ofChange dotsEdgesSpec)

/-- ITS FALSE NEIGHBOUR: 'it returns false'. Refute it at one input. -/
def dotsEdgesWrong : ChangeSpec := { name := "dotsEdges", fn := fun _ => fun
  | [d] => { results := [.lit (.bool false)], args := [d] }
  | _ => none }
def DotsEdgesWrongFalsely : Prop := dotsEdgesRow.holds Try.pinned (OpenSpec.ofChange dotsEdgesWrong)

/-- 'pouchlaw2.DotsTakes': WHATEVER THE INPUT: true; the input reads as it did. -/
def dotsTakesSpec : ChangeSpec := { name := "dotsTakes", fn := fun _ => fun
  | [d] => { results := [.lit (.bool true)], args := [d] }
  | _ => none }
def dotsTakesRow : OpenClaim := { program := "ytdedodfeopdkaaa", sum := "888d4f914e37f9006906ff27007afb09fc78c7c01fef890d4738ea7719724ce0", func := "pouch/pouchlaw2.DotsTakes", spec := "dotsTakes", inPlace := ["internal/bytealg.IndexByteString", "internal/bytealg.IndexString", "internal/abi.NoEscape"], unfollowed := true, recurses := true, named := ["internal/bytealg.MaxLen"], apart := false }
def DotsTakesSaid : Prop := dotsTakesRow.holds Try.pinned (OpenSpec.ofChange dotsTakesSpec)

/-- ITS FALSE NEIGHBOUR: 'it returns false'. Refute it at one input. -/
def dotsTakesWrong : ChangeSpec := { name := "dotsTakes", fn := fun _ => fun
  | [d] => { results := [.lit (.bool false)], args := [d] }
  | _ => none }
def DotsTakesWrongFalsely : Prop := dotsTakesRow.holds Try.pinned (OpenSpec.ofChange dotsTakesWrong)

/-- 'pouchlaw2.DotsBack': WHATEVER THE INPUT: true; the input reads as it did. -/
def dotsBackSpec : ChangeSpec := { name := "dotsBack", fn := fun _ => fun
  | [d] => { results := [.lit (.bool true)], args := [d] }
  | _ => none }
def dotsBackRow : OpenClaim := { program := "ytdedodfeopdkaaa", sum := "888d4f914e37f9006906ff27007afb09fc78c7c01fef890d4738ea7719724ce0", func := "pouch/pouchlaw2.DotsBack", spec := "dotsBack", inPlace := ["internal/bytealg.IndexByteString", "internal/bytealg.IndexString", "internal/abi.NoEscape"], unfollowed := true, recurses := true, named := ["internal/bytealg.MaxLen"], apart := false }
def DotsBackSaid : Prop := dotsBackRow.holds Try.pinned (OpenSpec.ofChange dotsBackSpec)

/-- ITS FALSE NEIGHBOUR: 'it returns false'. Refute it at one input. -/
def dotsBackWrong : ChangeSpec := { name := "dotsBack", fn := fun _ => fun
  | [d] => { results := [.lit (.bool false)], args := [d] }
  | _ => none }
def DotsBackWrongFalsely : Prop := dotsBackRow.holds Try.pinned (OpenSpec.ofChange dotsBackWrong)

/- THE SECOND FORM. 'bulk': how many values and letters a reading holds, each counted each time it is reached (what is shared counts as often as it is met; a slice's spare places count too). A statement '..UptoSaid' is the law's where the arguments, and the package variables that the reading takes, are together of bulk at most 1048576: NARROWER than '..Said'. Prove '..Said' where nothing that the law and all that it calls make is longer than what came in: it says more and counts as full. Else prove '..UptoSaid'. A law counts once. -/
mutual
def uptoBulk {H : Type} : DataW H → Nat
  | .lit (.string bytes) => bytes.length + 1
  | .lit _ => 1
  | .nil => 1
  | .ptr d => uptoBulk d + 1
  | .slice elems spare => uptoBulkAll elems + uptoBulkAll spare + 1
  | .agg parts => uptoBulkAll parts + 1
  | .iface _ d => uptoBulk d + 1
  | .map entries => uptoBulkEntries entries + 1
  | .held _ => 1
def uptoBulkAll {H : Type} : List (DataW H) → Nat
  | [] => 0
  | d :: r => uptoBulk d + uptoBulkAll r
def uptoBulkEntries {H : Type} : List (Lit × DataW H) → Nat
  | [] => 0
  | x :: r => uptoBulkEntry x + uptoBulkEntries r
def uptoBulkEntry {H : Type} : Lit × DataW H → Nat
  | (.string bytes, d) => bytes.length + uptoBulk d + 1
  | (_, d) => uptoBulk d + 1
 end
def uptoSmall : (H : Type) → List (DataW H) → Bool := fun _ ds => decide (uptoBulkAll ds ≤ 1048576)
def OpenSpec.upto (s : _root_.Go.ChangeSpec) : _root_.Go.OpenSpec := { _root_.Go.OpenSpec.ofChange s with cond := some uptoSmall }

/-- 'pouchlaw2.DotsStuffs', WHERE WHAT IT READS IS OF BULK AT MOST 1048576: true; the input reads as it did. -/
def dotsStuffsUptoRow : OpenClaim := { program := "ytdedodfeopdkaaa", sum := "888d4f914e37f9006906ff27007afb09fc78c7c01fef890d4738ea7719724ce0", func := "pouch/pouchlaw2.DotsStuffs", spec := "dotsStuffs", inPlace := ["internal/bytealg.IndexByteString", "internal/bytealg.IndexString", "internal/abi.NoEscape"], unfollowed := true, recurses := true, named := ["internal/bytealg.MaxLen"], apart := false, narrowed := true }
def DotsStuffsUptoSaid : Prop := dotsStuffsUptoRow.holds Try.pinned (OpenSpec.upto dotsStuffsSpec)

/-- 'pouchlaw2.DotsEdges', WHERE WHAT IT READS IS OF BULK AT MOST 1048576: true; the input reads as it did. -/
def dotsEdgesUptoRow : OpenClaim := { program := "ytdedodfeopdkaaa", sum := "888d4f914e37f9006906ff27007afb09fc78c7c01fef890d4738ea7719724ce0", func := "pouch/pouchlaw2.DotsEdges", spec := "dotsEdges", inPlace := ["internal/bytealg.IndexByteString", "internal/bytealg.IndexString", "internal/abi.NoEscape"], unfollowed := true, recurses := true, named := ["internal/bytealg.MaxLen"], apart := false, narrowed := true }
def DotsEdgesUptoSaid : Prop := dotsEdgesUptoRow.holds Try.pinned (OpenSpec.upto dotsEdgesSpec)

/-- 'pouchlaw2.DotsTakes', WHERE WHAT IT READS IS OF BULK AT MOST 1048576: true; the input reads as it did. -/
def dotsTakesUptoRow : OpenClaim := { program := "ytdedodfeopdkaaa", sum := "888d4f914e37f9006906ff27007afb09fc78c7c01fef890d4738ea7719724ce0", func := "pouch/pouchlaw2.DotsTakes", spec := "dotsTakes", inPlace := ["internal/bytealg.IndexByteString", "internal/bytealg.IndexString", "internal/abi.NoEscape"], unfollowed := true, recurses := true, named := ["internal/bytealg.MaxLen"], apart := false, narrowed := true }
def DotsTakesUptoSaid : Prop := dotsTakesUptoRow.holds Try.pinned (OpenSpec.upto dotsTakesSpec)

/-- 'pouchlaw2.DotsBack', WHERE WHAT IT READS IS OF BULK AT MOST 1048576: true; the input reads as it did. -/
def dotsBackUptoRow : OpenClaim := { program := "ytdedodfeopdkaaa", sum := "888d4f914e37f9006906ff27007afb09fc78c7c01fef890d4738ea7719724ce0", func := "pouch/pouchlaw2.DotsBack", spec := "dotsBack", inPlace := ["internal/bytealg.IndexByteString", "internal/bytealg.IndexString", "internal/abi.NoEscape"], unfollowed := true, recurses := true, named := ["internal/bytealg.MaxLen"], apart := false, narrowed := true }
def DotsBackUptoSaid : Prop := dotsBackUptoRow.holds Try.pinned (OpenSpec.upto dotsBackSpec)

end Rows
end Go.Proofs.Ytdedodfeopdkaaa
