/- What is known of the arguments of FrameParts, and the law's pure statement. -/
import Derived.Test.YtcaibcefgfolbaaPFrx8
import Derived.Test.YtcaibcefgfolbaaOpen
namespace Go.Proofs.Ytcaibcefgfolbaa.StFrameParts
set_option linter.unusedVariables false
open Go.RowKit Go.Proofs.Ytcaibcefgfolbaa Go.Proofs.Ytcaibcefgfolbaa.PFr Go.Proofs.YtcaibcefgfolbaaW.PrintWords Go.Proofs.YtcaibcefgfolbaaW.PrintLast Go.Proofs.YtcaibcefgfolbaaW.PrintMore
theorem opn5 : Opn Try.prog 5 (Kd.int .u8) (fun x : Int => (Lit.int .u8 x).wf = true) := Opn.int (by kernel_rfl) Try.underlying5
theorem bytes5 : Try.prog.bytesOf 5 = 1 := by kernel_rfl
theorem opn26 : Opn Try.prog 26 (Kd.slice 5 (Kd.int .u8)) (fun x : List Int => (x.length * 1 ≤ 140737488351232 ∧ ∀ y ∈ x, (Lit.int .u8 y).wf = true)) := (Opn.slice (by kernel_rfl) Try.underlying26 opn5).imp (fun x h => ⟨by rw [← bytes5]; exact h.1, h.2⟩)
theorem opn3 : Opn Try.prog 3 (Kd.int .i64) (fun x : Int => (Lit.int .i64 x).wf = true) := Opn.int (by kernel_rfl) Try.underlying3
theorem bytes3 : Try.prog.bytesOf 3 = 8 := by kernel_rfl
theorem opn42 : Opn Try.prog 42 (Kd.slice 3 (Kd.int .i64)) (fun x : List Int => (x.length * 8 ≤ 140737488351232 ∧ ∀ y ∈ x, (Lit.int .i64 y).wf = true)) := (Opn.slice (by kernel_rfl) Try.underlying42 opn3).imp (fun x h => ⟨by rw [← bytes3]; exact h.1, h.2⟩)
def wf44 (x : (List Int) × (List Int)) : Prop := (x.1.length * 1 ≤ 140737488351232 ∧ ∀ y ∈ x.1, (Lit.int .u8 y).wf = true) ∧ (x.2.length * 8 ≤ 140737488351232 ∧ ∀ y ∈ x.2, (Lit.int .i64 y).wf = true)
theorem opn44 : Opn Try.prog 44 (Kd.pair (Kd.slice 5 (Kd.int .u8)) (Kd.slice 3 (Kd.int .i64))) (fun x : (List Int) × (List Int) => wf44 x) := (Opn.struct (by kernel_rfl) Try.underlying44 (OpnFs.cons opn26 rfl (OpnFs.one opn42 rfl))).imp (fun x h => h)
def Pure : Prop := ∀ (x0 : (List Int) × (List Int)), wf44 x0 → ∃ k, pouchlaw1_FrameParts.f k (x0.1) (x0.2) = some true
end Go.Proofs.Ytcaibcefgfolbaa.StFrameParts
