/- What is known of the arguments of FrameChecks, and the law's pure statement. -/
import Derived.Test.YtcaibcefgfolbaaPFrx7
import Derived.Test.YtcaibcefgfolbaaOpen
namespace Go.Proofs.Ytcaibcefgfolbaa.StFrameChecks
set_option linter.unusedVariables false
open Go.RowKit Go.Proofs.Ytcaibcefgfolbaa Go.Proofs.Ytcaibcefgfolbaa.PFr Go.Proofs.YtcaibcefgfolbaaW.PrintWords Go.Proofs.YtcaibcefgfolbaaW.PrintLast Go.Proofs.YtcaibcefgfolbaaW.PrintMore
theorem opn9 : Opn Try.prog 9 Kd.string (fun x : ByteArray => x.size ≤ 140737488351232) := Opn.string (by kernel_rfl) Try.underlying9
theorem opn4 : Opn Try.prog 4 Kd.bool (fun x : Bool => True) := Opn.bool (by kernel_rfl) Try.underlying4
def wf25 (x : S25) : Prop := x.f0.size ≤ 140737488351232 ∧ True
theorem opn25 : Opn Try.prog 25 k25 (fun x : S25 => wf25 x) := (Opn.iso (g := fun x => (⟨x.1, x.2⟩ : S25)) (Opn.struct (by kernel_rfl) Try.underlying25 (OpnFs.cons opn9 rfl (OpnFs.one opn4 rfl))) (fun _ => rfl)).imp (fun x h => h)
theorem opn5 : Opn Try.prog 5 (Kd.int .u8) (fun x : Int => (Lit.int .u8 x).wf = true) := Opn.int (by kernel_rfl) Try.underlying5
theorem bytes5 : Try.prog.bytesOf 5 = 1 := by kernel_rfl
theorem opn26 : Opn Try.prog 26 (Kd.slice 5 (Kd.int .u8)) (fun x : List Int => (x.length * 1 ≤ 140737488351232 ∧ ∀ y ∈ x, (Lit.int .u8 y).wf = true)) := (Opn.slice (by kernel_rfl) Try.underlying26 opn5).imp (fun x h => ⟨by rw [← bytes5]; exact h.1, h.2⟩)
def wf28 (x : S28) : Prop := wf25 x.f0 ∧ (x.f1.length * 1 ≤ 140737488351232 ∧ ∀ y ∈ x.f1, (Lit.int .u8 y).wf = true)
theorem opn28 : Opn Try.prog 28 k28 (fun x : S28 => wf28 x) := (Opn.iso (g := fun x => (⟨x.1, x.2⟩ : S28)) (Opn.struct (by kernel_rfl) Try.underlying28 (OpnFs.cons opn25 rfl (OpnFs.one opn26 rfl))) (fun _ => rfl)).imp (fun x h => h)
theorem bytes28 : Try.prog.bytesOf 28 = 48 := by kernel_rfl
theorem opn22 : Opn Try.prog 22 (Kd.slice 28 k28) (fun x : List S28 => (x.length * 48 ≤ 140737488351232 ∧ ∀ y ∈ x, wf28 y)) := (Opn.slice (by kernel_rfl) Try.underlying22 opn28).imp (fun x h => ⟨by rw [← bytes28]; exact h.1, h.2⟩)
def Pure : Prop := ∀ (x0 : List S28), (x0.length * 48 ≤ 140737488351232 ∧ ∀ y ∈ x0, wf28 y) → ∃ k, pouchlaw1_FrameChecks.f k x0 = some true
end Go.Proofs.Ytcaibcefgfolbaa.StFrameChecks
