/- What is known of the arguments of DotsBack, and the law's pure statement. -/
import Derived.Test.YtdedodfeopdkaaaPDox5
import Derived.Test.YtdedodfeopdkaaaOpen
namespace Go.Proofs.Ytdedodfeopdkaaa.StDotsBack
set_option linter.unusedVariables false
open Go.RowKit Go.Proofs.Ytdedodfeopdkaaa Go.Proofs.Ytdedodfeopdkaaa.PDo Go.Proofs.YtdedodfeopdkaaaW.PrintWords Go.Proofs.YtdedodfeopdkaaaW.PrintLast Go.Proofs.YtdedodfeopdkaaaW.PrintMore
theorem opn9 : Opn Try.prog 9 Kd.string (fun x : ByteArray => x.size ≤ 140737488351232) := Opn.string (by kernel_rfl) Try.underlying9
theorem bytes9 : Try.prog.bytesOf 9 = 16 := by kernel_rfl
theorem opn22 : Opn Try.prog 22 (Kd.slice 9 Kd.string) (fun x : List ByteArray => (x.length * 16 ≤ 140737488351232 ∧ ∀ y ∈ x, y.size ≤ 140737488351232)) := (Opn.slice (by kernel_rfl) Try.underlying22 opn9).imp (fun x h => ⟨by rw [← bytes9]; exact h.1, h.2⟩)
def Pure : Prop := ∀ (x0 : List ByteArray), (x0.length * 16 ≤ 140737488351232 ∧ ∀ y ∈ x0, y.size ≤ 140737488351232) → ∃ k, pouchlaw2_DotsBack.f k x0 = some true
end Go.Proofs.Ytdedodfeopdkaaa.StDotsBack
