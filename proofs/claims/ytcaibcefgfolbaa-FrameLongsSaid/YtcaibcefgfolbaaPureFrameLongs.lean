import Derived.Test.YtcaibcefgfolbaaSFrameLongs
import Derived.KernelRfl
namespace Go.Proofs.Ytcaibcefgfolbaa.Pure
set_option linter.unusedSimpArgs false
set_option linter.unusedVariables false
open Go.RowKit Go.Proofs.Ytcaibcefgfolbaa Go.Proofs.Ytcaibcefgfolbaa.PFr Go.Proofs.YtcaibcefgfolbaaW.PrintWords Go.Proofs.YtcaibcefgfolbaaW.PrintLast Go.Proofs.YtcaibcefgfolbaaW.PrintMore

theorem longs_same (x x' y y' : List Int) (h : ((x.length : Int) % 2 = 1) = ((x'.length : Int) % 2 = 1)) : ∀ k : Nat,
    (∀ n, pouchlaw1_FrameLongs.l0 k n x y = pouchlaw1_FrameLongs.l0 k n x' y') ∧
    (∀ n a i, pouchlaw1_FrameLongs.l1 k n a i x y = pouchlaw1_FrameLongs.l1 k n a i x' y') ∧
    (∀ n a c, pouchlaw1_FrameLongs.j2 k n a c x y = pouchlaw1_FrameLongs.j2 k n a c x' y') ∧
    (∀ n a b, pouchlaw1_FrameLongs.j3 k n a b x y = pouchlaw1_FrameLongs.j3 k n a b x' y')
  | 0 => ⟨fun _ => rfl, fun _ _ _ => rfl, fun _ _ _ => rfl, fun _ _ _ => rfl⟩
  | k + 1 => by
    obtain ⟨h0, h1, h2, h3⟩ := longs_same x x' y y' h k
    refine ⟨fun n => ?_, fun n a i => ?_, fun n a c => ?_, fun n a b => ?_⟩
    · simp only [pouchlaw1_FrameLongs.l0, h0, h1, h2, h3, h]
    · simp only [pouchlaw1_FrameLongs.l1, h0, h1, h2, h3, h]
    · simp only [pouchlaw1_FrameLongs.j2, h0, h1, h2, h3, h]
    · simp only [pouchlaw1_FrameLongs.j3, h0, h1, h2, h3, h]

set_option maxRecDepth 1000000 in
theorem longs_even : pouchlaw1_FrameLongs.l0 5000 508 [] [] = some true := by kernel_rfl
set_option maxRecDepth 1000000 in
theorem longs_odd : pouchlaw1_FrameLongs.l0 5000 508 [0] [] = some true := by kernel_rfl

theorem FrameLongs : StFrameLongs.Pure := by
  intro x _
  refine ⟨5000, ?_⟩
  unfold pouchlaw1_FrameLongs.f
  by_cases h : ((x.1.length : Int) % 2 = 1)
  · rw [(longs_same x.1 [0] x.2 [] (by simp [h]) 5000).1]; exact longs_odd
  · rw [(longs_same x.1 [] x.2 [] (by simp [h]) 5000).1]; exact longs_even

end Go.Proofs.Ytcaibcefgfolbaa.Pure
