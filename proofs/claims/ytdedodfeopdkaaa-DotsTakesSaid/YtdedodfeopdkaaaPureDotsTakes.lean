/- The plain law DotsTakes. -/
import Derived.Test.YtdedodfeopdkaaaSDotsTakes
import Derived.Test.YtdedodfeopdkaaaDotsC
namespace Go.Proofs.Ytdedodfeopdkaaa.Pure
set_option linter.unusedSimpArgs false
set_option linter.unusedVariables false
open Go.RowKit Go.Proofs.Ytdedodfeopdkaaa Go.Proofs.Ytdedodfeopdkaaa.PDo Go.Proofs.YtdedodfeopdkaaaW.PrintWords Go.Proofs.YtdedodfeopdkaaaW.PrintLast Go.Proofs.YtdedodfeopdkaaaW.PrintMore

theorem takes_loop (l : List ByteArray) (hl : l.length ≤ 140737488351232) : ∀ (d i k : Nat), i + d = l.length → 3 * d + 10 < k → pouchlaw2_DotsTakes.l0 k l i = some true := by
  intro d
  induction d with
  | zero =>
    intro i k hi hk
    obtain ⟨k, rfl⟩ : ∃ m, k = m + 2 := ⟨k - 2, by omega⟩
    rw [pouchlaw2_DotsTakes.l0, if_neg (by omega), pouchlaw2_DotsTakes.j1, if_neg (by decide), wakes_f k (by omega)]
    rfl
  | succ d ih =>
    intro i k hi hk
    obtain ⟨k, rfl⟩ : ∃ m, k = m + 3 := ⟨k - 3, by omega⟩
    have hlt : i < l.length := by omega
    rw [pouchlaw2_DotsTakes.l0, if_pos (by omega), pouchlaw2_DotsTakes.j1]
    by_cases h10 : (i : Int) < 30
    · rw [if_pos (decide_eq_true h10), if_pos (by omega), if_pos (by omega)]
      have ihn := ih (i + 1) (k + 1) (by omega) (by omega)
      rw [show ((i + 1 : Nat) : Int) = (i : Int) + 1 by omega] at ihn
      split
      · rfl
      · generalize rdOf ByteArray.empty l (i : Int) = b
        rw [← bs_data b, take_f, takeR_f]
        simp only [Option.bind_some]
        rw [if_pos trivial, bne_self_eq_false, if_neg (by decide), wrap_id (by omega) (by omega)]
        exact ihn
    · rw [if_neg (by simpa using h10), wakes_f (k + 1) (by omega)]
      rfl
theorem DotsTakes : StDotsTakes.Pure := by
  intro l hl
  exact ⟨3 * l.length + 11, takes_loop l (by omega) l.length 0 _ (by omega) (by omega)⟩
end Go.Proofs.Ytdedodfeopdkaaa.Pure
