import Derived.Test.YtcaibcefgfolbaaSFrameChecks
import Derived.Test.YtcaibcefgfolbaaFrameD
namespace Go.Proofs.Ytcaibcefgfolbaa.Pure
set_option linter.unusedSimpArgs false
set_option linter.unusedVariables false
open Go.RowKit Go.Proofs.Ytcaibcefgfolbaa Go.Proofs.Ytcaibcefgfolbaa.PFr Go.Proofs.YtcaibcefgfolbaaW.PrintWords Go.Proofs.YtcaibcefgfolbaaW.PrintLast Go.Proofs.YtcaibcefgfolbaaW.PrintMore

theorem checks_loop (l : List S28) (hl : l.length ≤ 140737488351232) : ∀ (d i k : Nat), i + d = l.length → 2 * d + 3000 < k → pouchlaw1_FrameChecks.l0 k l i = some true := by
  intro d
  induction d with
  | zero =>
    intro i k hi hk
    obtain ⟨k, rfl⟩ : ∃ m, k = m + 2 := ⟨k - 2, by omega⟩
    rw [pouchlaw1_FrameChecks.l0, if_neg (by omega), pouchlaw1_FrameChecks.j1, if_neg (by decide)]
    rfl
  | succ d ih =>
    intro i k hi hk
    obtain ⟨k, rfl⟩ : ∃ m, k = m + 2 := ⟨k - 2, by omega⟩
    rw [pouchlaw1_FrameChecks.l0, if_pos (by omega), pouchlaw1_FrameChecks.j1]
    by_cases h12 : (i : Int) < 12
    · rw [if_pos (decide_eq_true h12), if_pos (by omega), if_pos (by omega), rd28 l i (by omega)]
      obtain ⟨b, hb, hh⟩ := heavy_is l[i].f0.f0 l[i].f0.f1 l[i].f1
      rw [hb]
      simp only [Option.bind_some]
      cases b with
      | true => rfl
      | false =>
        obtain ⟨h1, h2⟩ := hh rfl
        have e : l[i].f0.f0 = bs l[i].f0.f0.data.toList := (bs_data _).symm
        have hlen : l[i].f0.f0.data.toList.length ≤ 2000 := by rw [data_length]; exact h1
        rw [e]
        generalize l[i].f0.f0.data.toList = u at hlen
        generalize l[i].f0.f1 = s
        classical
        rw [if_neg (by decide)]
        unfold frame_Check.f
        rw [may_is, framer_is u s k (by omega) (by omega)]
        simp only [Option.bind_some]
        unfold pouchlaw1_num.f
        by_cases hm : May u s
        · rw [decide_eq_true hm, if_pos rfl]
          simp only [Option.bind_some]
          rw [if_neg (by decide), if_pos trivial, wrap_succ i (by omega)]
          exact ih (i + 1) k (by omega) (by omega)
        · rw [decide_eq_false hm, if_neg (by decide)]
          simp only [Option.bind_some]
          rw [if_neg (by decide), if_neg (by decide), if_pos trivial, wrap_succ i (by omega)]
          exact ih (i + 1) k (by omega) (by omega)
    · rw [if_neg (by simpa using h12)]
      rfl
theorem FrameChecks : StFrameChecks.Pure := by
  intro l hl
  have hl' : l.length ≤ 140737488351232 := by have := hl.1; omega
  exact ⟨_, checks_loop l hl' l.length 0 (2 * l.length + 3001) (by omega) (by omega)⟩

end Go.Proofs.Ytcaibcefgfolbaa.Pure
