import Derived.Test.YtcaibcefgfolbaaSFrameFeeds
import Derived.Test.YtcaibcefgfolbaaFrameD
namespace Go.Proofs.Ytcaibcefgfolbaa.Pure
set_option linter.unusedSimpArgs false
set_option linter.unusedVariables false
open Go.RowKit Go.Proofs.Ytcaibcefgfolbaa Go.Proofs.Ytcaibcefgfolbaa.PFr Go.Proofs.YtcaibcefgfolbaaW.PrintWords Go.Proofs.YtcaibcefgfolbaaW.PrintLast Go.Proofs.YtcaibcefgfolbaaW.PrintMore

theorem feeds_loop (l : List S28) (hl : l.length ≤ 140737488351232) (hw : ∀ y ∈ l, StFrameFeeds.wf28 y) : ∀ (d i k : Nat), i + d = l.length → 2 * d + 10000 < k → pouchlaw1_FrameFeeds.l0 k l i = some true := by
  intro d
  induction d with
  | zero =>
    intro i k hi hk
    obtain ⟨k, rfl⟩ : ∃ m, k = m + 2 := ⟨k - 2, by omega⟩
    rw [pouchlaw1_FrameFeeds.l0, if_neg (by omega), pouchlaw1_FrameFeeds.j1, if_neg (by decide)]
    rfl
  | succ d ih =>
    intro i k hi hk
    obtain ⟨k, rfl⟩ : ∃ m, k = m + 2 := ⟨k - 2, by omega⟩
    rw [pouchlaw1_FrameFeeds.l0, if_pos (by omega), pouchlaw1_FrameFeeds.j1]
    by_cases h12 : (i : Int) < 12
    · rw [if_pos (decide_eq_true h12), if_pos (by omega), if_pos (by omega), rd28 l i (by omega)]
      obtain ⟨b, hb, hh⟩ := heavy_is l[i].f0.f0 l[i].f0.f1 l[i].f1
      rw [hb]
      simp only [Option.bind_some]
      cases b with
      | true => rfl
      | false =>
        obtain ⟨h1, h2⟩ := hh rfl
        have hwX := (hw l[i] (List.getElem_mem (by omega))).2.2
        have e : l[i].f0.f0 = bs l[i].f0.f0.data.toList := (bs_data _).symm
        have hlen : l[i].f0.f0.data.toList.length ≤ 2000 := by rw [data_length]; exact h1
        rw [e]
        generalize l[i].f0.f0.data.toList = u at hlen
        generalize l[i].f0.f1 = s
        generalize l[i].f1 = X at h2 hwX
        classical
        rw [if_neg (by decide), copy_is X k (by omega) (by omega)]
        simp only [Option.bind_some]
        rw [framer_is u s k (by omega) (by omega)]
        simp only [Option.bind_some]
        by_cases hm : May u s
        · rw [feed_prog u s X k hm (by omega) (by omega)]
          simp only [Option.bind_some]
          rw [if_pos (decide_eq_true hm), feed_ref u s X k hm hwX (by omega) (by omega)]
          simp only [Option.bind_some]
          unfold pouchlaw1_num.f
          simp only [Option.bind_some]
          have hsl := scan_len (X.map by8) u s
          rw [if_pos trivial, if_neg (by simp), eqL_is _ k (by simp at hsl ⊢; omega) (by simp at hsl ⊢; omega)]
          simp only [Option.bind_some]
          rw [if_pos trivial, eqB_is X k (by omega) (by omega)]
          simp only [Option.bind_some]
          rw [if_pos trivial, wrap_succ i (by omega)]
          exact ih (i + 1) k (by omega) (by omega)
        · rw [feed_not u s X k hm]
          simp only [Option.bind_some]
          rw [if_neg (by simpa using hm)]
          unfold pouchlaw1_num.f
          simp only [Option.bind_some]
          rw [if_pos trivial, if_neg (by simp), wrap_succ i (by omega)]
          exact ih (i + 1) k (by omega) (by omega)
    · rw [if_neg (by simpa using h12)]
      rfl
theorem FrameFeeds : StFrameFeeds.Pure := by
  intro l hl
  have hl' : l.length ≤ 140737488351232 := by have := hl.1; omega
  exact ⟨_, feeds_loop l hl' hl.2 l.length 0 (2 * l.length + 10001) (by omega) (by omega)⟩

end Go.Proofs.Ytcaibcefgfolbaa.Pure
