/- The plain law DotsStuffs. -/
import Derived.Test.YtdedodfeopdkaaaSDotsStuffs
import Derived.Test.YtdedodfeopdkaaaDotsB
namespace Go.Proofs.Ytdedodfeopdkaaa.Pure
set_option linter.unusedSimpArgs false
set_option linter.unusedVariables false
open Go.RowKit Go.Proofs.Ytdedodfeopdkaaa Go.Proofs.Ytdedodfeopdkaaa.PDo Go.Proofs.YtdedodfeopdkaaaW.PrintWords Go.Proofs.YtdedodfeopdkaaaW.PrintLast Go.Proofs.YtdedodfeopdkaaaW.PrintMore

theorem rdS (l : List ByteArray) (i : Nat) (h : i < l.length) : rdOf ByteArray.empty l (i : Int) = bs l[i].data.toList := by
  unfold rdOf
  rw [show ((i : Int)).toNat = i from rfl, List.getD_eq_getElem?_getD, List.getElem?_eq_getElem h, bs_data]
  rfl
theorem stuffs_loop (l : List ByteArray) (hl : l.length ≤ 140737488351232) : ∀ (d i k : Nat), i + d = l.length → 3 * d + 30000 < k → pouchlaw2_DotsStuffs.l0 k l i = some true := by
  intro d
  induction d with
  | zero =>
    intro i k hi hk
    obtain ⟨k, rfl⟩ : ∃ m, k = m + 2 := ⟨k - 2, by omega⟩
    rw [pouchlaw2_DotsStuffs.l0, if_neg (by omega), pouchlaw2_DotsStuffs.j1, if_neg (by decide), wakes_f k (by omega)]
    rfl
  | succ d ih =>
    intro i k hi hk
    obtain ⟨k, rfl⟩ : ∃ m, k = m + 3 := ⟨k - 3, by omega⟩
    have hlt : i < l.length := by omega
    rw [pouchlaw2_DotsStuffs.l0, if_pos (by omega), pouchlaw2_DotsStuffs.j1]
    by_cases h10 : (i : Int) < 10
    · rw [if_pos (decide_eq_true h10), if_pos (by omega), if_pos (by omega), rdS l i hlt, bs_size]
      by_cases h5 : ((l[i].data.toList.length : Nat) : Int) > 5000
      · rw [if_pos h5]
      · rw [if_neg h5]
        have hrd := rdS l i hlt
        have ihn := ih (i + 1) k (by omega) (by omega)
        rw [show ((i + 1 : Nat) : Int) = (i : Int) + 1 by omega] at ihn
        generalize l[i].data.toList = A at h5 hrd
        have hA : A.length ≤ 5000 := by omega
        have hj2 : ∀ (b : Int) (t : List UInt8), dots_Stuff.f k (bs A) = some (bs t, b) → b = (if Ok A then 0 else 1) → pouchlaw2_DotsStuffs.j2 (k + 1) l i b (bs t) = some true := by
          intro b t hs hb
          rw [pouchlaw2_DotsStuffs.j2, if_pos (by omega), if_pos (by omega), hrd, hs, check_f A k (by omega)]
          simp only [Option.bind_some, pouchlaw2_num.f]
          rw [if_pos hb.symm, if_pos trivial, if_pos trivial, wrap_id (by omega) (by omega)]
          exact ihn
        cases hok : Ok A with
        | true =>
          obtain ⟨h8, R, hR⟩ := ok_iff hok
          rw [(rows_f A (k + 1) (by omega)).1 h8 R hR]
          simp only [Option.bind_some]
          rw [if_pos trivial, stuffR_f A h8 R hR (k + 1) (by omega)]
          simp only [Option.bind_some]
          exact hj2 0 _ (stuff_yes A k (by omega) R h8 hR) (by rw [hok]; rfl)
        | false =>
          obtain ⟨l', hl'⟩ := (rows_f A (k + 1) (by omega)).2 (fun h => by
            unfold Ok at hok
            rw [decide_eq_true h.1, h.2] at hok
            cases hok)
          rw [hl']
          simp only [Option.bind_some]
          rw [if_neg (by decide)]
          exact hj2 1 [] (stuff_no A k (by omega) hok) (by rw [hok]; rfl)
    · rw [if_neg (by simpa using h10), wakes_f (k + 1) (by omega)]
      rfl
theorem DotsStuffs : StDotsStuffs.Pure := by
  intro l hl
  exact ⟨3 * l.length + 30001, stuffs_loop l (by omega) l.length 0 _ (by omega) (by omega)⟩
end Go.Proofs.Ytdedodfeopdkaaa.Pure
