/- Copies and comparisons that answer what they should. -/
import Derived.Test.YtcaibcefgfolbaaFrameC
namespace Go.Proofs.Ytcaibcefgfolbaa
set_option linter.unusedSimpArgs false
set_option linter.unusedVariables false
open Go.RowKit Go.Proofs.YtcaibcefgfolbaaW.PrintWords Go.Proofs.YtcaibcefgfolbaaW.PrintLast Go.Proofs.YtcaibcefgfolbaaW.PrintMore Go.Proofs.Ytcaibcefgfolbaa.PFr

theorem rd_at (X : List Int) (i : Nat) (h : i < X.length) : rd X (i : Int) = X[i] := by
  unfold rd
  rw [Int.toNat_natCast, List.getD_eq_getElem?_getD, List.getElem?_eq_getElem h]; rfl
theorem wrap_succ (i : Nat) (h : i < 4611686018427387904) : wrap64 ((i : Int) + 1) = ((i + 1 : Nat) : Int) := by
  rw [wrap_id (by omega) (by omega)]; rfl
theorem copy_loop (X : List Int) (hX : X.length < 140737488355328) : ∀ (d i k : Nat), i + d = X.length → d < k → pouchref0_CopyBytes.l0 k X (X.take i) i = some X := by
  intro d
  induction d with
  | zero =>
    intro i k hi hk
    obtain ⟨k, rfl⟩ : ∃ m, k = m + 1 := ⟨k - 1, by omega⟩
    rw [pouchref0_CopyBytes.l0, if_neg (by omega), List.take_of_length_le (by omega)]
  | succ d ih =>
    intro i k hi hk
    obtain ⟨k, rfl⟩ : ∃ m, k = m + 1 := ⟨k - 1, by omega⟩
    rw [pouchref0_CopyBytes.l0, if_pos (by omega), if_pos (by omega), if_pos (by rw [List.length_take]; omega), rd_at X i (by omega), wrap_succ i (by omega), ← List.take_succ_eq_append_getElem (by omega)]
    exact ih (i + 1) k (by omega) (by omega)
theorem copy_is (X : List Int) (k : Nat) (hX : X.length < 140737488355328) (hk : X.length < k) : pouchref0_CopyBytes.f k X = some X := copy_loop X hX X.length 0 k (by omega) hk
theorem eqB_loop (X : List Int) (hX : X.length < 140737488355328) : ∀ (d i k : Nat), i + d = X.length → d < k → pouchref0_EqBytes.l0 k X X i = some true := by
  intro d
  induction d with
  | zero =>
    intro i k hi hk
    obtain ⟨k, rfl⟩ : ∃ m, k = m + 1 := ⟨k - 1, by omega⟩
    rw [pouchref0_EqBytes.l0, if_neg (by omega)]
  | succ d ih =>
    intro i k hi hk
    obtain ⟨k, rfl⟩ : ∃ m, k = m + 1 := ⟨k - 1, by omega⟩
    rw [pouchref0_EqBytes.l0, if_pos (by omega), if_pos (by omega), if_pos (by omega), if_pos rfl, wrap_succ i (by omega)]
    exact ih (i + 1) k (by omega) (by omega)
theorem eqB_is (X : List Int) (k : Nat) (hX : X.length < 140737488355328) (hk : X.length < k) : pouchref0_EqBytes.f k X X = some true := by
  unfold pouchref0_EqBytes.f
  rw [if_pos rfl]
  exact eqB_loop X hX X.length 0 k (by omega) hk
theorem eqL_loop (X : List S46) (hX : X.length < 140737488355328) : ∀ (d i k : Nat), i + d = X.length → d < k → pouchref0_EqLines.l0 k X X i = some true := by
  intro d
  induction d with
  | zero =>
    intro i k hi hk
    obtain ⟨k, rfl⟩ : ∃ m, k = m + 1 := ⟨k - 1, by omega⟩
    rw [pouchref0_EqLines.l0, if_neg (by omega)]
  | succ d ih =>
    intro i k hi hk
    obtain ⟨k, rfl⟩ : ∃ m, k = m + 1 := ⟨k - 1, by omega⟩
    rw [pouchref0_EqLines.l0, if_pos (by omega), if_pos (by omega), if_pos (by omega), if_neg (by simp), wrap_succ i (by omega)]
    exact ih (i + 1) k (by omega) (by omega)
theorem eqL_is (X : List S46) (k : Nat) (hX : X.length < 140737488355328) (hk : X.length < k) : pouchref0_EqLines.f k X X = some true := by
  unfold pouchref0_EqLines.f
  rw [if_pos rfl]
  exact eqL_loop X hX X.length 0 k (by omega) hk
theorem rd28 (l : List S28) (i : Nat) (h : i < l.length) : rd_T28 l (i : Int) = l[i] := by
  unfold rd_T28
  rw [Int.toNat_natCast, List.getD_eq_getElem?_getD, List.getElem?_eq_getElem h]; rfl
/-- What is not heavy. -/
theorem heavy_is (r : ByteArray) (s : Bool) (X : List Int) : ∃ b, pouchlaw1_heavy.f r s X = some b ∧ (b = false → r.size ≤ 2000 ∧ X.length ≤ 5000) := by
  unfold pouchlaw1_heavy.f
  by_cases h : (r.size : Int) > 2000
  · exact ⟨true, by rw [if_pos h], fun h => by cases h⟩
  · refine ⟨_, by rw [if_neg h], fun h' => ?_⟩
    have := of_decide_eq_false h'
    omega
end Go.Proofs.Ytcaibcefgfolbaa
