/- The plain law DotsEdges. -/
import Derived.Test.YtdedodfeopdkaaaSDotsEdges
import Derived.Test.YtdedodfeopdkaaaDotsB
namespace Go.Proofs.Ytdedodfeopdkaaa.Pure
set_option linter.unusedSimpArgs false
set_option linter.unusedVariables false
open Go.RowKit Go.Proofs.Ytdedodfeopdkaaa Go.Proofs.Ytdedodfeopdkaaa.PDo Go.Proofs.YtdedodfeopdkaaaW.PrintWords Go.Proofs.YtdedodfeopdkaaaW.PrintLast Go.Proofs.YtdedodfeopdkaaaW.PrintMore

theorem many_is (c : Int) (n : Nat) (hn : n ≤ 10000) : ∀ (d i k : Nat), i + d = n → d < k → pouchlaw2_many.l0 k c (List.replicate i c ++ List.replicate d 0) i = some (bs (List.replicate n (UInt8.ofNat c.toNat))) := by
  intro d
  induction d with
  | zero =>
    intro i k hi hk
    obtain ⟨k, rfl⟩ : ∃ m, k = m + 1 := ⟨k - 1, by omega⟩
    obtain rfl : i = n := by omega
    rw [pouchlaw2_many.l0, List.length_append, List.length_replicate, List.length_replicate, if_neg (by omega), strOf_bs]
    congr 2
    simp
  | succ d ih =>
    intro i k hi hk
    obtain ⟨k, rfl⟩ : ∃ m, k = m + 1 := ⟨k - 1, by omega⟩
    rw [pouchlaw2_many.l0, List.length_append, List.length_replicate, List.length_replicate, if_pos (by omega), if_pos (by omega), wrap_id (by omega) (by omega)]
    have e : (List.replicate i c ++ List.replicate (d + 1) 0).set ((i : Int)).toNat c = List.replicate (i + 1) c ++ List.replicate d 0 := by
      rw [show ((i : Int)).toNat = i from rfl, List.set_append_right _ _ (by simp), List.length_replicate, Nat.sub_self, List.replicate_succ (n := d), List.set_cons_zero, List.replicate_succ' (n := i)]
      simp
    rw [e]
    exact ih (i + 1) k (by omega) (by omega)
theorem many_f (k : Nat) (c : Int) (m : Int) (n : Nat) (e : m = n) (hn : n ≤ 10000) (hk : n < k) : pouchlaw2_many.f k c m = some (bs (List.replicate n (UInt8.ofNat c.toNat))) := by
  subst e
  have hm : mx 0 (n : Int) = (n : Int) := by unfold mx; omega
  unfold pouchlaw2_many.f
  rw [hm, if_pos (by omega), if_pos (by omega)]
  exact many_is c n hn n 0 k (by omega) hk

def row : List UInt8 := List.replicate 509 46
theorem row_len : row.length = 509 := List.length_replicate
theorem rep_cl (n : Nat) (c : UInt8) (h : c ≠ 13 ∧ c ≠ 10) (hn : n ≤ 509) : Cl (List.replicate n c) :=
  ⟨fun b hb => by obtain rfl := List.eq_of_mem_replicate hb; exact h, by rw [List.length_replicate]; exact hn⟩
theorem row_cl : Cl row := rep_cl 509 46 (by decide) (Nat.le_refl _)
theorem rows_len (j : Nat) : (unrows (List.replicate j row)).length = 511 * j := by
  induction j with
  | zero => rfl
  | succ j ih => rw [List.replicate_succ, unrows, List.length_append, List.length_cons, List.length_cons, ih, row_len]; omega
theorem ok_rows (rs : List (List UInt8)) (h : ∀ r ∈ rs, Cl r) (hl : (unrows rs).length ≤ 8192) : Ok (unrows rs) = true := by
  unfold Ok
  rw [rowsF_unrows rs h, decide_eq_true hl]; rfl
theorem ok_long (A : List UInt8) (h : 8192 < A.length) : Ok A = false := by
  unfold Ok
  rw [decide_eq_false (by omega)]; rfl
theorem num_f (a : Int) : pouchlaw2_num.f a = some a := rfl
theorem edges_end (k : Nat) (hk : 9000 < k) : pouchlaw2_DotsEdges.l0 k (bs row) (bs (unrows (List.replicate 16 row))) = some true := by
  obtain ⟨k, rfl⟩ : ∃ m, k = m + 1 := ⟨k - 1, by omega⟩
  have hall := rows_len 16
  have hr := row_len
  have w1 : wrap64 (wrap64 (((511 * 16 : Nat) : Int) + ((509 : Nat) : Int)) + 2) = 8687 := by unfold wrap64; omega
  have w2 : wrap64 (wrap64 (8192 - ((511 * 16 : Nat) : Int)) - 2) = 14 := by unfold wrap64; omega
  have w3 : wrap64 (wrap64 (8192 - ((511 * 16 : Nat) : Int)) - 1) = 15 := by unfold wrap64; omega
  have w4 : wrap64 (8192 - ((511 * 16 : Nat) : Int)) = 16 := by unfold wrap64; omega
  have c1 : Ok (row ++ [13, 10]) = true := by
    have := ok_rows [row] (by simpa using row_cl) (by simp [unrows, hr])
    simpa [unrows] using this
  have c2 : Ok (row ++ [46, 13, 10]) = false := by
    unfold Ok
    have : rowsF [] (row ++ [46, 13, 10]) = none := by
      have hcl : ∀ b ∈ row ++ [46], b ≠ 13 ∧ b ≠ 10 := fun b hb => by
        rcases List.mem_append.1 hb with hb | hb
        · exact row_cl.1 b hb
        · obtain rfl := List.mem_singleton.1 hb; decide
      have := rowsF_row (row ++ [46]) [] hcl
      rw [List.append_assoc] at this
      rw [show row ++ [46, 13, 10] = row ++ ([46] ++ 13 :: 10 :: []) from rfl, this, if_neg]
      intro h
      have := h.2
      rw [List.length_append, hr] at this
      simp at this
    rw [this]; simp
  have c3 : Ok (unrows (List.replicate 16 row) ++ List.replicate 14 98 ++ [13, 10]) = true := by
    have e : unrows (List.replicate 16 row) ++ List.replicate 14 98 ++ [13, 10] = unrows (List.replicate 16 row ++ [List.replicate 14 98]) := by
      rw [unrows_append]; simp [unrows]
    rw [e]
    refine ok_rows _ (fun r hr => ?_) ?_
    · rcases List.mem_append.1 hr with hr | hr
      · obtain rfl := List.eq_of_mem_replicate hr; exact row_cl
      · obtain rfl := List.mem_singleton.1 hr; exact rep_cl 14 98 (by decide) (by decide)
    · rw [unrows_append, List.length_append, hall]; decide
  have c4 : Ok (unrows (List.replicate 16 row) ++ List.replicate 15 98 ++ [13, 10]) = false :=
    ok_long _ (by rw [List.length_append, List.length_append, hall, List.length_replicate]; decide)
  generalize unrows (List.replicate 16 row) = all at hall c3 c4
  generalize row = rw_ at hr c1 c2
  rw [pouchlaw2_DotsEdges.l0, bs_size, bs_size, hall, hr, w1, if_neg (by decide), w2, w3, w4,
    many_f k 98 14 14 rfl (by decide) (by omega), many_f k 98 15 15 rfl (by decide) (by omega)]
  have l1 : (List.replicate 14 (UInt8.ofNat (98 : Int).toNat)).length = 14 := List.length_replicate
  have l2 : (List.replicate 15 (UInt8.ofNat (98 : Int).toNat)).length = 15 := List.length_replicate
  rw [show UInt8.ofNat (98 : Int).toNat = 98 from rfl] at *
  generalize List.replicate 14 (98 : UInt8) = b14 at c3 l1
  generalize List.replicate 15 (98 : UInt8) = b15 at c4 l2
  rw [show (⟨#[13, 10]⟩ : ByteArray) = bs [13, 10] from rfl, show (⟨#[46, 13, 10]⟩ : ByteArray) = bs [46, 13, 10] from rfl,
    show (⟨#[97]⟩ : ByteArray) = bs [97] from rfl, show (⟨#[97, 10]⟩ : ByteArray) = bs [97, 10] from rfl, show (⟨#[97, 13, 13, 10]⟩ : ByteArray) = bs [97, 13, 13, 10] from rfl]
  simp only [Option.bind_some, bs_append, bs_size, List.length_append, l1, l2, hall, hr, num_f]
  rw [check_f (rw_ ++ [13, 10]) k (by simp [hr]; omega), check_f (rw_ ++ [46, 13, 10]) k (by simp [hr]; omega), check_f (all ++ b14 ++ [13, 10]) k (by simp [hall, l1]; omega), check_f (all ++ b15 ++ [13, 10]) k (by simp [hall, l2]; omega),
    check_f [97] k (by simp; omega), check_f [97, 10] k (by simp; omega), check_f [97, 13, 13, 10] k (by simp; omega), check_f [13, 10] k (by simp; omega), wakes_f k (by omega), c1, c2, c3, c4,
    show Ok [97] = false by decide, show Ok [97, 10] = false by decide, show Ok [97, 13, 13, 10] = false by decide, show Ok [13, 10] = true by decide]
  rfl
theorem edges_loop : ∀ (d j k : Nat), j + d = 16 → 9000 + d < k → pouchlaw2_DotsEdges.l0 k (bs row) (bs (unrows (List.replicate j row))) = some true := by
  intro d
  induction d with
  | zero =>
    intro j k hj hk
    obtain rfl : j = 16 := by omega
    exact edges_end k hk
  | succ d ih =>
    intro j k hj hk
    obtain ⟨k, rfl⟩ : ∃ m, k = m + 1 := ⟨k - 1, by omega⟩
    have hall := rows_len j
    have hr := row_len
    have e : unrows (List.replicate j row) ++ row ++ [13, 10] = unrows (List.replicate (j + 1) row) := by
      rw [List.replicate_succ', unrows_append]; simp [unrows]
    have := ih (j + 1) k (by omega) (by omega)
    rw [← e] at this
    generalize unrows (List.replicate j row) = all at hall this
    generalize row = rw_ at hr this
    have wj : wrap64 (wrap64 (((511 * j : Nat) : Int) + ((509 : Nat) : Int)) + 2) = ((511 * j + 511 : Nat) : Int) := by
      rw [wrap_left, wrap_id (by omega) (by omega)]; omega
    rw [pouchlaw2_DotsEdges.l0, bs_size, bs_size, hall, hr, wj, if_pos (by omega), if_pos (by omega), bs_append, bs_size, List.length_append, hall, hr, if_pos (by omega),
      show (⟨#[13, 10]⟩ : ByteArray) = bs [13, 10] from rfl, bs_append]
    exact this
theorem rep_row : List.replicate 509 (UInt8.ofNat (46 : Int).toNat) = row := by
  rw [show UInt8.ofNat (46 : Int).toNat = 46 from rfl]
  unfold row
  rfl
theorem edges_f (l : List ByteArray) (k : Nat) (hk : 9100 ≤ k) : pouchlaw2_DotsEdges.f k l = some true := by
  have h := edges_loop 16 0 k rfl (by omega)
  rw [show unrows (List.replicate 0 row) = [] from rfl] at h
  unfold pouchlaw2_DotsEdges.f
  rw [many_f k 46 509 509 rfl (by decide) (by omega), rep_row]
  simp only [Option.bind_some]
  rw [show (⟨#[]⟩ : ByteArray) = bs [] from rfl]
  exact h
theorem DotsEdges : StDotsEdges.Pure := by
  intro l hl
  exact ⟨9100, edges_f l 9100 (Nat.le_refl _)⟩
end Go.Proofs.Ytdedodfeopdkaaa.Pure
