/- The plain law DotsBack. -/
import Derived.Test.YtdedodfeopdkaaaSDotsBack
import Derived.Test.YtdedodfeopdkaaaDotsC
namespace Go.Proofs.Ytdedodfeopdkaaa.Pure
set_option linter.unusedSimpArgs false
set_option linter.unusedVariables false
open Go.RowKit Go.Proofs.Ytdedodfeopdkaaa Go.Proofs.Ytdedodfeopdkaaa.PDo Go.Proofs.YtdedodfeopdkaaaW.PrintWords Go.Proofs.YtdedodfeopdkaaaW.PrintLast Go.Proofs.YtdedodfeopdkaaaW.PrintMore

theorem unT_dot (r : List UInt8) : unT (dot r) = (r, false) := by
  unfold unT dot
  cases r with
  | nil => rfl
  | cons c r =>
    by_cases hc : c = 46
    · subst hc; rfl
    · have : ([46] : List UInt8).isPrefixOf (c :: r) = false := by simp [List.isPrefixOf, Ne.symm hc]
      rw [this]
      rw [if_neg (by simp [hc]), if_neg (by simp [hc])]
      rfl
theorem dot_clean {r : List UInt8} (h : ∀ b ∈ r, b ≠ 13 ∧ b ≠ 10) : ∀ b ∈ dot r, b ≠ 13 ∧ b ≠ 10 := by
  intro b hb
  unfold dot at hb
  rcases List.mem_append.1 hb with hb | hb
  · split at hb
    · obtain rfl := List.mem_singleton.1 hb; decide
    · cases hb
  · exact h b hb
/-- One line, gone through to its end. -/
theorem back_row (l : List ByteArray) (i : Int) (s D r Y back : List UInt8) (done : Bool) (hs : s = D ++ (r ++ 13 :: 10 :: Y)) (hr : ∀ b ∈ r, b ≠ 13 ∧ b ≠ 10) (hl : s.length ≤ 100000) (K : Nat)
    (h : ∀ m, K < m → pouchlaw2_DotsBack.j3 m l i (bs s) (bs back) D.length done ((D.length + r.length + 1 : Nat) : Int) false = some true) :
    ∀ (d j k : Nat), j + d = r.length + 1 → K + 2 * d + 2 < k → 1 ≤ D.length + j → pouchlaw2_DotsBack.l1 k l i (bs s) (bs back) D.length done ((D.length + j : Nat) : Int) = some true := by
  have hlen : s.length = D.length + r.length + 2 + Y.length := by rw [hs]; simp; omega
  intro d
  induction d with
  | zero =>
    intro j k hj hk h1
    obtain rfl : j = r.length + 1 := by omega
    obtain ⟨k, rfl⟩ : ∃ m, k = m + 1 := ⟨k - 1, by omega⟩
    have b1 : s[D.length + (r.length + 1)]? = some 10 := by
      rw [hs, List.getElem?_append_right (by omega), List.getElem?_append_right (by omega)]
      rw [show D.length + (r.length + 1) - D.length - r.length = 1 by omega]; rfl
    have b0 : s[D.length + r.length]? = some 13 := by
      rw [hs, List.getElem?_append_right (by omega), List.getElem?_append_right (by omega)]
      rw [show D.length + r.length - D.length - r.length = 0 by omega]; rfl
    rw [pouchlaw2_DotsBack.l1, bs_size, if_pos (by omega), if_pos (by omega), bt_at s _ _ rfl 10 b1, if_pos (by rfl), wrap_id (by omega) (by omega), if_pos (by omega), if_pos (by omega),
      bt_at s _ (D.length + r.length) (by omega) 13 b0]
    exact h k (by omega)
  | succ d ih =>
    intro j k hj hk h1
    obtain ⟨k, rfl⟩ : ∃ m, k = m + 2 := ⟨k - 2, by omega⟩
    obtain ⟨b, hb, hne⟩ : ∃ b, s[D.length + j]? = some b ∧ b ≠ 10 := by
      rw [hs, List.getElem?_append_right (by omega), show D.length + j - D.length = j by omega]
      by_cases hj' : j < r.length
      · rw [List.getElem?_append_left hj', List.getElem?_eq_getElem hj']
        exact ⟨_, rfl, (hr _ (List.getElem_mem hj')).2⟩
      · rw [List.getElem?_append_right (by omega), show j - r.length = 0 by omega]
        exact ⟨13, rfl, by decide⟩
    have hn := ih (j + 1) k (by omega) (by omega) (by omega)
    rw [show ((D.length + (j + 1) : Nat) : Int) = ((D.length + j : Nat) : Int) + 1 by omega] at hn
    rw [pouchlaw2_DotsBack.l1, bs_size, if_pos (by omega), if_pos (by omega), bt_at s _ _ rfl b hb, if_neg (fun e => hne ((is10 b).1 e)), pouchlaw2_DotsBack.j3, if_pos rfl, wrap_id (by omega) (by omega)]
    exact hn
theorem unT_last : unT [46] = ([], true) := by
  unfold unT
  rw [if_pos rfl]
theorem take_last : ∃ t : List UInt8, t = [46] ∧ dots_Take.f (bs t) = some (bs [], true) := ⟨_, rfl, by rw [take_f, unT_last]⟩
theorem take_last' (t : List UInt8) (h : t = [46]) : dots_Take.f (bs t) = some (bs [], true) := by subst h; rw [take_f, unT_last]
theorem back_rows (l : List ByteArray) (i : Nat) (hi : i < l.length) (hll : l.length ≤ 140737488351232) (A s : List UInt8) (hA : rdOf ByteArray.empty l (i : Int) = bs A) (hsl : s.length ≤ 100000) (hal : A.length + 3 ≤ s.length) (K : Nat)
    (hend : ∀ m, K < m → pouchlaw2_DotsBack.l0 m l ((i : Int) + 1) = some true) :
    ∀ (rs : List (List UInt8)) (D back : List UInt8) (j k : Nat), (∀ r ∈ rs, Cl r) → s = D ++ (unrows (rs.map dot) ++ [46, 13, 10]) → A = back ++ unrows rs → j ≤ 1 → 1 ≤ D.length + j → K + 4 * (unrows (rs.map dot)).length + 20 < k →
      pouchlaw2_DotsBack.l1 k l i (bs s) (bs back) D.length false ((D.length + j : Nat) : Int) = some true := by
  intro rs
  induction rs with
  | nil =>
    intro D back j k hcl hs hab hj h1 hk
    have hs' : s = D ++ ([46] ++ 13 :: 10 :: []) := hs
    have hlen : s.length = D.length + 3 := by rw [hs']; simp
    refine back_row l i s D [46] [] back false hs' (by decide) hsl (K + 3) (fun m hm => ?_) (2 - j) j k (by simp; omega) (by simp [unrows] at hk; omega) h1
    obtain ⟨m, rfl⟩ : ∃ n, m = n + 2 := ⟨m - 2, by omega⟩
    rw [show ([46] : List UInt8).length = 1 from rfl]
    rw [pouchlaw2_DotsBack.j3, if_neg (by decide), if_pos (by omega), wrap_id (by omega) (by omega), if_pos (by omega), bs_size, if_pos (by omega), bs_extract]
    have hrow : (s.take ((((D.length + 1 + 1 : Nat) : Int) - 1)).toNat).drop ((D.length : Int)).toNat = [46] := by
      rw [show ((((D.length + 1 + 1 : Nat) : Int) - 1)).toNat = D.length + 1 by omega, show ((D.length : Int)).toNat = D.length from rfl, hs', List.drop_take, List.drop_left, show D.length + 1 - D.length = 1 by omega]
      rfl
    rw [take_last' _ hrow, Option.bind_some, if_neg (by decide), if_pos rfl, wrap_id (by omega) (by omega)]
    rw [show (((D.length + 1 + 1 : Nat) : Int) + 1) = (s.length : Int) by rw [hlen]; omega]
    rw [pouchlaw2_DotsBack.l1, bs_size, if_neg (by omega), if_pos rfl, if_pos rfl, if_pos (by omega), if_pos (by omega), hA, bs_toList, bs_toList, bs_size]
    rw [if_pos (by rw [hab]; simp [unrows]), wrap_id (by omega) (by omega), if_neg (by omega), wrap_id (by omega) (by omega)]
    exact hend m (by omega)
  | cons r t ih =>
    intro D back j k hcl hs hab hj h1 hk
    have hr := hcl r (by simp)
    have hs' : s = D ++ (dot r ++ 13 :: 10 :: (unrows (t.map dot) ++ [46, 13, 10])) := by rw [hs]; simp [unrows]
    have hk' : K + 4 * ((dot r).length + 2 + (unrows (t.map dot)).length) + 20 < k := by
      rw [List.map_cons, unrows, List.length_append, List.length_cons, List.length_cons] at hk
      omega
    have hlen : s.length = D.length + (dot r).length + 2 + (unrows (t.map dot)).length + 3 := by rw [hs']; simp; omega
    have hbl : back.length + (r.length + 2) ≤ A.length := by rw [hab]; simp [unrows] <;> omega
    refine back_row l i s D (dot r) _ back false hs' (dot_clean hr.1) hsl (K + 4 * (unrows (t.map dot)).length + 21) (fun m hm => ?_) ((dot r).length + 1 - j) j k (by omega) (by omega) h1
    obtain ⟨m, rfl⟩ : ∃ n, m = n + 1 := ⟨m - 1, by omega⟩
    rw [pouchlaw2_DotsBack.j3, if_neg (by decide), if_pos (by omega), wrap_id (by omega) (by omega), if_pos (by omega), bs_size, if_pos (by omega), bs_extract]
    have hrow : (s.take ((((D.length + (dot r).length + 1 : Nat) : Int) - 1)).toNat).drop ((D.length : Int)).toNat = dot r := by
      rw [show ((((D.length + (dot r).length + 1 : Nat) : Int) - 1)).toNat = D.length + (dot r).length by omega, show ((D.length : Int)).toNat = D.length from rfl, hs', List.drop_take, List.drop_left, show D.length + (dot r).length - D.length = (dot r).length by omega, List.take_left]
    rw [hrow, take_f, unT_dot]
    simp only [Option.bind_some]
    rw [if_neg (by decide), if_neg (by decide), bs_size, bs_size, if_pos (by omega), show (⟨#[13, 10]⟩ : ByteArray) = bs [13, 10] from rfl, bs_append, bs_append, bs_size, List.length_append, if_pos (by omega), wrap_id (by omega) (by omega)]
    have hD : (D ++ dot r ++ [13, 10]).length = D.length + (dot r).length + 1 + 1 := by simp; omega
    have := ih (D ++ dot r ++ [13, 10]) (back ++ r ++ [13, 10]) 0 m (fun r hr => hcl r (by simp [hr])) (by rw [hs']; simp) (by rw [hab]; simp [unrows]) (by omega) (by omega) (by omega)
    rw [Nat.add_zero, hD] at this
    exact this
theorem dots_len (rs : List (List UInt8)) : (unrows rs).length ≤ (unrows (rs.map dot)).length ∧ (unrows (rs.map dot)).length ≤ 2 * (unrows rs).length := by
  induction rs with
  | nil => simp [unrows]
  | cons r t ih =>
    have : r.length ≤ (dot r).length ∧ (dot r).length ≤ r.length + 1 := by unfold dot; split <;> simp <;> omega
    rw [List.map_cons, unrows, unrows, List.length_append, List.length_append, List.length_cons, List.length_cons, List.length_cons, List.length_cons]
    omega
theorem backs_loop (l : List ByteArray) (hl : l.length ≤ 140737488351232) : ∀ (d i k : Nat), i + d = l.length → 100000 * d + 100000 < k → pouchlaw2_DotsBack.l0 k l i = some true := by
  intro d
  induction d with
  | zero =>
    intro i k hi hk
    obtain ⟨k, rfl⟩ : ∃ m, k = m + 2 := ⟨k - 2, by omega⟩
    rw [pouchlaw2_DotsBack.l0, if_neg (by omega), pouchlaw2_DotsBack.j1, if_neg (by decide), wakes_f k (by omega)]
    rfl
  | succ d ih =>
    intro i k hi hk
    obtain ⟨k, rfl⟩ : ∃ m, k = m + 2 := ⟨k - 2, by omega⟩
    have hlt : i < l.length := by omega
    have hend : ∀ m, 100000 * d + 100000 < m → pouchlaw2_DotsBack.l0 m l ((i : Int) + 1) = some true := fun m hm => by
      have := ih (i + 1) m (by omega) hm
      rwa [show ((i + 1 : Nat) : Int) = (i : Int) + 1 by omega] at this
    rw [pouchlaw2_DotsBack.l0, if_pos (by omega), pouchlaw2_DotsBack.j1]
    by_cases h10 : (i : Int) < 10
    · have hrd : rdOf ByteArray.empty l (i : Int) = bs l[i].data.toList := by
        unfold rdOf
        rw [show ((i : Int)).toNat = i from rfl, List.getD_eq_getElem?_getD, List.getElem?_eq_getElem hlt, bs_data]
        rfl
      rw [if_pos (decide_eq_true h10), if_pos (by omega), if_pos (by omega), hrd, bs_size]
      by_cases h5 : ((l[i].data.toList.length : Nat) : Int) > 5000
      · rw [if_pos h5]
      · rw [if_neg h5]
        generalize l[i].data.toList = A at h5 hrd
        have hA : A.length ≤ 5000 := by omega
        cases hok : Ok A with
        | true =>
          obtain ⟨h8, R, hR⟩ := ok_iff hok
          rw [stuff_yes A k (by omega) R h8 hR]
          simp only [Option.bind_some, pouchlaw2_num.f]
          rw [if_pos trivial]
          obtain ⟨e, hc, hn⟩ := count_rows hR
          obtain ⟨g1, g2⟩ := dots_len R
          rw [← e] at g1 g2
          have := back_rows l i hlt hl A (unrows (R.map dot) ++ [46, 13, 10]) hrd (by simp; omega) (by simp; omega) (100000 * d + 100000) hend R [] [] 1 k hc rfl (by simpa using e) (by omega) (by simp) (by omega)
          exact this
        | false =>
          rw [stuff_no A k (by omega) hok]
          simp only [Option.bind_some, pouchlaw2_num.f]
          rw [if_neg (by decide), wrap_id (by omega) (by omega)]
          exact hend k (by omega)
    · rw [if_neg (by simpa using h10), wakes_f k (by omega)]
      rfl
theorem DotsBack : StDotsBack.Pure := by
  intro l hl
  exact ⟨100000 * l.length + 100001, backs_loop l (by omega) l.length 0 _ (by omega) (by omega)⟩
end Go.Proofs.Ytdedodfeopdkaaa.Pure
