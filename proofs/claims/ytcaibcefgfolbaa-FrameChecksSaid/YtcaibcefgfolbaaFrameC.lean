/- Framers that may be, and what a framer is fed, in plain words: the program's and the reference's. -/
import Derived.Test.YtcaibcefgfolbaaFrameB
namespace Go.Proofs.Ytcaibcefgfolbaa
set_option linter.unusedSimpArgs false
set_option linter.unusedVariables false
open Go.RowKit Go.Proofs.YtcaibcefgfolbaaW.PrintWords Go.Proofs.YtcaibcefgfolbaaW.PrintLast Go.Proofs.YtcaibcefgfolbaaW.PrintMore Go.Proofs.Ytcaibcefgfolbaa.PFr

/-- Whether a framer may be. -/
def May (u : List UInt8) (s : Bool) : Prop := (s = true → u = [] ∨ u = [13]) ∧ (s = false → u.length < 512 ∧ NoEnd u)
theorem may_t (u : List UInt8) : May u true ↔ (u = [] ∨ u = [13]) := ⟨fun h => h.1 rfl, fun h => ⟨fun _ => h, fun e => (by cases e)⟩⟩
theorem may_f (u : List UInt8) : May u false ↔ (u.length < 512 ∧ NoEnd u) := ⟨fun h => h.2 rfl, fun h => ⟨fun e => (by cases e), fun _ => h⟩⟩

open Classical in
theorem may_is (u : List UInt8) (s : Bool) : frame_May.f (bs u) s = some (decide (May u s)) := by
  unfold frame_May.f
  rw [bs_toList]
  cases s with
  | true =>
    rw [if_pos rfl]
    by_cases h : u = []
    · rw [if_pos h, decide_eq_true ((may_t u).2 (Or.inl h))]
    · rw [if_neg h]
      congr 1
      rw [Bool.eq_iff_iff, beq_iff_eq, decide_eq_true_eq, may_t]
      exact ⟨Or.inr, fun h' => h'.resolve_left h⟩
  | false =>
    rw [if_neg (by decide), bs_size]
    by_cases h : (u.length : Int) < 512
    · rw [if_pos h]
      unfold strings_Contains.f
      rw [if_pos (by rw [bs_size]; omega), bs_dt, show (⟨#[13, 10]⟩ : ByteArray).data.toList = [13, 10] from rfl]
      simp only [Option.bind_some]
      congr 1
      rw [Bool.eq_iff_iff, Bool.not_eq_true', contains_iff, decide_eq_true_eq, may_f]
      exact ⟨fun h' => ⟨by omega, h'⟩, fun h' => h'.2⟩
    · rw [if_neg h, decide_eq_false (by rw [may_f]; rintro ⟨h', _⟩; exact h (by omega))]

theorem framer_loop (u : List UInt8) (s : Bool) (hl : u.length ≤ 4611686018427387000) : ∀ (d i k : Nat), i + d = u.length + 1 → d < k → 2 ≤ i → ∃ b, pouchref1_Framer.l0 k i (bs u) s = some b ∧
    (b = true ↔ ∀ j : Nat, i ≤ j → j ≤ u.length → ¬ (u[j - 2]? = some 13 ∧ u[j - 1]? = some 10)) := by
  intro d
  induction d with
  | zero =>
    intro i k hi hk h2
    obtain ⟨k, rfl⟩ : ∃ m, k = m + 1 := ⟨k - 1, by omega⟩
    refine ⟨true, by rw [pouchref1_Framer.l0, bs_size, if_neg (by omega)], ?_⟩
    simp only [true_iff]
    intro j hj hj2
    omega
  | succ d ih =>
    intro i k hi hk h2
    obtain ⟨k, rfl⟩ : ∃ m, k = m + 1 := ⟨k - 1, by omega⟩
    rw [pouchref1_Framer.l0, bs_size, if_pos (by omega), if_pos (by omega), bs_extract, Int.toNat_natCast, List.drop_zero, ends_gen _ (by rw [List.length_take]; omega)]
    simp only [Option.bind_some]
    have hlen : (u.take i).length = i := by rw [List.length_take]; omega
    have e1 : (u.take i)[i - 2]? = u[i - 2]? := by rw [List.getElem?_take, if_pos (by omega)]
    have e2 : (u.take i)[i - 1]? = u[i - 1]? := by rw [List.getElem?_take, if_pos (by omega)]
    rw [hlen, e1, e2]
    by_cases h : u[i - 2]? = some 13 ∧ u[i - 1]? = some 10
    · rw [if_pos (decide_eq_true ⟨h2, h⟩)]
      refine ⟨false, rfl, ?_⟩
      constructor
      · intro h'; cases h'
      · intro h'; exact absurd h (h' i (Nat.le_refl _) (by omega))
    · rw [if_neg (by rw [decide_eq_true_eq]; rintro ⟨_, h'⟩; exact h h'), wrap_id (by omega) (by omega)]
      obtain ⟨b, hb, hiff⟩ := ih (i + 1) k (by omega) (by omega) (by omega)
      refine ⟨b, hb, hiff.trans ?_⟩
      constructor
      · intro hj j h1 h3
        by_cases hji : j = i
        · subst hji; exact h
        · exact hj j (by omega) h3
      · intro hj j h1 h3
        exact hj j (by omega) h3

open Classical in
theorem framer_is (u : List UInt8) (s : Bool) (k : Nat) (hl : u.length ≤ 4611686018427387000) (hk : u.length < k) : pouchref1_Framer.f k (bs u) s = some (decide (May u s)) := by
  unfold pouchref1_Framer.f
  rw [bs_toList, bs_size]
  cases s with
  | true =>
    rw [if_pos rfl]
    by_cases h : u = []
    · rw [if_pos h, decide_eq_true ((may_t u).2 (Or.inl h))]
    · rw [if_neg h]
      congr 1
      rw [Bool.eq_iff_iff, beq_iff_eq, decide_eq_true_eq, may_t]
      exact ⟨Or.inr, fun h' => h'.resolve_left h⟩
  | false =>
    rw [if_neg (by decide)]
    by_cases h : (u.length : Int) > 511
    · rw [if_pos h, decide_eq_false (by rw [may_f]; rintro ⟨h', _⟩; omega)]
    · rw [if_neg h]
      by_cases h1 : u.length = 0
      · have hu : u = [] := List.length_eq_zero_iff.1 h1
        subst hu
        obtain ⟨k, rfl⟩ : ∃ m, k = m + 1 := ⟨k - 1, by omega⟩
        rw [pouchref1_Framer.l0, if_neg (by rw [bs_size]; decide), decide_eq_true ((may_f _).2 ⟨by decide, NoEnd.nil⟩)]
      obtain ⟨b, hb, hiff⟩ := framer_loop u false hl (u.length - 1) 2 k (by omega) (by omega) (by omega)
      have hb' : pouchref1_Framer.l0 k 2 (bs u) false = some b := hb
      rw [hb']
      congr 1
      rw [Bool.eq_iff_iff, hiff, decide_eq_true_eq, may_f]
      constructor
      · intro hj
        refine ⟨by omega, fun i g1 g2 => ?_⟩
        have hi := (List.getElem?_eq_some_iff.1 g2).1
        exact hj (i + 2) (by omega) (by omega) ⟨by simpa using g1, by simpa using g2⟩
      · rintro ⟨_, hn⟩ j h2 h3 ⟨g1, g2⟩
        exact hn (j - 2) g1 (by rw [show j - 2 + 1 = j - 1 by omega]; exact g2)

/-- What a framer that may be has is what it is told by. -/
theorem st_of_may {u : List UInt8} {s : Bool} (h : May u s) : st u s = (u, s) := by
  cases s with
  | true =>
    rw [may_t] at h
    unfold st
    rw [if_pos (Or.inl rfl)]
    rcases h with rfl | rfl <;> rfl
  | false =>
    rw [may_f] at h
    unfold st
    rw [if_neg (by rintro (h' | h'); cases h'; omega)]
theorem noEnd_of_may {u : List UInt8} {s : Bool} (h : May u s) : NoEnd u := by
  cases s with
  | true =>
    rw [may_t] at h
    intro i h1 h2
    have hi := (List.getElem?_eq_some_iff.1 h2).1
    rcases h with rfl | rfl <;> simp at hi
  | false => exact ((may_f u).1 h).2
theorem may_len {u : List UInt8} {s : Bool} (h : May u s) : u.length < 512 := by
  cases s with
  | true => rcases (may_t u).1 h with rfl | rfl <;> simp
  | false => exact ((may_f u).1 h).1

/-- The program's answer. -/
theorem feed_prog (u : List UInt8) (s : Bool) (X : List Int) (k : Nat) (h : May u s) (hX : X.length < 4000000000) (hk : X.length + 520 ≤ k) :
    frame_Feed.f k (bs u) s X = some (bs (st (scan u s (X.map by8)).2.1 (scan u s (X.map by8)).2.2).1, (st (scan u s (X.map by8)).2.1 (scan u s (X.map by8)).2.2).2, (scan u s (X.map by8)).1.map mkL, 0) := by
  have hu := may_len h
  unfold frame_Feed.f
  classical
  rw [may_is, decide_eq_true h]
  simp only [Option.bind_some]
  rw [if_pos trivial]
  unfold frame_Put.f
  rw [strOf_bs, bs_size, bs_size, if_pos (by simp; omega), bs_append, put_is (u.length + X.length) _ s [] k (by simp) (by omega) (by simp; omega) (by simp; omega)]
  have e : scan [] s (u ++ X.map by8) = scan u s (X.map by8) := by rw [scan_run s _ u [] (by simpa using noEnd_of_may h), List.nil_append]
  rw [show (X.map fun n => UInt8.ofNat n.toNat) = X.map by8 from rfl, e]
  simp
theorem feed_not (u : List UInt8) (s : Bool) (X : List Int) (k : Nat) (h : ¬ May u s) : frame_Feed.f k (bs u) s X = some (bs [], false, [], 1) := by
  unfold frame_Feed.f
  classical
  rw [may_is, decide_eq_false h]
  rfl
/-- The reference's. -/
theorem feed_ref (u : List UInt8) (s : Bool) (X : List Int) (k : Nat) (h : May u s) (hw : ∀ y ∈ X, (Lit.int .u8 y).wf = true) (hX : X.length < 4000000000) (hk : X.length < k) :
    pouchref1_Feed.f k (bs u) s X = some (bs (st (scan u s (X.map by8)).2.1 (scan u s (X.map by8)).2.2).1, (st (scan u s (X.map by8)).2.1 (scan u s (X.map by8)).2.2).2, (scan u s (X.map by8)).1.map mkL) := by
  have := feed_is X hw (by omega) X.length 0 u s [] k (by omega) hk (by simp; omega)
  rw [st_of_may h] at this
  unfold pouchref1_Feed.f
  refine Eq.trans this ?_
  simp
end Go.Proofs.Ytcaibcefgfolbaa
