import Derived.Test.YtcaibcefgfolbaaSFrameParts
import Derived.Test.YtcaibcefgfolbaaFrameD
namespace Go.Proofs.Ytcaibcefgfolbaa.Pure
set_option linter.unusedSimpArgs false
set_option linter.unusedVariables false
open Go.RowKit Go.Proofs.Ytcaibcefgfolbaa Go.Proofs.Ytcaibcefgfolbaa.PFr Go.Proofs.YtcaibcefgfolbaaW.PrintWords Go.Proofs.YtcaibcefgfolbaaW.PrintLast Go.Proofs.YtcaibcefgfolbaaW.PrintMore

theorem tl_cases (u : List UInt8) : tl u = [] ∨ tl u = [13] := by
  unfold tl; split
  · exact Or.inr rfl
  · exact Or.inl rfl
theorem may_st {u : List UInt8} {s : Bool} (h : NoEnd u) : May (st u s).1 (st u s).2 := by
  unfold st
  by_cases hs : s = true ∨ 512 ≤ u.length
  · rw [if_pos hs]
    exact (may_t _).2 (tl_cases u)
  · rw [if_neg hs]
    have : ¬ 512 ≤ u.length := fun h' => hs (Or.inr h')
    exact (may_f _).2 ⟨by show u.length < 512; omega, h⟩
theorem tl_eq {u v : List UInt8} (h : tl u = tl v) : u.getLast? = some 13 ↔ v.getLast? = some 13 := by
  unfold tl at h
  by_cases h1 : u.getLast? = some 13 <;> by_cases h2 : v.getLast? = some 13 <;> simp_all
/-- What is told behind depends on what the framer has alone. -/
theorem scan_same : ∀ (Y u v : List UInt8) (s t : Bool), st u s = st v t → (scan u s Y).1 = (scan v t Y).1 ∧ st (scan u s Y).2.1 (scan u s Y).2.2 = st (scan v t Y).2.1 (scan v t Y).2.2
  | [], u, v, s, t, h => ⟨rfl, h⟩
  | c :: Y, u, v, s, t, h => by
    by_cases hu : s = true ∨ 512 ≤ u.length
    · have e : st u s = (tl u, true) := if_pos hu
      have hv : t = true ∨ 512 ≤ v.length := by
        by_cases hv : t = true ∨ 512 ≤ v.length
        · exact hv
        · rw [e, show st v t = (v, false) from if_neg hv] at h
          cases (Prod.mk.inj h).2
      rw [e, show st v t = (tl v, true) from if_pos hv] at h
      have h13 := tl_eq (Prod.mk.inj h).1
      have long : ∀ (z : List UInt8) (b : Bool), (b = true ∨ 512 ≤ z.length) → z.getLast? = some 13 → ln z.dropLast b = ([], true) := by
        intro z b hz h13
        have := (getLast_13 h13).1
        unfold ln
        rw [if_pos]
        rcases hz with h' | h'
        · exact Or.inl h'
        · right; rw [List.length_dropLast]; omega
      by_cases hc : u.getLast? = some 13 ∧ c = 10
      · rw [scan, scan, if_pos hc, if_pos ⟨h13.1 hc.1, hc.2⟩, long u s hu hc.1, long v t hv (h13.1 hc.1)]
        exact ⟨rfl, rfl⟩
      · rw [scan, scan, if_neg hc, if_neg (fun h' => hc ⟨h13.2 h'.1, h'.2⟩)]
        refine scan_same Y _ _ s t ?_
        have e1 : st (u ++ [c]) s = (tl (u ++ [c]), true) := if_pos (by rcases hu with h' | h'; exact Or.inl h'; right; simp; omega)
        have e2 : st (v ++ [c]) t = (tl (v ++ [c]), true) := if_pos (by rcases hv with h' | h'; exact Or.inl h'; right; simp; omega)
        rw [e1, e2]
        unfold tl
        rw [List.getLast?_concat, List.getLast?_concat]
    · have e : st u s = (u, false) := if_neg hu
      have hv : ¬ (t = true ∨ 512 ≤ v.length) := by
        intro hv
        rw [e, show st v t = (tl v, true) from if_pos hv] at h
        cases (Prod.mk.inj h).2
      rw [e, show st v t = (v, false) from if_neg hv] at h
      have huv := (Prod.mk.inj h).1
      have hs : s = false := by cases s; rfl; exact absurd (Or.inl rfl) hu
      have ht : t = false := by cases t; rfl; exact absurd (Or.inl rfl) hv
      subst huv hs ht
      exact ⟨rfl, rfl⟩
theorem within_is (a : Int) : ∃ t, pouchlaw0_Within.f a 100 = some t ∧ 0 ≤ t ∧ t < 100 := by
  unfold pouchlaw0_Within.f
  have h100 : IntKind.u64.wrap 100 = 100 := by decide
  rw [h100, if_neg (by decide)]
  have h0 : 0 ≤ IntKind.u64.wrap a := by rw [IntKind.wrap_u64]; omega
  have h1 := Int.tmod_nonneg 100 h0
  have h2 := Int.tmod_lt_of_pos (IntKind.u64.wrap a) (show (0 : Int) < 100 by decide)
  exact ⟨_, by rw [wrap_id (by omega) (by omega)], h1, h2⟩

theorem parts_loop (X S : List Int) (hX : X.length ≤ 5000) (hS : S.length ≤ 2000) (L : List S46) (ra : ByteArray) (sa : Bool)
    (hL : L = (scan [] false (X.map by8)).1.map mkL) (hra : ra = bs (st (scan [] false (X.map by8)).2.1 (scan [] false (X.map by8)).2.2).1) (hsa : sa = (st (scan [] false (X.map by8)).2.1 (scan [] false (X.map by8)).2.2).2) :
    ∀ (d at' i k : Nat), X.length ≤ at' + d → at' ≤ 10000 → i + d ≤ 5000 → 2 * d + 20000 < k →
      pouchlaw1_FrameParts.l0 k L 0 ((scan [] false ((X.map by8).take at')).1.map mkL) at' i X S ra sa
        (bs (st (scan [] false ((X.map by8).take at')).2.1 (scan [] false ((X.map by8).take at')).2.2).1) (st (scan [] false ((X.map by8).take at')).2.1 (scan [] false ((X.map by8).take at')).2.2).2 = some true := by
  intro d
  induction d with
  | zero =>
    intro at' i k h1 h2 h3 hk
    obtain ⟨k, rfl⟩ : ∃ m, k = m + 1 := ⟨k - 1, by omega⟩
    rw [pouchlaw1_FrameParts.l0, if_neg (by omega), List.take_of_length_le (by simp; omega)]
    unfold pouchlaw1_num.f
    simp only [Option.bind_some]
    have hsl := scan_len (X.map by8) [] false
    rw [List.length_map] at hsl
    rw [if_pos trivial, hra, hsa, if_pos (by simp), hL, eqL_is _ k (by rw [List.length_map]; omega) (by rw [List.length_map]; omega)]
    simp only [Option.bind_some]
    unfold frame_Check.f
    classical
    rw [if_pos trivial, may_is, decide_eq_true (may_st (scan_open _ [] false NoEnd.nil))]
    rfl
  | succ d ih =>
    intro at' i k h1 h2 h3 hk
    by_cases hge : X.length ≤ at' + d
    · exact ih at' i k hge h2 (by omega) (by omega)
    obtain ⟨k, rfl⟩ : ∃ m, k = m + 2 := ⟨k - 2, by omega⟩
    have hlt : at' < X.length := by omega
    -- one part
    have step : ∀ n : Int, 1 ≤ n → n ≤ 5000 → pouchlaw1_FrameParts.j2 (k + 1) L 0 ((scan [] false ((X.map by8).take at')).1.map mkL) at' i n X S ra sa
        (bs (st (scan [] false ((X.map by8).take at')).2.1 (scan [] false ((X.map by8).take at')).2.2).1) (st (scan [] false ((X.map by8).take at')).2.1 (scan [] false ((X.map by8).take at')).2.2).2 = some true := by
      intro n hn1 hn2
      obtain ⟨n, rfl⟩ : ∃ m : Nat, n = (m : Int) := ⟨n.toNat, by omega⟩
      have hw : wrap64 ((at' : Int) + (n : Int)) = ((at' + n : Nat) : Int) := by rw [wrap_id (by omega) (by omega)]; rfl
      have hmn : mn ((at' + n : Nat) : Int) (X.length : Int) = ((min (at' + n) X.length : Nat) : Int) := by unfold mn; omega
      rw [pouchlaw1_FrameParts.j2, hw, hmn, if_pos (by omega), if_pos (by omega), if_pos (by omega), Int.toNat_natCast, Int.toNat_natCast]
      have hopen := scan_open ((X.map by8).take at') [] false NoEnd.nil
      have hfeed := feed_prog _ _ ((X.take (min (at' + n) X.length)).drop at') k (may_st (s := (scan [] false ((X.map by8).take at')).2.2) hopen) (by simp; omega) (by simp; omega)
      have hsame := scan_same (((X.take (min (at' + n) X.length)).drop at').map by8) (st (scan [] false ((X.map by8).take at')).2.1 (scan [] false ((X.map by8).take at')).2.2).1 (scan [] false ((X.map by8).take at')).2.1 (st (scan [] false ((X.map by8).take at')).2.1 (scan [] false ((X.map by8).take at')).2.2).2 (scan [] false ((X.map by8).take at')).2.2 (st_of_may (may_st (s := (scan [] false ((X.map by8).take at')).2.2) hopen))
      rw [hfeed]
      simp only [Option.bind_some]
      unfold pouchlaw1_num.f
      simp only [Option.bind_some]
      have e1 : (X.map by8).take (at' + n) = (X.map by8).take at' ++ ((X.take (min (at' + n) X.length)).drop at').map by8 := by
        rw [List.map_drop, List.map_take, List.take_add, List.drop_take]
        congr 1
        rw [← List.length_map (f := by8)]
        rw [List.take_eq_take_iff]
        simp only [List.length_drop, List.length_map]
        omega
      have e2 := scan_two ((X.map by8).take at') (((X.take (min (at' + n) X.length)).drop at').map by8) [] false
      rw [← e1] at e2
      rw [hsame.1, hsame.2]
      have hs1 := scan_len ((X.map by8).take at') [] false
      have hs2 := scan_len (((X.take (min (at' + n) X.length)).drop at').map by8) (scan [] false ((X.map by8).take at')).2.1 (scan [] false ((X.map by8).take at')).2.2
      rw [if_pos trivial, if_pos (by simp at hs1 hs2 ⊢; omega), wrap_succ i (by omega), ← List.map_append]
      have := ih (at' + n) (i + 1) k (by omega) (by omega) (by omega) (by omega)
      rw [e2] at this
      exact this
    rw [pouchlaw1_FrameParts.l0, if_pos (by omega)]
    by_cases hi : (i : Int) < (S.length : Int)
    · obtain ⟨t, ht, t0, t1⟩ := within_is (rd S i)
      rw [if_pos hi, if_pos (by omega), ht]
      simp only [Option.bind_some]
      rw [wrap_id (by omega) (by omega)]
      exact step _ (by omega) (by omega)
    · rw [if_neg hi, wrap_id (n := (X.length : Int) / 7) (by omega) (by omega), wrap_id (by omega) (by omega)]
      exact step _ (by omega) (by omega)

theorem FrameParts : StFrameParts.Pure := by
  intro x hx
  obtain ⟨K, hK⟩ : ∃ K : Nat, 40000 < K := ⟨40001, by decide⟩
  refine ⟨K + 2, ?_⟩
  unfold pouchlaw1_FrameParts.f
  by_cases h1 : (x.1.length : Int) > 5000
  · rw [if_pos h1, pouchlaw1_FrameParts.j0, if_pos rfl]
  · rw [if_neg h1, pouchlaw1_FrameParts.j0]
    by_cases h2 : (x.2.length : Int) > 2000
    · rw [if_pos (decide_eq_true h2)]
    · rw [if_neg (by simpa using h2)]
      have hm : May [] false := (may_f _).2 ⟨by decide, NoEnd.nil⟩
      have := feed_prog [] false x.1 (K + 1) hm (by omega) (by omega)
      rw [show (⟨#[]⟩ : ByteArray) = bs [] from rfl, this]
      simp only [Option.bind_some]
      exact parts_loop x.1 x.2 (by omega) (by omega) _ _ _ rfl rfl rfl 5000 0 0 (K + 1) (by omega) (by omega) (by omega) (by omega)

end Go.Proofs.Ytcaibcefgfolbaa.Pure
