/- What the printed functions of a stream's lines answer, in the plain words of FrameA. -/
import Derived.Test.YtcaibcefgfolbaaFrameA
import Derived.Test.YtcaibcefgfolbaaPFrx3
import Derived.Test.YtcaibcefgfolbaaPFrx4
namespace Go.Proofs.Ytcaibcefgfolbaa
set_option linter.unusedSimpArgs false
set_option linter.unusedVariables false
open Go.RowKit Go.Proofs.YtcaibcefgfolbaaW.PrintWords Go.Proofs.YtcaibcefgfolbaaW.PrintLast Go.Proofs.YtcaibcefgfolbaaW.PrintMore Go.Proofs.Ytcaibcefgfolbaa.PFr

def mkL (p : List UInt8 × Bool) : S46 := ⟨bs p.1, p.2⟩
def by8 (n : Int) : UInt8 := UInt8.ofNat n.toNat
theorem by8_nat {n : Int} (h0 : 0 ≤ n) (h1 : n ≤ 255) : ((by8 n).toNat : Int) = n := by
  unfold by8
  rw [UInt8.toNat_ofNat_of_lt' (by show n.toNat < 256; omega)]
  omega
theorem by8_eq {n : Int} {c : UInt8} (h0 : 0 ≤ n) (h1 : n ≤ 255) : by8 n = c ↔ n = (c.toNat : Int) := by
  constructor
  · rintro rfl; exact (by8_nat h0 h1).symm
  · intro h
    apply UInt8.toNat_inj.1
    have := by8_nat h0 h1
    omega
theorem wf_u8 {y : Int} (h : (Lit.int .u8 y).wf = true) : 0 ≤ y ∧ y ≤ 255 := by
  simp [Lit.wf, IntKind.min, IntKind.max, IntKind.signed, IntKind.bits] at h
  omega

theorem ends_gen (s : List UInt8) (hs : s.length ≤ 4611686018427387904) : pouchref1_ends.f (bs s) = some (decide (2 ≤ s.length ∧ s[s.length - 2]? = some 13 ∧ s[s.length - 1]? = some 10)) := by
  unfold pouchref1_ends.f
  rw [bs_size]
  by_cases h2 : 2 ≤ s.length
  · rw [wrap_id (by omega) (by omega), wrap_id (by omega) (by omega), if_pos (by omega), if_pos (by omega), if_pos (by omega)]
    have k1 : ((s.length : Int) - 2).toNat = s.length - 2 := by omega
    have k2 : ((s.length : Int) - 1).toNat = s.length - 1 := by omega
    rw [bt_bs _ _ (by omega), bt_bs _ _ (by omega)]
    simp only [k1, k2]
    rw [List.getElem?_eq_getElem (by omega), List.getElem?_eq_getElem (by omega)]
    by_cases h13 : s[s.length - 2] = 13
    · rw [if_pos (by rw [h13]; rfl), if_pos (by omega), if_pos (by omega)]
      congr 1
      rw [Bool.eq_iff_iff]
      simp only [beq_iff_eq, decide_eq_true_eq, Option.some.injEq]
      constructor
      · intro h
        exact ⟨h2, h13, UInt8.toNat_inj.1 (by have : (10 : UInt8).toNat = 10 := rfl; omega)⟩
      · rintro ⟨_, _, h⟩
        rw [h]; rfl
    · rw [if_neg (fun h => h13 (UInt8.toNat_inj.1 (by have : (13 : UInt8).toNat = 13 := rfl; omega)))]
      congr 1
      symm
      rw [decide_eq_false_iff_not]
      rintro ⟨_, h, _⟩
      exact h13 (Option.some.inj h)
  · rw [if_neg (by omega)]
    congr 1
    symm
    rw [decide_eq_false_iff_not]
    rintro ⟨h, _⟩
    exact h2 h
theorem ends_snoc (u : List UInt8) (c : UInt8) (hs : u.length < 4611686018427387904) : pouchref1_ends.f (bs (u ++ [c])) = some (decide (u.getLast? = some 13 ∧ c = 10)) := by
  rw [ends_gen _ (by simp; omega)]
  congr 1
  rw [Bool.eq_iff_iff, decide_eq_true_eq, decide_eq_true_eq, List.getLast?_eq_getElem?]
  simp only [List.length_append, List.length_cons, List.length_nil]
  rw [show u.length + (0 + 1) - 1 = u.length by omega, List.getElem?_append_right (Nat.le_refl _), Nat.sub_self]
  constructor
  · rintro ⟨h1, h2, h3⟩
    rw [List.getElem?_append_left (by omega), show u.length + (0 + 1) - 2 = u.length - 1 by omega] at h2
    exact ⟨h2, by simpa using h3⟩
  · rintro ⟨h1, rfl⟩
    have hl : u.length - 1 < u.length := (List.getElem?_eq_some_iff.1 h1).1
    refine ⟨by omega, ?_, rfl⟩
    rw [List.getElem?_append_left (by omega), show u.length + (0 + 1) - 2 = u.length - 1 by omega]
    exact h1
theorem tail_is {n : Int} (h0 : 0 ≤ n) (h1 : n ≤ 255) (u : List UInt8) : pouchref1_tail.f n = some (bs (tl (u ++ [by8 n]))) := by
  unfold pouchref1_tail.f tl
  rw [List.getLast?_concat]
  have e := by8_eq (c := 13) h0 h1
  by_cases h : n = 13
  · rw [if_pos h, if_pos (by rw [e.2 h])]; rfl
  · rw [if_neg h, if_neg (fun h' => h (e.1 (Option.some.inj h')))]; rfl
theorem suffix_is (u : List UInt8) (hs : u.length ≤ 4611686018427387904) : strings_HasSuffix.f (bs u) (⟨#[13]⟩ : ByteArray) = some (decide (u.getLast? = some 13)) := by
  unfold strings_HasSuffix.f stringslite_HasSuffix.f
  rw [show (⟨#[13]⟩ : ByteArray) = bs [13] from rfl, bs_size, bs_size, bs_toList]
  simp only [List.length_cons, List.length_nil]
  by_cases h : 1 ≤ u.length
  · rw [if_pos (by omega), wrap_id (by omega) (by omega), if_pos (by omega), if_pos (by omega), bs_extract, bs_toList]
    simp only [Option.bind_some]
    congr 1
    rw [Bool.eq_iff_iff, beq_iff_eq, decide_eq_true_eq, List.take_length, show ((u.length : Int) - ((0 + 1 : Nat) : Int)).toNat = u.length - 1 by omega, List.getLast?_eq_getElem?, List.drop_eq_getElem_cons (by omega), show u.length - 1 + 1 = u.length by omega, List.drop_length, List.getElem?_eq_getElem (by omega)]
    simp
  · rw [if_neg (by omega)]
    simp only [Option.bind_some]
    congr 1
    symm
    rw [decide_eq_false_iff_not]
    have : u = [] := List.length_eq_zero_iff.1 (by omega)
    subst this
    simp
theorem cut_is (k : Nat) (u : List UInt8) (s : Bool) (hs : u.length ≤ 4611686018427387904) : frame_cut.f (k + 1) (bs u) s = some (bs (st u s).1, (st u s).2) := by
  have key : frame_cut.j0 (k + 1) false (bs u) s = some (bs (tl u), true) := by
    rw [frame_cut.j0, if_neg (by decide), suffix_is u hs]
    simp only [Option.bind_some]
    unfold tl
    by_cases h : u.getLast? = some 13
    · rw [if_pos h, if_pos (decide_eq_true h)]; rfl
    · rw [if_neg h, if_neg (by simp [h])]; rfl
  unfold frame_cut.f st
  cases s with
  | true => rw [if_pos rfl, if_pos (Or.inl rfl), key]
  | false =>
    rw [if_neg (by decide), bs_size]
    by_cases h : 512 ≤ u.length
    · rw [if_pos (Or.inr h), show decide ((u.length : Int) < 512) = false from decide_eq_false (by omega), key]
    · rw [if_neg (by simp; omega), show decide ((u.length : Int) < 512) = true from decide_eq_true (by omega), frame_cut.j0, if_pos rfl]
theorem line_is (u : List UInt8) (s : Bool) (hs : u.length ≤ 4611686018427387904) : frame_line.f (bs u) s = some (bs (ln u s).1, (ln u s).2) := by
  unfold frame_line.f ln
  cases s with
  | true => rw [if_pos rfl, if_pos (Or.inl rfl)]; rfl
  | false =>
    rw [if_neg (by decide), bs_size, wrap_id (by omega) (by omega)]
    by_cases h : 512 < u.length + 2
    · rw [if_pos (by omega), if_pos (Or.inr h)]; rfl
    · rw [if_neg (by omega), if_neg (by simp; omega)]

/-- All that a framer is given, parted at the ends of lines. -/
theorem put_is : ∀ (n : Nat) (a : List UInt8) (s : Bool) (out : List S46) (k : Nat), a.length ≤ n → n + 2 ≤ k → a.length < 4294967281 → out.length + a.length < 5864062014805 →
    frame_Put.l0 k out (bs a) s = some (bs (st (scan [] s a).2.1 (scan [] s a).2.2).1, (st (scan [] s a).2.1 (scan [] s a).2.2).2, out ++ (scan [] s a).1.map mkL) := by
  intro n
  induction n with
  | zero =>
    intro a s out k ha hk h1 h2
    obtain ⟨k, rfl⟩ : ∃ m, k = m + 2 := ⟨k - 2, by omega⟩
    obtain rfl : a = [] := List.length_eq_zero_iff.1 (by omega)
    rw [frame_Put.l0]
    unfold strings_Cut.f
    rw [if_pos (by rw [bs_size]; exact h1), bs_dt, show (⟨#[13, 10]⟩ : ByteArray).data.toList = [13, 10] from rfl, cut_no NoEnd.nil]
    simp only [Option.bind_some]
    rw [if_neg (by decide), cut_is (k := k) [] s (by simp)]
    simp [scan]
  | succ n ih =>
    intro a s out k ha hk h1 h2
    obtain ⟨k, rfl⟩ : ∃ m, k = m + 2 := ⟨k - 2, by omega⟩
    rw [frame_Put.l0]
    unfold strings_Cut.f
    rw [if_pos (by rw [bs_size]; exact h1), bs_dt, show (⟨#[13, 10]⟩ : ByteArray).data.toList = [13, 10] from rfl]
    by_cases hi : 0 ≤ Lib.index a [13, 10]
    · obtain ⟨p, X, rfl, hno, hc⟩ := index_at hi
      simp only [List.length_append, List.length_cons] at ha h1 h2
      rw [hc]
      simp only [Option.bind_some]
      rw [if_pos trivial, show (⟨p.toArray⟩ : ByteArray) = bs p from rfl, line_is p s (by omega)]
      simp only [Option.bind_some]
      rw [if_pos (by omega), show (⟨X.toArray⟩ : ByteArray) = bs X from rfl, ih X false _ (k + 1) (by omega) (by omega) (by omega) (by simp; omega)]
      have e : scan [] s (p ++ 13 :: 10 :: X) = (ln p s :: (scan [] false X).1, (scan [] false X).2) := by
        rw [show p ++ 13 :: 10 :: X = (p ++ [13]) ++ 10 :: X by simp, scan_run s _ (p ++ [13]) [] (by simpa using hno), List.nil_append, scan_end]
      rw [e]
      simp [mkL]
    · have hno : NoEnd a := index_no (by have := Lib.index_ge a [13, 10]; omega)
      rw [cut_no hno]
      simp only [Option.bind_some]
      rw [if_neg (by decide), cut_is (k := k) a s (by omega)]
      have e : scan [] s a = ([], a, s) := by
        have := scan_run s [] a [] (by simpa using hno)
        rw [List.append_nil, List.nil_append] at this
        rw [this]; rfl
      rw [e]
      simp

/-- The reference's machine, byte by byte. -/
theorem feed_is (X : List Int) (hX : ∀ y ∈ X, (Lit.int .u8 y).wf = true) (hl : X.length < 4611686018427387904) : ∀ (d i : Nat) (u : List UInt8) (s : Bool) (out : List S46) (k : Nat), i + d = X.length → d < k → out.length + d < 5864062014805 →
    pouchref1_Feed.l0 k X out i (bs (st u s).1) (st u s).2 = some (bs (st (scan u s ((X.map by8).drop i)).2.1 (scan u s ((X.map by8).drop i)).2.2).1, (st (scan u s ((X.map by8).drop i)).2.1 (scan u s ((X.map by8).drop i)).2.2).2, out ++ (scan u s ((X.map by8).drop i)).1.map mkL) := by
  intro d
  induction d with
  | zero =>
    intro i u s out k hi hk ho
    obtain ⟨k, rfl⟩ : ∃ m, k = m + 1 := ⟨k - 1, by omega⟩
    rw [pouchref1_Feed.l0, if_neg (by omega), List.drop_eq_nil_of_le (by simp; omega)]
    simp [scan]
  | succ d ih =>
    intro i u s out k hi hk ho
    obtain ⟨k, rfl⟩ : ∃ m, k = m + 1 := ⟨k - 1, by omega⟩
    have hlt : i < X.length := by omega
    have hw := wf_u8 (hX X[i] (List.getElem_mem hlt))
    have hrd : rd X (i : Int) = X[i] := by unfold rd; rw [Int.toNat_natCast, List.getD_eq_getElem?_getD, List.getElem?_eq_getElem hlt]; rfl
    have hcs : (X.map by8).drop i = by8 X[i] :: (X.map by8).drop (i + 1) := by rw [List.drop_eq_getElem_cons (by simpa using hlt)]; simp
    have hwr : wrap64 ((i : Int) + 1) = ((i + 1 : Nat) : Int) := by rw [wrap_id (by omega) (by omega)]; rfl
    have h10 : X[i] = 10 ↔ by8 X[i] = 10 := (by8_eq (c := 10) hw.1 hw.2).symm
    rw [pouchref1_Feed.l0, if_pos (by omega), if_pos (by omega), hrd, hwr, hcs]
    by_cases hs : s = true ∨ 512 ≤ u.length
    · -- passed over
      have e : st u s = (tl u, true) := if_pos hs
      have step : pouchref1_Feed.l0 k X out ((i + 1 : Nat) : Int) (bs (tl (u ++ [by8 X[i]]))) true = pouchref1_Feed.l0 k X out ((i + 1 : Nat) : Int) (bs (st (u ++ [by8 X[i]]) s).1) (st (u ++ [by8 X[i]]) s).2 := by
        have e2 : st (u ++ [by8 X[i]]) s = (tl (u ++ [by8 X[i]]), true) := if_pos (by rcases hs with h | h; exact Or.inl h; right; simp; omega)
        rw [e2]
      rw [e]
      simp only []
      rw [if_pos trivial, bs_toList, tail_is hw.1 hw.2 u]
      simp only [Option.bind_some]
      by_cases h13 : u.getLast? = some 13
      · rw [if_pos (by unfold tl; rw [if_pos h13])]
        by_cases hten : X[i] = 10
        · rw [if_pos hten, if_pos (by omega), scan, if_pos ⟨h13, h10.1 hten⟩]
          have hln : ln u.dropLast s = ([], true) := by
            unfold ln
            rw [if_pos]
            rcases hs with h | h
            · exact Or.inl h
            · right; rw [List.length_dropLast]; omega
          rw [hln]
          refine Eq.trans (ih (i + 1) [] false (out ++ [(⟨bs [], true⟩ : S46)]) k (by omega) (by omega) (by simp; omega)) ?_
          simp [mkL]
        · rw [if_neg hten, scan, if_neg (fun h => hten (h10.2 h.2)), step, ih (i + 1) (u ++ [by8 X[i]]) s out k (by omega) (by omega) (by omega)]
      · rw [if_neg (by unfold tl; rw [if_neg h13]; simp), scan, if_neg (fun h => h13 h.1), step, ih (i + 1) (u ++ [by8 X[i]]) s out k (by omega) (by omega) (by omega)]
    · have e : st u s = (u, false) := if_neg hs
      have hsf : s = false := by cases s; rfl; exact absurd (Or.inl rfl) hs
      have hul : u.length < 512 := by have : ¬ 512 ≤ u.length := fun h => hs (Or.inr h); omega
      subst hsf
      rw [e]
      simp only []
      have hstr : strOfNums ((X.take ((i + 1 : Nat) : Int).toNat).drop (i : Int).toNat) = bs [by8 X[i]] := by
        rw [strOf_bs, Int.toNat_natCast, Int.toNat_natCast, List.drop_take, show i + 1 - i = 1 by omega, List.drop_eq_getElem_cons hlt]
        rfl
      rw [if_neg (by decide), if_pos (by omega), if_pos (by omega), hstr, bs_append, bs_size, bs_size, if_pos (by simp; omega), ends_snoc u _ (by omega)]
      simp only [Option.bind_some]
      by_cases hend : u.getLast? = some 13 ∧ by8 X[i] = 10
      · have h0 : 0 < u.length := (getLast_13 hend.1).1
        rw [if_pos (decide_eq_true hend), bs_size, wrap_id (by simp; omega) (by simp; omega), if_pos (by simp; omega), if_pos (by omega), if_pos (by omega), scan, if_pos hend, bs_extract]
        have hx : List.drop 0 (List.take ((((u ++ [by8 X[i]]).length : Nat) : Int) - 2).toNat (u ++ [by8 X[i]])) = u.dropLast := by
          rw [List.drop_zero, show ((((u ++ [by8 X[i]]).length : Nat) : Int) - 2).toNat = u.length - 1 by simp; omega, List.take_append_of_le_length (by omega), List.dropLast_eq_take]
        rw [hx]
        have hln : ln u.dropLast false = (u.dropLast, false) := by
          unfold ln
          rw [if_neg]
          rintro (h | h)
          · cases h
          · rw [List.length_dropLast] at h; omega
        have := ih (i + 1) [] false (out ++ [(⟨bs u.dropLast, false⟩ : S46)]) k (by omega) (by omega) (by simp; omega)
        rw [hln]
        refine Eq.trans this ?_
        simp [mkL]
      · rw [if_neg (by simpa using hend), scan, if_neg hend, bs_size]
        by_cases h512 : ((u ++ [by8 X[i]]).length : Int) ≥ 512
        · rw [if_pos h512, tail_is hw.1 hw.2 u]
          simp only [Option.bind_some]
          have e2 : st (u ++ [by8 X[i]]) false = (tl (u ++ [by8 X[i]]), true) := if_pos (Or.inr (by omega))
          have := ih (i + 1) (u ++ [by8 X[i]]) false out k (by omega) (by omega) (by omega)
          rw [e2] at this
          exact this
        · rw [if_neg h512]
          have e2 : st (u ++ [by8 X[i]]) false = (u ++ [by8 X[i]], false) := if_neg (by rintro (h | h); cases h; omega)
          have := ih (i + 1) (u ++ [by8 X[i]]) false out k (by omega) (by omega) (by omega)
          rw [e2] at this
          exact this
end Go.Proofs.Ytcaibcefgfolbaa
