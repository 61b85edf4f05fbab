/- strings.ContainsAny at "\r\n", whatever the text's bytes: the rest. -/
import Derived.Test.YtdedodfeopdkaaaAny
import Derived.Lib.OthersKept
namespace Go.Proofs.Ytdedodfeopdkaaa
set_option linter.unusedSimpArgs false
set_option linter.unusedVariables false
open Go.RowKit Go.Lib Go.Proofs.YtdedodfeopdkaaaW.PrintWords

theorem decode_max (s : ByteArray) (pos : Nat) : (Utf8.decode s pos).1 ≤ 1114111 := by
  have hb : ∀ k, (s.get! (pos + k)).toNat < 256 := fun k => (s.get! (pos + k)).toNat_lt
  have h0 := hb 0; have h1 := hb 1; have h2 := hb 2; have h3 := hb 3
  simp only [Utf8.decode]
  repeat' split
  all_goals simp_all [Utf8.runeError, Utf8.valid]
  all_goals omega
/-- The bytes that a rune beyond ASCII takes are none of ASCII. -/
theorem decode_skip (s : ByteArray) (pos : Nat) (h : pos < s.size) (ha : 128 ≤ (s[pos]'h).toNat) (j : Nat) (b : UInt8) (h1 : pos ≤ j) (h2 : j < pos + (Utf8.decode s pos).2) (hj : s.data.toList[j]? = some b) : 128 ≤ b.toNat := by
  have hjl : j < s.size := by have := (List.getElem?_eq_some_iff.1 hj).1; rwa [data_length] at this
  have hbj : s.get! j = b := by
    have := (List.getElem?_eq_some_iff.1 hj).2
    rw [← this]
    simp [ByteArray.get!, hjl, getElem!_pos]
  have hb0 : s.get! (pos + 0) = s[pos]'h := by simp [ByteArray.get!, h, getElem!_pos]; rfl
  have hn : ¬ (s.get! (pos + 0)).toNat < 128 := by rw [hb0]; omega
  obtain ⟨d, rfl⟩ : ∃ d, j = pos + d := ⟨j - pos, by omega⟩
  cases d with
  | zero => rw [← hbj, hb0]; exact ha
  | succ d =>
    have hd : d + 1 < (Utf8.decode s pos).2 := by omega
    clear h2
    rw [← hbj]
    simp only [Utf8.decode, hn, if_false] at hd
    have key : ∀ k, (decide (pos + k < s.size) && (s.get! (pos + k)).toNat / 64 == 2) = true → 128 ≤ (s.get! (pos + k)).toNat := by
      intro k hk
      rw [Bool.and_eq_true, beq_iff_eq] at hk
      omega
    split at hd
    · rename_i hc
      rw [Bool.and_eq_true] at hc
      split at hd
      · have : d = 0 := by simp at hd; omega
        subst this
        exact key 1 hc.2
      · simp at hd
    · split at hd
      · rename_i hc
        rw [Bool.and_eq_true, Bool.and_eq_true] at hc
        split at hd
        · have : d = 0 ∨ d = 1 := by simp at hd; omega
          rcases this with rfl | rfl
          · exact key 1 hc.1.2
          · exact key 2 hc.2
        · simp at hd
      · split at hd
        · rename_i hc
          rw [Bool.and_eq_true, Bool.and_eq_true, Bool.and_eq_true] at hc
          split at hd
          · have : d = 0 ∨ d = 1 ∨ d = 2 := by simp at hd; omega
            rcases this with rfl | rfl | rfl
            · exact key 1 hc.1.1.2
            · exact key 2 hc.1.2
            · exact key 3 hc.2
          · simp at hd
        · simp at hd
theorem idxRune_high (w : World) (r : Int) (h0 : 128 ≤ r) (h1 : r ≤ 1114111) :
    Calls Try.prog 41 #[.string ⟨#[13, 10]⟩, .int .i32 r] w fun e w' => e = .returned (.int .i64 (-1)) ∧ Below w.heap.size w w' := by
  by_cases hne : r = 65533
  · subst hne; exact idxRune_err w
  · cases hv : Lib.validRune r with
    | true => exact idxRune_good w r h0 h1 hne hv
    | false => exact idxRune_bad w r h0 h1 hne hv
theorem NoAny.high {s : List UInt8} {i w : Nat} (h : Lib.NoAny s [13, 10] i) (hh : ∀ j b, i ≤ j → j < i + w → s[j]? = some b → 128 ≤ b.toNat) : Lib.NoAny s [13, 10] (i + w) := fun j b hj hb => by
  by_cases hji : j < i
  · exact h j b hji hb
  · have := hh j b (by omega) hj hb
    have h13 : b ≠ 13 := by rintro rfl; revert this; decide
    have h10 : b ≠ 10 := by rintro rfl; revert this; decide
    simp [h13, h10]

set_option maxHeartbeats 4000000 in
set_option maxRecDepth 1000000 in
theorem idxAny_short (s : ByteArray) (w : World) (h8 : s.size ≤ 8) :
    Calls Try.prog 35 #[.string s, .string ⟨#[13, 10]⟩] w fun e w' => e = .returned (.int .i64 (Lib.indexAny s.data.toList [13, 10])) ∧ Below w.heap.size w w' := by
  have h8z : decide ((8 : Int) < (s.size : Int)) = false := decide_eq_false (by omega)
  go_enter Try.func35, Try.ntmps35
  go_wp2_with (go_at_call 42; refine (Try.strings_shouldUseASCIISet _ _).mono ?_; rintro e w' ⟨rfl, hw⟩; rw [hw, h8z]; clear hw)
  go_loopg [9, 10] s.size (fun g _ _ wx => ∃ i : Nat, s.size ≤ i + g ∧ wx.heap[w.heap.size]? = some (.stringIter s i) ∧ Aside0 (Below w.heap.size w wx) ∧ Aside0 (Lib.NoAny s.data.toList [13, 10] i))
  case atStart => exact ⟨0, by omega, heap_alloc_new w _, ⟨(Below.refl _ _).alloc (Nat.le_refl _) _⟩, ⟨Lib.NoAny.zero _ _⟩⟩
  case round =>
    obtain ⟨i, hig, hit, HB, HN⟩ := hrel
    by_cases hi : i < s.size
    · cases gk with
      | zero => omega
      | succ g =>
        by_cases h128 : (s[i]'hi).toNat < 128
        · obtain ⟨x, hx⟩ : ∃ x : UInt8, s[i]'hi = x := ⟨_, rfl⟩
          have hxl : s.data.toList[i]? = some x := by rw [← hx]; exact Lib.data_getElem? s i hi
          rw [hx] at h128
          have hnx := fun ty => run_next_ascii_at (P := Try.prog) wr w.heap.size s i ty hit hi (by rw [hx]; exact h128)
          rw [hx] at hnx
          have Hx : Aside0 (s.data.toList[i]? = some x) := ⟨hxl⟩
          have hit2 : Aside0 ((wr.iterAt w.heap.size s (i + 1)).heap[w.heap.size]? = some (.stringIter s (i + 1))) := ⟨iterAt_heap _ _ _ _ _ hit⟩
          have HB2 : Aside0 (Below w.heap.size w (wr.iterAt w.heap.size s (i + 1))) := ⟨below_iterAt HB.out (Nat.le_refl _) _ _⟩
          clear hxl hx hit
          have hcon := Lib.contains_iff_indexByte [13, 10] x
          have hback : ((x.toNat : Int)).toNat.toUInt8 = x := by simp
          cases hin : ([13, 10] : List UInt8).contains x
          · rw [hin] at hcon
            have hlt : ¬ ((0 : Int) ≤ Lib.indexByte [13, 10] x) := of_decide_eq_false hcon.symm
            clear hcon
            go_wp2_with (go_at_call 41; refine (Try.strings_IndexRune_ascii _ _ _ (by omega) (by omega)).mono ?_; rintro e w' ⟨rfl, hw⟩; rw [hw, hback])
            go_roundg g
            case measure => omega
            case rel => exact ⟨i + 1, by omega, hit2.out, HB2, ⟨HN.out.succ Hx.out hin⟩⟩
          · rw [hin] at hcon
            have hge : (0 : Int) ≤ Lib.indexByte [13, 10] x := of_decide_eq_true hcon.symm
            clear hcon
            go_wp2_with (go_at_call 41; refine (Try.strings_IndexRune_ascii _ _ _ (by omega) (by omega)).mono ?_; rintro e w' ⟨rfl, hw⟩; rw [hw, hback])
            go_ret
            exact ⟨by rw [Lib.indexAny_hit HN.out Hx.out hin]; rfl, HB2.out⟩
        · have hnx := fun ty => run_next_any_at (P := Try.prog) wr w.heap.size s i ty hit hi
          have hd := decode_high s i hi (by omega)
          have hm := decode_max s i
          have HS : Aside0 (Lib.NoAny s.data.toList [13, 10] (i + (Utf8.decode s i).2)) := ⟨NoAny.high HN.out (fun j b h1 h2 h3 => decode_skip s i hi (by omega) j b h1 h2 h3)⟩
          generalize (Utf8.decode s i).1 = c at hnx hd hm
          generalize (Utf8.decode s i).2 = wd at hnx hd HS
          have hit2 : Aside0 ((wr.iterAt w.heap.size s (i + wd)).heap[w.heap.size]? = some (.stringIter s (i + wd))) := ⟨iterAt_heap _ _ _ _ _ hit⟩
          have HB2 : Aside0 (Below w.heap.size w (wr.iterAt w.heap.size s (i + wd))) := ⟨below_iterAt HB.out (Nat.le_refl _) _ _⟩
          clear hit
          go_wp2_with (go_at_call 41; refine (idxRune_high _ _ (by omega) (by omega)).mono ?_; rintro e w' ⟨rfl, hb⟩; have HB3 := Aside0.mk hb; clear hb)
          go_roundg g
          case measure => omega
          case rel => exact ⟨i + wd, by omega, (HB3.out.block _ (Array.getElem?_eq_some_iff.1 hit2.out).1).trans hit2.out, ⟨below_step HB2.out HB3.out⟩, HS⟩
    · have hnx := fun ty => run_next_end_at (P := Try.prog) wr w.heap.size s i ty hit hi
      clear hit
      go_wp2
      go_ret
      exact ⟨by rw [Lib.indexAny_none (fun j b hj hb => HN.out j b (by rw [data_length] at hj; omega) hb)]; rfl, HB.out⟩
end Go.Proofs.Ytdedodfeopdkaaa
