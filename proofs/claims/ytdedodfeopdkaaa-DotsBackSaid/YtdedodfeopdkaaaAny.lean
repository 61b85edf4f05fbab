/- strings.ContainsAny at "\r\n", whatever the text's bytes. -/
import Derived.Test.YtdedodfeopdkaaaShelf
import Derived.Test.YtdedodfeopdkaaaWWords
import Derived.Laws.RangeAny
import Derived.Deep.QuietTactic
import Derived.BigQuiet
import Derived.Deep.LoopGhost
import Derived.Lib.Hide
import Derived.Scope
namespace Go.Proofs.Ytdedodfeopdkaaa
set_option linter.unusedSimpArgs false
set_option linter.unusedVariables false
open Go.RowKit Go.Lib Go.Proofs.YtdedodfeopdkaaaW.PrintWords

set_option maxHeartbeats 4000000 in
set_option maxRecDepth 100000 in
/-- strings.IndexRune at "\r\n" and a rune that is none of ASCII: none. -/
theorem idxRune_bad (w : World) (r : Int) (h0 : 128 ≤ r) (h1 : r ≤ 1114111) (hne : r ≠ 65533) (hv : Lib.validRune r = false) :
    Calls Try.prog 41 #[.string ⟨#[13, 10]⟩, .int .i32 r] w fun e w' => e = .returned (.int .i64 (-1)) ∧ Below w.heap.size w w' := by
  have e1 : (r == 65533) = false := beq_eq_false_iff_ne.2 hne
  have e2 : decide (r < 128) = false := decide_eq_false (by omega)
  go_enter Try.func41, Try.ntmps41
  go_wp2_with (go_at_call 47; refine (Try.utf8_ValidRune _ _).mono ?_; rintro e w' ⟨rfl, rfl⟩)
  go_ret
  exact ⟨rfl, Below.refl _ _⟩

set_option maxHeartbeats 4000000 in
set_option maxRecDepth 100000 in
theorem idxRune_err (w : World) :
    Calls Try.prog 41 #[.string ⟨#[13, 10]⟩, .int .i32 65533] w fun e w' => e = .returned (.int .i64 (-1)) ∧ Below w.heap.size w w' := by
  go_enter Try.func41, Try.ntmps41
  go_wp2
  go_loopg [5, 6] 2 (fun g _ _ wx => ∃ i : Nat, i + g = 2 ∧ wx = w.iter ⟨#[13, 10]⟩ i)
  case atStart => exact ⟨0, rfl, rfl⟩
  case round =>
    obtain ⟨i, hig, rfl⟩ := hrel
    match gk, i, hig with
    | 0, 2, _ =>
      have hnx := run_next_end (P := Try.prog) w ⟨#[13, 10]⟩ 2
      go_wp2
      go_ret
      exact ⟨rfl, (Below.refl _ _).alloc (Nat.le_refl _) _⟩
    | 1, 1, _ =>
      have hnx := fun ty => run_next_ascii (P := Try.prog) w ⟨#[13, 10]⟩ 1 ty (by decide) (by decide)
      go_wp2
      go_roundg 0
      case measure => omega
      case rel => exact ⟨2, rfl, rfl⟩
    | 2, 0, _ =>
      have hnx := fun ty => run_next_ascii (P := Try.prog) w ⟨#[13, 10]⟩ 0 ty (by decide) (by decide)
      go_wp2
      go_roundg 1
      case measure => omega
      case rel => exact ⟨1, rfl, rfl⟩

theorem enc_cases (r : Int) (h0 : 128 ≤ r) (h1 : r ≤ 1114111) : (∃ a b : UInt8, Utf8.encode r = ⟨#[a, b]⟩ ∧ 128 ≤ b.toNat) ∨ (∃ a b c : UInt8, Utf8.encode r = ⟨#[a, b, c]⟩) ∨ (∃ a b c d : UInt8, Utf8.encode r = ⟨#[a, b, c, d]⟩) := by
  unfold Utf8.encode
  have hc : 128 ≤ (if Utf8.valid r = true then r.toNat else Utf8.runeError) := by
    split
    · omega
    · decide
  generalize (if Utf8.valid r = true then r.toNat else Utf8.runeError) = c at hc
  simp only []
  rw [if_neg (by omega)]
  split
  · left
    refine ⟨_, _, rfl, ?_⟩
    rw [UInt8.toNat_ofNat_of_lt' (by show 128 + c % 64 < 256; omega)]
    omega
  · right
    split
    · left; exact ⟨_, _, _, rfl⟩
    · right; exact ⟨_, _, _, _, rfl⟩

set_option maxHeartbeats 4000000 in
set_option maxRecDepth 100000 in
theorem idxRune_good (w : World) (r : Int) (h0 : 128 ≤ r) (h1 : r ≤ 1114111) (hne : r ≠ 65533) (hv : Lib.validRune r = true) :
    Calls Try.prog 41 #[.string ⟨#[13, 10]⟩, .int .i32 r] w fun e w' => e = .returned (.int .i64 (-1)) ∧ Below w.heap.size w w' := by
  have e1 : (r == 65533) = false := beq_eq_false_iff_ne.2 hne
  have e2 : decide (r < 128) = false := decide_eq_false (by omega)
  rcases enc_cases r h0 h1 with ⟨a, b, henc, hb⟩ | ⟨a, b, c, henc⟩ | ⟨a, b, c, d, henc⟩
  · have hcv : ∀ W, (convert 21 9 (.int .i32 r)).run Try.prog W = .ok (.string ⟨#[a, b]⟩) W := fun W => by simp [convert, Try.underlying21, Try.underlying9, Conv.intToString, henc]
    clear henc
    have hb10 : ((10 : Int) == (b.toNat : Int)) = false := beq_eq_false_iff_ne.2 (by omega)
    have hb11 : ¬ (10 : Int) = (b.toNat : Int) := by omega
    have hg1 : ∀ h : 1 < (⟨#[13, 10]⟩ : ByteArray).size, (⟨#[13, 10]⟩ : ByteArray)[1]'h = 10 := fun _ => rfl
    have hg2 : ∀ h : 1 < (⟨#[a, b]⟩ : ByteArray).size, (⟨#[a, b]⟩ : ByteArray)[1]'h = b := fun _ => rfl
    have hg3 : ∀ c : UInt8, indexByte ByteArray.empty.data.toList c = -1 := fun _ => rfl
    go_enter Try.func41, Try.ntmps41
    go_wp2_with (go_at_call 47; refine (Try.utf8_ValidRune _ _).mono ?_; rintro e w' ⟨rfl, hw⟩; rw [hw]; clear hw)
    refine wp_scope_straight ?_
    go_wp2
    go_loopg [9, 10] 0 (fun g v9 v10 wx => v9 = .int .i64 1 ∧ v10 = .int .i64 0 ∧ wx = w)
    case atStart => exact ⟨rfl, rfl, rfl⟩
    case round =>
      obtain ⟨rfl, rfl, rfl⟩ := hrel
      go_wp2
      refine wp_scope_straight ?_
      go_wp2
      go_quiet (fail)
      go_wp2
      go_quiet ((go_at_call 31; refine (Try.strings_IndexByte _ _ _).mono ?_; rintro e w2 ⟨rfl, rfl⟩; (try first | exact ⟨rfl, _, rfl⟩)))
      go_wp2
      simp only [Exit.noGoto_ret, Exit.inBlock, Exit.then]
      go_ret
      exact ⟨rfl, by first | exact Below.refl _ _ | exact Drawn0.below ⟨⟨_, rfl⟩⟩ | (repeat (first | exact Below.refl _ _ | apply pw_below_drewN))⟩
  · have hcv : ∀ W, (convert 21 9 (.int .i32 r)).run Try.prog W = .ok (.string ⟨#[a, b, c]⟩) W := fun W => by simp [convert, Try.underlying21, Try.underlying9, Conv.intToString, henc]
    clear henc
    go_enter Try.func41, Try.ntmps41
    go_wp2_with (go_at_call 47; refine (Try.utf8_ValidRune _ _).mono ?_; rintro e w' ⟨rfl, hw⟩; rw [hw]; clear hw)
    refine wp_scope_straight ?_
    go_wp2
    go_loopg [9, 10] 0 (fun g v9 v10 wx => v9 = .int .i64 2 ∧ v10 = .int .i64 0 ∧ wx = w)
    case atStart => exact ⟨rfl, rfl, rfl⟩
    case round =>
      obtain ⟨rfl, rfl, rfl⟩ := hrel
      go_wp2
      rw [Exit.noGoto_ret]
      go_ret
      exact ⟨rfl, Below.refl _ _⟩
  · have hcv : ∀ W, (convert 21 9 (.int .i32 r)).run Try.prog W = .ok (.string ⟨#[a, b, c, d]⟩) W := fun W => by simp [convert, Try.underlying21, Try.underlying9, Conv.intToString, henc]
    clear henc
    go_enter Try.func41, Try.ntmps41
    go_wp2_with (go_at_call 47; refine (Try.utf8_ValidRune _ _).mono ?_; rintro e w' ⟨rfl, hw⟩; rw [hw]; clear hw)
    refine wp_scope_straight ?_
    go_wp2
    go_loopg [9, 10] 0 (fun g v9 v10 wx => v9 = .int .i64 3 ∧ v10 = .int .i64 0 ∧ wx = w)
    case atStart => exact ⟨rfl, rfl, rfl⟩
    case round =>
      obtain ⟨rfl, rfl, rfl⟩ := hrel
      go_wp2
      rw [Exit.noGoto_ret]
      go_ret
      exact ⟨rfl, Below.refl _ _⟩

end Go.Proofs.Ytdedodfeopdkaaa
