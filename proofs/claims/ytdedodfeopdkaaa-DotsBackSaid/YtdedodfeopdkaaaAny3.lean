/- strings.ContainsAny at "\r\n", whatever the text's bytes. -/
import Derived.Test.YtdedodfeopdkaaaAny2
namespace Go.Proofs.Ytdedodfeopdkaaa
set_option linter.unusedSimpArgs false
set_option linter.unusedVariables false
open Go.RowKit Go.Lib Go.Proofs.YtdedodfeopdkaaaW.PrintWords

theorem zero64 : ∀ w, (zeroValue 64).run Try.prog w = .ok (.agg (Array.replicate 256 (.bool false))) w := by
  first
    | exact Try.zeroValue64
    | (intro w; kernel_rfl)

theorem below_alloc2 (w : World) (a b : Obj) : Below w.heap.size w ((w.alloc a).alloc b) :=
  ((Below.refl _ _).alloc (Nat.le_refl _) _).alloc (by show w.heap.size ≤ (w.heap.push a).size; rw [Array.size_push]; exact Nat.le_succ _) _

theorem idxAny_crlf (s : ByteArray) (w : World) (hs : s.size < 4294967281) :
    Calls Try.prog 35 #[.string s, .string ⟨#[13, 10]⟩] w fun e w' => e = .returned (.int .i64 (Lib.indexAny s.data.toList [13, 10])) ∧ Below w.heap.size w w' := by
  by_cases h8 : s.size ≤ 8
  · exact idxAny_short s w h8
  · refine (Try.strings_IndexAny_long zero64 s ⟨#[13, 10]⟩ w (by decide) (by omega) hs (by decide) ?_).mono ?_
    · intro j b hb
      match j, hb with
      | 0, hb => simp at hb; subst hb; decide
      | 1, hb => simp at hb; subst hb; decide
      | j + 2, hb => simp at hb
    · rintro e w' ⟨rfl, rfl⟩
      exact ⟨rfl, below_alloc2 _ _ _⟩

def strings_ContainsAny.f (a0 a1 : ByteArray) : Option Bool := if a0.size < 4294967281 ∧ a1 = ⟨#[13, 10]⟩ then some (Lib.containsAny a0.data.toList [13, 10]) else none

set_option maxHeartbeats 4000000 in
theorem strings_ContainsAny.calls (a0 a1 : ByteArray) (r : Bool) (w : World) (h : strings_ContainsAny.f a0 a1 = some r) :
    Calls Try.prog 29 #[.string a0, .string a1] w fun e w' => e = .returned (.bool r) ∧ Below w.heap.size w w' := by
  unfold strings_ContainsAny.f at h
  split at h
  · rename_i hs
    obtain ⟨hs, rfl⟩ := hs
    obtain rfl := Option.some.inj h
    have c := idxAny_crlf a0 w hs
    go_enter Try.func29, Try.ntmps29
    go_wp2_with (go_at_call 35; refine c.mono ?_; rintro e w' ⟨rfl, hw⟩)
    go_ret
    exact ⟨rfl, hw⟩
  · cases h
end Go.Proofs.Ytdedodfeopdkaaa
