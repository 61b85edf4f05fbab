/- What dots.Take, and its reference, answer. -/
import Derived.Test.YtdedodfeopdkaaaDotsB
import Derived.Test.YtdedodfeopdkaaaPDox3
namespace Go.Proofs.Ytdedodfeopdkaaa
set_option linter.unusedSimpArgs false
set_option linter.unusedVariables false
open Go.RowKit Go.Proofs.Ytdedodfeopdkaaa.PDo Go.Proofs.YtdedodfeopdkaaaW.PrintWords Go.Proofs.YtdedodfeopdkaaaW.PrintLast Go.Proofs.YtdedodfeopdkaaaW.PrintMore

def unT (A : List UInt8) : List UInt8 × Bool := if A = [46] then ([], true) else (if A.head? = some 46 then A.tail else A, false)
theorem take_f (A : List UInt8) : dots_Take.f (bs A) = some (bs (unT A).1, (unT A).2) := by
  unfold dots_Take.f unT
  rw [bs_toList]
  by_cases h : A = [46]
  · rw [if_pos h, if_pos h]; rfl
  · rw [if_neg h, if_neg h]
    unfold strings_TrimPrefix.f stringslite_TrimPrefix.f stringslite_HasPrefix.f
    rw [show (⟨#[46]⟩ : ByteArray) = bs [46] from rfl, bs_size, bs_size]
    cases A with
    | nil => rfl
    | cons c r =>
      rw [if_pos (by simp <;> omega), if_pos (by simp <;> omega), if_pos (by simp <;> omega), bs_extract, bs_toList, bs_toList]
      simp only [Option.bind_some]
      have e1 : ((c :: r).take (((([46] : List UInt8).length : Int)) : Int).toNat).drop 0 = [c] := rfl
      rw [e1]
      by_cases hc : c = 46
      · subst hc
        rw [if_pos (by decide), if_pos (by simp <;> omega), if_pos (by simp <;> omega), bs_extract]
        show some (_, false) = some (bs r, false)
        congr 2
        show bs (((46 :: r).take (46 :: r).length).drop 1) = bs r
        rw [List.take_length]; rfl
      · rw [if_neg (by simp [hc]), if_neg (by simp [hc])]
        rfl
theorem takeR_f (A : List UInt8) : pouchref1_Take.f (bs A) = some (bs (unT A).1, (unT A).2) := by
  unfold pouchref1_Take.f unT
  rw [bs_toList]
  by_cases h : A = [46]
  · rw [if_pos h, if_pos h]; rfl
  · rw [if_neg h, if_neg h, bs_size]
    cases A with
    | nil => rfl
    | cons c r =>
      rw [if_pos (by simp <;> omega), if_pos (by simp <;> omega), bt_at (c :: r) 0 0 rfl c rfl]
      by_cases hc : c = 46
      · subst hc
        rw [if_pos (by rfl), if_pos (by simp <;> omega), bs_extract]
        show some (_, false) = some (bs r, false)
        congr 2
        show bs (((46 :: r).take (46 :: r).length).drop 1) = bs r
        rw [List.take_length]; rfl
      · rw [if_neg (fun e => hc ((is46 c).1 e)), if_neg (by simp [hc])]
end Go.Proofs.Ytdedodfeopdkaaa
