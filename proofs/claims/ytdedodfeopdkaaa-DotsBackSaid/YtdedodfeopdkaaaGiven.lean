/- What of the library is met by a contract, and what is known of package-level variables. -/
import Derived.Test.YtdedodfeopdkaaaProg
import Derived.Test.YtdedodfeopdkaaaWWords
import Derived.Lib.IndexMore
import Derived.Test.YtdedodfeopdkaaaShelf
import Derived.Test.YtdedodfeopdkaaaAny3
import Derived.Test.YtdedodfeopdkaaaLay
namespace Go.Proofs.Ytdedodfeopdkaaa
open Go.RowKit Go.Lib Go.Proofs.YtdedodfeopdkaaaW.PrintWords

/-- Of the world: the cell of internal/bytealg.MaxLen holds some number. -/
structure GrOk (w : World) : Prop where
  ml : ∃ m, w.cell? ⟨0, 0, none⟩ = some (.int .i64 m)

theorem GrOk.below {w w1 : World} (h : GrOk w) (hb : Below w.heap.size w w1) : GrOk w1 := by
  obtain ⟨m, hm⟩ := h.ml
  exact ⟨m, (hb.cell (World.block_lt_of_cell? w _ hm)).trans hm⟩
theorem GrOk.drewN {w : World} {n : Nat} (h : GrOk w) : GrOk (w.drewN n) := by
  exact h.below (Drawn0.below ⟨⟨n, rfl⟩⟩)
theorem GrOk.drew {w : World} (h : GrOk w) : GrOk w.drew := by
  exact h.below ((Below.refl _ _).drew)

theorem wrap_left (a b : Int) : wrap64 (wrap64 a + b) = wrap64 (a + b) := by
  unfold wrap64
  have h := Int.emod_add_emod (a + 9223372036854775808) 18446744073709551616 b
  rw [show (a + 9223372036854775808) % 18446744073709551616 - 9223372036854775808 + b + 9223372036854775808 = (a + 9223372036854775808) % 18446744073709551616 + b by omega, h]
  rw [show a + 9223372036854775808 + b = a + b + 9223372036854775808 by omega]

def strings_Cut.f (a0 a1 : ByteArray) : Option (ByteArray × ByteArray × Bool) := if a0.size < 4294967281 then some (⟨(Lib.cut a0.data.toList a1.data.toList).1.toArray⟩, ⟨(Lib.cut a0.data.toList a1.data.toList).2.1.toArray⟩, (Lib.cut a0.data.toList a1.data.toList).2.2) else none

theorem strings_Cut.calls (a0 a1 : ByteArray) (r1 r2 : ByteArray) (r3 : Bool) (w : World) (hG : GrOk w) (h : strings_Cut.f a0 a1 = some (r1, r2, r3)) :
    Calls Try.prog 20 #[.string a0, .string a1] w fun e w' => e = .returned (.tuple #[.string r1, .string r2, .bool r3]) ∧ Drawn0 w w' := by
  obtain ⟨m, hm⟩ := hG.ml
  unfold strings_Cut.f at h
  split at h
  · rename_i hs
    refine (Try.strings_Cut a0 a1 m w hs hm).mono ?_
    rintro e w' ⟨rfl, n, rfl⟩
    simp only [Option.some.injEq, Prod.mk.injEq] at h
    obtain ⟨rfl, rfl, h3⟩ := h
    exact ⟨by rw [h3], ⟨n, rfl⟩⟩
  · cases h
/-- Each world in which a statement is asked is one. -/
theorem GrOk.of_shaped {w : World} (h : w.ShapedOpen Try.prog) : GrOk w := ⟨Try.laysM145.s1_3 w h⟩

def dots_Lay.f (a0 : ByteArray) : Option ByteArray := if a0.size ≤ 35184372088832 then some ⟨(layB true a0.data.toList ++ [46, 13, 10]).toArray⟩ else none
theorem dots_Lay.calls (a0 r : ByteArray) (w : World) (h : dots_Lay.f a0 = some r) :
    Calls Try.prog 18 #[.string a0] w fun e w' => e = .returned (.string r) ∧ Below w.heap.size w w' := by
  unfold dots_Lay.f at h
  split at h
  · rename_i hs
    obtain rfl := Option.some.inj h
    exact lay_calls a0 w hs
  · cases h
end Go.Proofs.Ytdedodfeopdkaaa
