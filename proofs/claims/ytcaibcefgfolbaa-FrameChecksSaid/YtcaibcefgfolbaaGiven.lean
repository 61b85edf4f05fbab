/- What of the library is met by a contract, and what is known of package-level variables. -/
import Derived.Test.YtcaibcefgfolbaaProg
import Derived.Test.YtcaibcefgfolbaaWWords
import Derived.Lib.IndexMore
import Derived.Test.YtcaibcefgfolbaaShelf
namespace Go.Proofs.Ytcaibcefgfolbaa
open Go.RowKit Go.Lib Go.Proofs.YtcaibcefgfolbaaW.PrintWords

/-- Of the world: the cell of internal/bytealg.MaxLen holds some number. -/
structure GrOk (w : World) : Prop where
  ml : ∃ m, w.cell? ⟨0, 0, none⟩ = some (.int .i64 m)

theorem GrOk.below {w w1 : World} (h : GrOk w) (hb : Below w.heap.size w w1) : GrOk w1 := by
  obtain ⟨m, hm⟩ := h.ml
  exact ⟨m, (hb.cell (World.block_lt_of_cell? w _ hm)).trans hm⟩
theorem GrOk.drewN {w : World} {n : Nat} (h : GrOk w) : GrOk (w.drewN n) := by
  exact h.below (Drawn0.below ⟨⟨n, rfl⟩⟩)
theorem GrOk.drew {w : World} (h : GrOk w) : GrOk w.drew := by
  exact h.below ((Below.refl _ _).drew)

def strings_Contains.f (a0 a1 : ByteArray) : Option Bool := if a0.size < 4294967281 then some (Lib.contains a0.data.toList a1.data.toList) else none
def strings_Cut.f (a0 a1 : ByteArray) : Option (ByteArray × ByteArray × Bool) := if a0.size < 4294967281 then some (⟨(Lib.cut a0.data.toList a1.data.toList).1.toArray⟩, ⟨(Lib.cut a0.data.toList a1.data.toList).2.1.toArray⟩, (Lib.cut a0.data.toList a1.data.toList).2.2) else none

theorem strings_Contains.calls (a0 a1 : ByteArray) (r : Bool) (w : World) (hG : GrOk w) (h : strings_Contains.f a0 a1 = some r) :
    Calls Try.prog 22 #[.string a0, .string a1] w fun e w' => e = .returned (.bool r) ∧ Drawn0 w w' := by
  obtain ⟨m, hm⟩ := hG.ml
  unfold strings_Contains.f at h
  split at h
  · rename_i hs
    refine (Try.strings_Contains a0 a1 m w hs hm).mono ?_
    rintro e w' ⟨rfl, rfl⟩
    exact ⟨by rw [Option.some.inj h], Drawn0.refl _⟩
  · cases h
theorem strings_Cut.calls (a0 a1 : ByteArray) (r1 r2 : ByteArray) (r3 : Bool) (w : World) (hG : GrOk w) (h : strings_Cut.f a0 a1 = some (r1, r2, r3)) :
    Calls Try.prog 23 #[.string a0, .string a1] w fun e w' => e = .returned (.tuple #[.string r1, .string r2, .bool r3]) ∧ Drawn0 w w' := by
  obtain ⟨m, hm⟩ := hG.ml
  unfold strings_Cut.f at h
  split at h
  · rename_i hs
    refine (Try.strings_Cut a0 a1 m w hs hm).mono ?_
    rintro e w' ⟨rfl, n, rfl⟩
    simp only [Option.some.injEq, Prod.mk.injEq] at h
    obtain ⟨rfl, rfl, h3⟩ := h
    exact ⟨by rw [h3], ⟨n, rfl⟩⟩
  · cases h
/-- Each world in which a statement is asked is one. -/
theorem GrOk.of_shaped {w : World} (h : w.ShapedOpen Try.prog) : GrOk w := ⟨Try.laysM143.s1_3 w h⟩
end Go.Proofs.Ytcaibcefgfolbaa
