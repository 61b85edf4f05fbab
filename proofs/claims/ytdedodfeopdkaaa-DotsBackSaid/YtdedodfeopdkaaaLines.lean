/- strings.Lines' iterator: each line handed to yield, for a loop body that never leaves. -/
import Derived.RangeFuncNested
import Derived.RangeFuncBound
import Derived.RangeFuncCalls
import Derived.RangeFuncLeaves
import Derived.Shelf.Abstract
import Derived.Shelf.RegionOpen
import Derived.WalkKit
import Derived.OwnWalkIn
import Derived.TacticsInMore
import Derived.LoopNIn
import Derived.LoopIn
import Derived.Test.YtdedodfeopdkaaaBuild
namespace Go.Proofs.Ytdedodfeopdkaaa
set_option linter.unusedSimpArgs false
set_option linter.unusedVariables false
open Go.RowKit Go.Shelf Go.Lib
attribute [local go_sem] Oper.semAt_some

theorem dlen (s : ByteArray) : s.data.toList.length = s.size := by rw [Array.length_toList]; rfl
/-- A line: not empty, no byte 10 in it but at its end; and it ends so, or nothing comes behind it. -/
structure IsLine (line rest : List UInt8) : Prop where
  ne : line ≠ []
  no : ∀ j, j + 1 < line.length → line[j]? ≠ some 10
  fin : line.getLast? = some 10 ∨ rest = []

/-- How long the string is that block c holds. -/
def leftIn (c : Nat) (w : World) : Nat := match w.heap[c]? with
  | some (.cells cs _ _) => (match cs[0]? with | some (Value.string r) => r.size | _ => 0)
  | _ => 0
theorem leftIn_eq {c : Nat} {w : World} {r : ByteArray} (h : w.heap[c]? = some (.cells #[.string r] 9 (0, 0))) : leftIn c w = r.size := by
  simp [leftIn, h]

set_option maxHeartbeats 4000000 in
set_option maxRecDepth 100000 in
theorem lines_in (n : Nat) (hn : 1 ≤ n) (l c : Nat) (J : ByteArray → World → Prop)
    (hc : ∀ rest W, J rest W → W.heap[c]? = some (.cells #[.string rest] 9 (0, 0)))
    (hm : ∀ rest W, J rest W → rest.size ≤ 35184372088832)
    (hd : ∀ rest W, J rest W → J rest W.drew)
    (hY : ∀ s line rest W, J s W → s.data.toList = line.data.toList ++ rest.data.toList → IsLine line.data.toList rest.data.toList →
      YieldAt Fence.wide (n - 1) Try.prog l #[.string line] (W.setCell ⟨c, 0, none⟩ (.string rest)) fun e W' => e = .returned (.bool true) ∧ J rest W')
    (s : ByteArray) (W : World) (h0 : J s W) :
    CallsIn Fence.wide n Try.prog 30 #[.func (.yield l) #[] #[], .pointer (some ⟨c, 0, none⟩)] W fun e W' => (∃ v, e = .returned v) ∧ J .empty W' := by
  refine callsIn_of_wp Try.func30 rfl trivial ?_ rfl
  simp only [Try.ntmps30, List.size_toArray, List.length_cons, List.length_nil, Nat.reduceAdd, Nat.reduceSub, Array.replicate_succ, Array.replicate_zero, List.push_toArray, List.append_toArray, List.nil_append, List.cons_append]
  gi_wp2
  gi_loopw [3] (fun _ wr => ∃ rest, J rest wr) (fun _ wr => leftIn c wr)
  case atStart => exact ⟨s, h0⟩
  case round =>
    obtain ⟨rest, hJ⟩ := hrel
    have hh := hc rest _ hJ
    have hl := leftIn_eq hh
    have c1 : wr.cell? ⟨c, 0, none⟩ = some (.string rest) := by rw [Lib.cell_of_heap hh]; rfl
    have f1 : wr.frozen? ⟨c, 0, none⟩ = false := Lib.frozen_of_heap hh 0
    by_cases h0 : 0 < rest.size
    · have hz : decide ((0 : Int) < (rest.size : Int)) = true := decide_eq_true (by omega)
      by_cases hi : (0 : Int) ≤ Lib.indexByte rest.data.toList 10
      · have hz2 : decide ((0 : Int) ≤ Lib.indexByte rest.data.toList 10) = true := decide_eq_true hi
        obtain ⟨o, ho⟩ : ∃ o : Nat, Lib.indexByte rest.data.toList 10 = o := ⟨(Lib.indexByte rest.data.toList 10).toNat, by omega⟩
        obtain ⟨hoa, hob⟩ := Lib.indexByte_some ho
        have hlt : o < rest.data.toList.length := (List.getElem?_eq_some_iff.1 hoa).1
        have hlt' : o < rest.size := by rw [← dlen]; exact hlt
        have hsz := hm rest _ hJ
        have hwr : wrap64 (Lib.indexByte rest.data.toList 10 + 1) = ((o + 1 : Nat) : Int) := by rw [ho]; unfold wrap64; omega
        have hlo : (0 : Int) ≤ wrap64 (Lib.indexByte rest.data.toList 10 + 1) := by omega
        have hhi : wrap64 (Lib.indexByte rest.data.toList 10 + 1) ≤ (rest.size : Int) := by omega
        have hto : (wrap64 (Lib.indexByte rest.data.toList 10 + 1)).toNat = o + 1 := by omega
        have hL1 : (rest.extract 0 (o + 1)).data.toList = rest.data.toList.take (o + 1) := by simp
        have hL2 : (rest.extract (o + 1) rest.size).data.toList = rest.data.toList.drop (o + 1) := by
          rw [show rest.size = rest.data.toList.length from (dlen _).symm]
          simp
          rw [List.take_of_length_le]
          simp
        obtain ⟨fn, tmps, assign, body, hy, hR⟩ := hY rest (rest.extract 0 (o + 1)) (rest.extract (o + 1) rest.size) wr.drew (hd _ _ hJ)
          (by rw [hL1, hL2, List.take_append_drop]) (by
            rw [hL1, hL2]
            refine ⟨fun e => ?_, fun j hj => ?_, .inl ?_⟩
            · have := congrArg List.length e; rw [List.length_take, List.length_nil] at this; omega
            · rw [List.length_take] at hj
              rw [List.getElem?_take_of_lt (by omega)]
              exact hob j (by omega)
            · rw [List.getLast?_eq_getElem?, List.length_take, show min (o + 1) rest.data.toList.length - 1 = o by omega, List.getElem?_take_of_lt (by omega)]
              exact hoa)
        change (Instr.yield l #[Value.string (rest.extract 0 (o + 1))]).run Try.prog (wr.setCell ⟨c, 0, none⟩ (Value.string (rest.extract (o + 1) rest.size))).drew = _ at hy
        change RoundIn _ _ _ _ _ _ _ _ (wr.setCell ⟨c, 0, none⟩ (Value.string (rest.extract (o + 1) rest.size))).drew _ at hR
        gi_wp2_with (refine ⟨trivial, ?_⟩; gi_at_call 31; refine (callsIn_wide.2 (Try.strings_IndexByte _ _ _)).mono ?_; rintro e w' ⟨rfl, rfl⟩)
        gi_region
        gi_wp2
        refine hR.mono ?_
        rintro e W' ⟨rfl, hJ'⟩
        gi_wp2
        go_roundw
        case rel => exact ⟨_, hJ'⟩
        case measure =>
          rw [leftIn_eq (hc _ _ hJ'), hl]
          rw [← dlen, hL2, List.length_drop, dlen]; omega
      · have hz2 : decide ((0 : Int) ≤ Lib.indexByte rest.data.toList 10) = false := decide_eq_false hi
        have hge := Lib.indexByte_ge rest.data.toList 10
        have hno := Lib.indexByte_none (show Lib.indexByte rest.data.toList 10 = -1 by omega)
        obtain ⟨fn, tmps, assign, body, hy, hR⟩ := hY rest rest ⟨#[]⟩ wr hJ (by simp) ⟨fun e => by have := congrArg List.length e; rw [dlen, List.length_nil] at this; omega, fun j _ => hno j, .inr rfl⟩
        gi_wp2_with (refine ⟨trivial, ?_⟩; gi_at_call 31; refine (callsIn_wide.2 (Try.strings_IndexByte _ _ _)).mono ?_; rintro e w' ⟨rfl, rfl⟩)
        refine hR.mono ?_
        rintro e W' ⟨rfl, hJ'⟩
        gi_wp2
        go_roundw
        case rel => exact ⟨_, hJ'⟩
        case measure =>
          rw [leftIn_eq (hc _ _ hJ'), hl]
          show 0 < rest.size
          omega
    · have hz : decide ((0 : Int) < (rest.size : Int)) = false := decide_eq_false (by omega)
      gi_wp2
      go_end0
      refine ⟨⟨_, rfl⟩, ?_⟩
      obtain rfl : rest = .empty := by
        cases rest with | mk d => have : d = #[] := by simpa [ByteArray.size] using h0
                                  subst this; rfl
      exact hJ
end Go.Proofs.Ytdedodfeopdkaaa
