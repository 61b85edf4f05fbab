/- pouchlaw1.wakes answers true. -/
import Derived.Test.YtcaibcefgfolbaaPFrx3
import Derived.Lib.SlBytesConst
import Derived.KernelRfl
namespace Go.Proofs.Ytcaibcefgfolbaa
open Go.RowKit Go.Proofs.YtcaibcefgfolbaaW.PrintWords Go.Proofs.YtcaibcefgfolbaaW.PrintLast Go.Proofs.YtcaibcefgfolbaaW.PrintMore Go.Proofs.Ytcaibcefgfolbaa.PFr

theorem feed_wakes : frame_Feed.f 3 (⟨#[97]⟩ : ByteArray) false ([98, 13, 10, 99] : List Int) = some ((⟨#[99]⟩ : ByteArray), false, [(⟨⟨#[97, 98]⟩, false⟩ : S46)], 0) := by
  kernel_rfl
theorem reads_lit (w : World) : Kd.C (Kd.int .u8) (w.alloc (.cells #[.int .u8 98, .int .u8 13, .int .u8 10, .int .u8 99] 5 (4, 5))) (some ⟨w.heap.size, 0, none⟩) 4 [98, 13, 10, 99] := by
  refine ⟨rfl, by decide, fun _ => ⟨_, rfl, fun j p hj => ⟨[.int .u8 p], rfl, rfl, fun i u hi => ?_⟩⟩⟩
  match i, hi with
  | 0, hi =>
    obtain rfl := Option.some.inj hi
    have hj4 : j < 4 := (List.getElem?_eq_some_iff.1 hj).1
    have hc : ∀ k, (w.alloc (.cells #[.int .u8 98, .int .u8 13, .int .u8 10, .int .u8 99] 5 (4, 5))).cell? ⟨w.heap.size, k, none⟩ = (#[Value.int .u8 98, .int .u8 13, .int .u8 10, .int .u8 99] : Array Value)[k]? := by
      intro k
      exact cell_of_row _ _ k _ _ (4, 5) (heap_alloc_new w _)
    show World.cell? _ ((⟨w.heap.size, 0, none⟩ : Addr).add (j * 1 + 0)) = _
    rw [add_plain, hc]
    match j, hj4, hj with
    | 0, _, hj | 1, _, hj | 2, _, hj | 3, _, hj => obtain rfl := Option.some.inj hj; rfl

def pouchlaw1_wakes.f : Option Bool := some true
set_option maxHeartbeats 2000000 in
set_option maxRecDepth 100000 in
theorem wakes_walk (w : World) (hG : GrOk w) :
    Calls Try.prog 15 #[] w fun e w' => e = .returned (.bool true) ∧ Below w.heap.size w w' := by
  have kc := fun (w : World) (C : Array Value) (n c : Nat) => Go.Lib.run_convert_bytes_const (P := Try.prog) w 26 5 C n c Try.underlying26 Try.underlying5
  have hu25 := Try.underlying25
  go_enter Try.func15, Try.ntmps15
  go_wp2_with (first | (go_at_call 9; (refine (frame_Feed.calls 3 (⟨#[97]⟩ : ByteArray) false _ _ [98, 13, 10, 99] _ _ _ _ _ ?hr ?hc ?hg feed_wakes).mono ?_; (case hr => exact reads_lit w); (case hc => exact Nat.le_refl 4); (case hg => exact GrOk.below hG ((Below.refl _ _).alloc (Nat.le_refl _) _)); rintro e w1 ⟨v2, rfl, hR, hb⟩; obtain ⟨Ao, co, eo⟩ := Kd.R_slice hR; subst eo; have hC := (Kd.R_reads' hR).2.2; clear hR; obtain ⟨ad, e, hx0, hx1⟩ := at_T46 hC 0 (by decide) (by decide); clear hC; subst e; clear hx1; replace hx0 : w1.cell? ad = some (.string ⟨#[97, 98]⟩) := hx0; have hx2 := fun o => (((Below.refl w1.heap.size w1).alloc (Nat.le_refl _) o).cell (World.block_lt_of_cell? w1 _ hx0)).trans hx0; clear hx0; have HB := Aside0.mk hb; clear hb)) | (go_at_call 11; go_in))
  go_ret
  exact ⟨rfl, (((Below.refl w.heap.size w).alloc (Nat.le_refl _) _).trans (HB.out.mono (by simp))).alloc (by have := HB.out.size; simp at this; omega) _⟩
theorem pouchlaw1_wakes.calls (r : Bool) (w : World) (hG : GrOk w) (h : pouchlaw1_wakes.f = some r) :
    Calls Try.prog 15 #[] w fun e w' => e = .returned (.bool r) ∧ Below w.heap.size w w' := by
  obtain rfl := Option.some.inj h
  exact wakes_walk w hG
end Go.Proofs.Ytcaibcefgfolbaa
