-- Written for this claim by a program: the kit's print.py from a scratch copy, turned by wip/tools/ghostprint.py
import Derived.Test.YtcaibcefgfolbaaPFrx0
import Derived.Test.YtcaibcefgfolbaaPFrx1
import Derived.Test.YtcaibcefgfolbaaPFrx3
import Derived.Test.YtcaibcefgfolbaaPFrx4
import Derived.Test.YtcaibcefgfolbaaWakes
namespace Go.Proofs.Ytcaibcefgfolbaa.PFr
open Go.RowKit Go.Proofs.YtcaibcefgfolbaaW.PrintWords Go.Proofs.YtcaibcefgfolbaaW.PrintLast Go.Proofs.YtcaibcefgfolbaaW.PrintMore
attribute [local go_sem] max2_int min2_int max_two min_two max_three min_three max_four min_four   -- for this text's walks alone
set_option linter.unusedVariables false
set_option linter.unusedSimpArgs false

attribute [local go_sem high] eqA25
/-! ### pouchlaw1_FrameFeeds: function 3 -/
mutual
def pouchlaw1_FrameFeeds.l0 : Nat → List (S28) → Int → Option (Bool)
 | 0, _, _ => none
 | k + 1, x0, x3 => if x3 < (x0.length : Int) then (pouchlaw1_FrameFeeds.j1 k x0 x3 (decide (x3 < 12))) else (pouchlaw1_FrameFeeds.j1 k x0 x3 false)
def pouchlaw1_FrameFeeds.j1 : Nat → List (S28) → Int → Bool → Option (Bool)
 | 0, _, _, _ => none
 | k + 1, x0, x3, x17 => if x17 = true then (if 0 ≤ x3 then (if x3 < (x0.length : Int) then ((pouchlaw1_heavy.f ((rd_T28 x0 x3).f0.f0) ((rd_T28 x0 x3).f0.f1) ((rd_T28 x0 x3).f1)).bind fun t156 => (if t156 = true then (some true) else ((pouchref0_CopyBytes.f k ((rd_T28 x0 x3).f1)).bind fun t158 => ((frame_Feed.f k ((rd_T28 x0 x3).f0.f0) ((rd_T28 x0 x3).f0.f1) t158).bind fun bt162 => ((pouchref1_Framer.f k ((rd_T28 x0 x3).f0.f0) ((rd_T28 x0 x3).f0.f1)).bind fun t170 => (if t170 = true then ((pouchref1_Feed.f k ((rd_T28 x0 x3).f0.f0) ((rd_T28 x0 x3).f0.f1) ((rd_T28 x0 x3).f1)).bind fun bt174 => ((pouchlaw1_num.f bt162.2.2.2).bind fun t180 => (if t180 = 0 then (if (!(bt162.1.toList == bt174.1.toList) || (!(bt162.2.1 == bt174.2.1))) = true then (some false) else ((pouchref0_EqLines.f k bt162.2.2.1 bt174.2.2).bind fun t181 => (if t181 = true then ((pouchref0_EqBytes.f k t158 ((rd_T28 x0 x3).f1)).bind fun t183 => (if t183 = true then (pouchlaw1_FrameFeeds.l0 k x0 (wrap64 (x3 + 1))) else (some false))) else (some false)))) else (some false)))) else ((pouchlaw1_num.f bt162.2.2.2).bind fun t171 => (if t171 = 1 then (if (bt162.2.2.1.length : Int) > 0 then (some false) else (pouchlaw1_FrameFeeds.l0 k x0 (wrap64 (x3 + 1)))) else (some false))))))))) else (none)) else (none)) else ((pouchlaw1_wakes.f).bind fun t154 => (some t154))
end
def pouchlaw1_FrameFeeds.f (k : Nat) (l0 : List (S28)) : Option (Bool) := pouchlaw1_FrameFeeds.l0 k l0 0
theorem pouchlaw1_FrameFeeds.mono_l : ∀ k, (∀ y0 y1, LeO (pouchlaw1_FrameFeeds.l0 k y0 y1) (pouchlaw1_FrameFeeds.l0 (k + 1) y0 y1)) ∧ (∀ y0 y1 y2, LeO (pouchlaw1_FrameFeeds.j1 k y0 y1 y2) (pouchlaw1_FrameFeeds.j1 (k + 1) y0 y1 y2))
 | 0 => ⟨fun _ _ r h => by simp [pouchlaw1_FrameFeeds.l0] at h, fun _ _ _ r h => by simp [pouchlaw1_FrameFeeds.j1] at h⟩
 | k + 1 => by
  obtain ⟨ih0, ih1⟩ := pouchlaw1_FrameFeeds.mono_l k
  refine ⟨?_, ?_⟩
  ·
   intro y0 y1
   unfold pouchlaw1_FrameFeeds.l0
   repeat' first
   | (with_reducible exact ih0 _ _)
   | (with_reducible exact ih1 _ _ _)
   | (with_reducible exact frame_Feed.mono _ _ _ _)
   | (with_reducible exact pouchref0_CopyBytes.mono _ _)
   | (with_reducible exact pouchref0_EqBytes.mono _ _ _)
   | (with_reducible exact pouchref0_EqLines.mono _ _ _)
   | (with_reducible exact pouchref1_Feed.mono _ _ _ _)
   | (with_reducible exact pouchref1_Framer.mono _ _ _)
   | (with_reducible exact LeO.refl _)
   | (with_reducible exact LeO.none _)
   | (with_reducible refine LeO.ite ?_ ?_)
   | (with_reducible refine LeO.bind ?_ (fun _ => ?_))
   | exact ih0 _ _
   | exact ih1 _ _ _
   | exact frame_Feed.mono _ _ _ _
   | exact pouchref0_CopyBytes.mono _ _
   | exact pouchref0_EqBytes.mono _ _ _
   | exact pouchref0_EqLines.mono _ _ _
   | exact pouchref1_Feed.mono _ _ _ _
   | exact pouchref1_Framer.mono _ _ _
   | exact LeO.none _
   | refine LeO.ite ?_ ?_
   | refine LeO.bind ?_ (fun _ => ?_)
  ·
   intro y0 y1 y2
   unfold pouchlaw1_FrameFeeds.j1
   repeat' first
   | (with_reducible exact ih0 _ _)
   | (with_reducible exact ih1 _ _ _)
   | (with_reducible exact frame_Feed.mono _ _ _ _)
   | (with_reducible exact pouchref0_CopyBytes.mono _ _)
   | (with_reducible exact pouchref0_EqBytes.mono _ _ _)
   | (with_reducible exact pouchref0_EqLines.mono _ _ _)
   | (with_reducible exact pouchref1_Feed.mono _ _ _ _)
   | (with_reducible exact pouchref1_Framer.mono _ _ _)
   | (with_reducible exact LeO.refl _)
   | (with_reducible exact LeO.none _)
   | (with_reducible refine LeO.ite ?_ ?_)
   | (with_reducible refine LeO.bind ?_ (fun _ => ?_))
   | exact ih0 _ _
   | exact ih1 _ _ _
   | exact frame_Feed.mono _ _ _ _
   | exact pouchref0_CopyBytes.mono _ _
   | exact pouchref0_EqBytes.mono _ _ _
   | exact pouchref0_EqLines.mono _ _ _
   | exact pouchref1_Feed.mono _ _ _ _
   | exact pouchref1_Framer.mono _ _ _
   | exact LeO.none _
   | refine LeO.ite ?_ ?_
   | refine LeO.bind ?_ (fun _ => ?_)
theorem pouchlaw1_FrameFeeds.mono : ∀ a0 k, LeO (pouchlaw1_FrameFeeds.f k a0) (pouchlaw1_FrameFeeds.f (k + 1) a0) := by
 intro a0 k
 obtain ⟨ih0, ih1⟩ := pouchlaw1_FrameFeeds.mono_l k
 unfold pouchlaw1_FrameFeeds.f
 repeat' first
   | (with_reducible exact ih0 _ _)
   | (with_reducible exact ih1 _ _ _)
   | (with_reducible exact frame_Feed.mono _ _ _ _)
   | (with_reducible exact pouchref0_CopyBytes.mono _ _)
   | (with_reducible exact pouchref0_EqBytes.mono _ _ _)
   | (with_reducible exact pouchref0_EqLines.mono _ _ _)
   | (with_reducible exact pouchref1_Feed.mono _ _ _ _)
   | (with_reducible exact pouchref1_Framer.mono _ _ _)
   | (with_reducible exact LeO.refl _)
   | (with_reducible exact LeO.none _)
   | (with_reducible refine LeO.ite ?_ ?_)
   | (with_reducible refine LeO.bind ?_ (fun _ => ?_))
   | exact ih0 _ _
   | exact ih1 _ _ _
   | exact frame_Feed.mono _ _ _ _
   | exact pouchref0_CopyBytes.mono _ _
   | exact pouchref0_EqBytes.mono _ _ _
   | exact pouchref0_EqLines.mono _ _ _
   | exact pouchref1_Feed.mono _ _ _ _
   | exact pouchref1_Framer.mono _ _ _
   | exact LeO.none _
   | refine LeO.ite ?_ ?_
   | refine LeO.bind ?_ (fun _ => ?_)
def pouchlaw1_FrameFeeds.T11 : Bool × List (List Nat × List Nat) := (true, [([], []), ([], []), ([0, 1], [0, 1]), ([2], [2]), ([3], [3]), ([], []), ([], []), ([5, 6], [5, 6]), ([7], [7]), ([8], [8]), ([4, 9], [4, 9]), ([10], [10]), ([11], [11]), ([11], [11]), ([], []), ([14, 12, 10, 0, 1, 2, 3, 4, 5, 6, 7, 8, 9, 10, 11, 12, 14], [12, 14]), ([13, 15, 0, 1, 2, 3, 4, 5, 6, 7, 8, 9, 10, 11, 12, 13, 14, 15], [13])])
def pouchlaw1_FrameFeeds.B11 : List Nat := [0, 0, 3, 7, 15, 0, 0, 96, 224, 480, 1023, 2047, 4095, 4095, 0, 24575, 65535]
theorem pouchlaw1_FrameFeeds.tab11 : rtab .any (opsOf Try.f3 11) = pouchlaw1_FrameFeeds.T11 := by kernel_rfl
theorem pouchlaw1_FrameFeeds.bits11 : waitsOk pouchlaw1_FrameFeeds.T11.2 pouchlaw1_FrameFeeds.B11 = true := by kernel_rfl
end Go.Proofs.Ytcaibcefgfolbaa.PFr
