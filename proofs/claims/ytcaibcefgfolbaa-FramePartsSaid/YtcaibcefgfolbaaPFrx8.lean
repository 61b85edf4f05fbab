-- Written for this claim by a program: the kit's print.py from a scratch copy, turned by wip/tools/ghostprint.py
import Derived.Test.YtcaibcefgfolbaaPFrx0
import Derived.Test.YtcaibcefgfolbaaPFrx1
import Derived.Test.YtcaibcefgfolbaaPFrx3
import Derived.Test.YtcaibcefgfolbaaPFrx4
import Derived.Test.YtcaibcefgfolbaaPFrx6
import Derived.Test.YtcaibcefgfolbaaPFrx7
import Derived.Test.YtcaibcefgfolbaaWakes
namespace Go.Proofs.Ytcaibcefgfolbaa.PFr
open Go.RowKit Go.Proofs.YtcaibcefgfolbaaW.PrintWords Go.Proofs.YtcaibcefgfolbaaW.PrintLast Go.Proofs.YtcaibcefgfolbaaW.PrintMore
attribute [local go_sem] max2_int min2_int max_two min_two max_three min_three max_four min_four   -- for this text's walks alone
set_option linter.unusedVariables false
set_option linter.unusedSimpArgs false

attribute [local go_sem high] eqA25
/-! ### pouchlaw1_FrameParts: function 6 -/
mutual
def pouchlaw1_FrameParts.j0 : Nat → Bool → List Int → List Int → Option (Bool)
 | 0, _, _, _ => none
 | k + 1, x23, x228000, x228001 => if x23 = true then (some true) else ((frame_Feed.f k (⟨#[]⟩ : ByteArray) false x228000).bind fun bt228 => (pouchlaw1_FrameParts.l0 k bt228.2.2.1 bt228.2.2.2 ([] : List (S46)) 0 0 x228000 x228001 bt228.1 bt228.2.1 (⟨#[]⟩ : ByteArray) false))
def pouchlaw1_FrameParts.l0 : Nat → List (S46) → Int → List (S46) → Int → Int → List Int → List Int → ByteArray → Bool → ByteArray → Bool → Option (Bool)
 | 0, _, _, _, _, _, _, _, _, _, _, _ => none
 | k + 1, x4, x5, x7, x8, x9, x228000, x228001, x235000, x235001, x236000, x236001 => if x8 < (x228000.length : Int) then (if x9 < (x228001.length : Int) then (if 0 ≤ x9 then ((pouchlaw0_Within.f (rd x228001 x9) 100).bind fun t237 => (pouchlaw1_FrameParts.j2 k x4 x5 x7 x8 x9 (wrap64 (1 + t237)) x228000 x228001 x235000 x235001 x236000 x236001)) else (none)) else (pouchlaw1_FrameParts.j2 k x4 x5 x7 x8 x9 (wrap64 (1 + (wrap64 ((x228000.length : Int) / 7)))) x228000 x228001 x235000 x235001 x236000 x236001)) else ((pouchlaw1_num.f x5).bind fun t250 => (if t250 = 0 then (if (x235000.toList == x236000.toList && (x235001 == x236001)) = true then ((pouchref0_EqLines.f k x7 x4).bind fun t251 => (if t251 = true then ((frame_Check.f x236000 x236001).bind fun t252 => ((pouchlaw1_num.f t252).bind fun t253 => (if t253 = 0 then ((pouchlaw1_wakes.f).bind fun t254 => (some t254)) else (some false)))) else (some false))) else (some false)) else (some false)))
def pouchlaw1_FrameParts.j2 : Nat → List (S46) → Int → List (S46) → Int → Int → Int → List Int → List Int → ByteArray → Bool → ByteArray → Bool → Option (Bool)
 | 0, _, _, _, _, _, _, _, _, _, _, _, _ => none
 | k + 1, x4, x5, x7, x8, x9, x10, x228000, x228001, x235000, x235001, x236000, x236001 => if 0 ≤ x8 then (if x8 ≤ (mn (wrap64 (x8 + x10)) (x228000.length : Int)) then (if (mn (wrap64 (x8 + x10)) (x228000.length : Int)) ≤ (x228000.length : Int) then ((frame_Feed.f k x236000 x236001 ((x228000.take ((mn (wrap64 (x8 + x10)) (x228000.length : Int)) : Int).toNat).drop (x8 : Int).toNat)).bind fun bt239 => ((pouchlaw1_num.f bt239.2.2.2).bind fun t246 => (if t246 = 0 then (if x7.length + bt239.2.2.1.length < 5864062014805 then (pouchlaw1_FrameParts.l0 k x4 x5 (x7 ++ bt239.2.2.1) (wrap64 (x8 + x10)) (wrap64 (x9 + 1)) x228000 x228001 x235000 x235001 bt239.1 bt239.2.1) else (none)) else (some false)))) else (none)) else (none)) else (none)
end
def pouchlaw1_FrameParts.f (k : Nat) (l0_0 : List Int) (l0_1 : List Int) : Option (Bool) := if (l0_0.length : Int) > 5000 then (pouchlaw1_FrameParts.j0 k true l0_0 l0_1) else (pouchlaw1_FrameParts.j0 k (decide ((l0_1.length : Int) > 2000)) l0_0 l0_1)
theorem pouchlaw1_FrameParts.mono_l : ∀ k, (∀ y0 y1 y2, LeO (pouchlaw1_FrameParts.j0 k y0 y1 y2) (pouchlaw1_FrameParts.j0 (k + 1) y0 y1 y2)) ∧ (∀ y0 y1 y2 y3 y4 y5 y6 y7 y8 y9 y10, LeO (pouchlaw1_FrameParts.l0 k y0 y1 y2 y3 y4 y5 y6 y7 y8 y9 y10) (pouchlaw1_FrameParts.l0 (k + 1) y0 y1 y2 y3 y4 y5 y6 y7 y8 y9 y10)) ∧ (∀ y0 y1 y2 y3 y4 y5 y6 y7 y8 y9 y10 y11, LeO (pouchlaw1_FrameParts.j2 k y0 y1 y2 y3 y4 y5 y6 y7 y8 y9 y10 y11) (pouchlaw1_FrameParts.j2 (k + 1) y0 y1 y2 y3 y4 y5 y6 y7 y8 y9 y10 y11))
 | 0 => ⟨fun _ _ _ r h => by simp [pouchlaw1_FrameParts.j0] at h, fun _ _ _ _ _ _ _ _ _ _ _ r h => by simp [pouchlaw1_FrameParts.l0] at h, fun _ _ _ _ _ _ _ _ _ _ _ _ r h => by simp [pouchlaw1_FrameParts.j2] at h⟩
 | k + 1 => by
  obtain ⟨ih0, ih1, ih2⟩ := pouchlaw1_FrameParts.mono_l k
  refine ⟨?_, ?_, ?_⟩
  ·
   intro y0 y1 y2
   unfold pouchlaw1_FrameParts.j0
   repeat' first
   | (with_reducible exact ih0 _ _ _)
   | (with_reducible exact ih1 _ _ _ _ _ _ _ _ _ _ _)
   | (with_reducible exact ih2 _ _ _ _ _ _ _ _ _ _ _ _)
   | (with_reducible exact frame_Feed.mono _ _ _ _)
   | (with_reducible exact pouchref0_EqLines.mono _ _ _)
   | (with_reducible exact LeO.refl _)
   | (with_reducible exact LeO.none _)
   | (with_reducible refine LeO.ite ?_ ?_)
   | (with_reducible refine LeO.bind ?_ (fun _ => ?_))
   | exact ih0 _ _ _
   | exact ih1 _ _ _ _ _ _ _ _ _ _ _
   | exact ih2 _ _ _ _ _ _ _ _ _ _ _ _
   | exact frame_Feed.mono _ _ _ _
   | exact pouchref0_EqLines.mono _ _ _
   | exact LeO.none _
   | refine LeO.ite ?_ ?_
   | refine LeO.bind ?_ (fun _ => ?_)
  ·
   intro y0 y1 y2 y3 y4 y5 y6 y7 y8 y9 y10
   unfold pouchlaw1_FrameParts.l0
   repeat' first
   | (with_reducible exact ih0 _ _ _)
   | (with_reducible exact ih1 _ _ _ _ _ _ _ _ _ _ _)
   | (with_reducible exact ih2 _ _ _ _ _ _ _ _ _ _ _ _)
   | (with_reducible exact frame_Feed.mono _ _ _ _)
   | (with_reducible exact pouchref0_EqLines.mono _ _ _)
   | (with_reducible exact LeO.refl _)
   | (with_reducible exact LeO.none _)
   | (with_reducible refine LeO.ite ?_ ?_)
   | (with_reducible refine LeO.bind ?_ (fun _ => ?_))
   | exact ih0 _ _ _
   | exact ih1 _ _ _ _ _ _ _ _ _ _ _
   | exact ih2 _ _ _ _ _ _ _ _ _ _ _ _
   | exact frame_Feed.mono _ _ _ _
   | exact pouchref0_EqLines.mono _ _ _
   | exact LeO.none _
   | refine LeO.ite ?_ ?_
   | refine LeO.bind ?_ (fun _ => ?_)
  ·
   intro y0 y1 y2 y3 y4 y5 y6 y7 y8 y9 y10 y11
   unfold pouchlaw1_FrameParts.j2
   repeat' first
   | (with_reducible exact ih0 _ _ _)
   | (with_reducible exact ih1 _ _ _ _ _ _ _ _ _ _ _)
   | (with_reducible exact ih2 _ _ _ _ _ _ _ _ _ _ _ _)
   | (with_reducible exact frame_Feed.mono _ _ _ _)
   | (with_reducible exact pouchref0_EqLines.mono _ _ _)
   | (with_reducible exact LeO.refl _)
   | (with_reducible exact LeO.none _)
   | (with_reducible refine LeO.ite ?_ ?_)
   | (with_reducible refine LeO.bind ?_ (fun _ => ?_))
   | exact ih0 _ _ _
   | exact ih1 _ _ _ _ _ _ _ _ _ _ _
   | exact ih2 _ _ _ _ _ _ _ _ _ _ _ _
   | exact frame_Feed.mono _ _ _ _
   | exact pouchref0_EqLines.mono _ _ _
   | exact LeO.none _
   | refine LeO.ite ?_ ?_
   | refine LeO.bind ?_ (fun _ => ?_)
theorem pouchlaw1_FrameParts.mono : ∀ a0 a1 k, LeO (pouchlaw1_FrameParts.f k a0 a1) (pouchlaw1_FrameParts.f (k + 1) a0 a1) := by
 intro a0 a1 k
 obtain ⟨ih0, ih1, ih2⟩ := pouchlaw1_FrameParts.mono_l k
 unfold pouchlaw1_FrameParts.f
 repeat' first
   | (with_reducible exact ih0 _ _ _)
   | (with_reducible exact ih1 _ _ _ _ _ _ _ _ _ _ _)
   | (with_reducible exact ih2 _ _ _ _ _ _ _ _ _ _ _ _)
   | (with_reducible exact frame_Feed.mono _ _ _ _)
   | (with_reducible exact pouchref0_EqLines.mono _ _ _)
   | (with_reducible exact LeO.refl _)
   | (with_reducible exact LeO.none _)
   | (with_reducible refine LeO.ite ?_ ?_)
   | (with_reducible refine LeO.bind ?_ (fun _ => ?_))
   | exact ih0 _ _ _
   | exact ih1 _ _ _ _ _ _ _ _ _ _ _
   | exact ih2 _ _ _ _ _ _ _ _ _ _ _ _
   | exact frame_Feed.mono _ _ _ _
   | exact pouchref0_EqLines.mono _ _ _
   | exact LeO.none _
   | refine LeO.ite ?_ ?_
   | refine LeO.bind ?_ (fun _ => ?_)
def pouchlaw1_FrameParts.T13 : Bool × List (List Nat × List Nat) := (true, [([], []), ([], []), ([1], [1]), ([], []), ([], []), ([], []), ([4, 5], [4, 5]), ([], []), ([7], [7]), ([8], [8]), ([6, 9], [6, 9]), ([2, 3, 10], [2, 3, 10]), ([0, 11], [0, 11]), ([12], [12]), ([13], [13]), ([13], [13]), ([13], [13]), ([], []), ([17, 14, 12, 0, 1, 2, 3, 4, 5, 6, 7, 8, 9, 10, 11, 12, 13, 14, 17], [14, 17]), ([15, 18, 0, 1, 2, 3, 4, 5, 6, 7, 8, 9, 10, 11, 12, 13, 14, 15, 17, 18], [15]), ([16, 19, 0, 1, 2, 3, 4, 5, 6, 7, 8, 9, 10, 11, 12, 13, 14, 15, 16, 17, 18, 19], [16])])
def pouchlaw1_FrameParts.B13 : List Nat := [0, 0, 2, 0, 0, 0, 48, 0, 128, 384, 1008, 2046, 4095, 8191, 16383, 16383, 16383, 0, 163839, 458751, 1048575]
theorem pouchlaw1_FrameParts.tab13 : rtab .any (opsOf Try.f6 13) = pouchlaw1_FrameParts.T13 := by kernel_rfl
theorem pouchlaw1_FrameParts.bits13 : waitsOk pouchlaw1_FrameParts.T13.2 pouchlaw1_FrameParts.B13 = true := by kernel_rfl
set_option maxHeartbeats 8000000 in
set_option maxRecDepth 100000 in
theorem pouchlaw1_FrameParts.calls (k : Nat) (A0_0 : Option Addr) (c0_0 : Nat) (l0_0 : List Int) (A0_1 : Option Addr) (c0_1 : Nat) (l0_1 : List Int) (r : Bool) (w : World) (hr0_0 : Kd.C (Kd.int .u8) w A0_0 l0_0.length l0_0) (hc0_0 : l0_0.length ≤ c0_0) (hr0_1 : Kd.C (Kd.int .i64) w A0_1 l0_1.length l0_1) (hc0_1 : l0_1.length ≤ c0_1) (hG : GrOk w) (h : pouchlaw1_FrameParts.f k l0_0 l0_1 = some r) :
  Calls Try.prog 6 #[.agg #[.slice A0_0 l0_0.length c0_0, .slice A0_1 l0_1.length c0_1]] w fun e w' => e = .returned (.bool r) ∧ Below w.heap.size w w' := by
 have hu44 := Try.underlying44
 have hu25 := Try.underlying25
 have HR0_0 := am_ hr0_0
 have HC0_0 := am_ hc0_0
 clear hr0_0 hc0_0
 have HR0_1 := am_ hr0_1
 have HC0_1 := am_ hc0_1
 clear hr0_1 hc0_1
 have HB := am_ (Below.refl w.heap.size w)
 have H : (if (l0_0.length : Int) > 5000 then (pouchlaw1_FrameParts.j0 k true l0_0 l0_1) else (pouchlaw1_FrameParts.j0 k (decide ((l0_1.length : Int) > 2000)) l0_0 l0_1)) = some r := h
 clear h
 have HC2 := am_ H
 clear H
 go_enter Try.func6, Try.ntmps6
 go_upto_region 1 with (first | ((with_reducible refine gate_dst (N := 1) rfl ?_); (try (refine gate_guard (by rfl) ?_; dsimp only)); refine box_event ?hg (N := 1) ?hd (cs := #[.slice A0_0 l0_0.length c0_0, .slice A0_1 l0_1.length c0_1]) (t := 44) ?hr ?_; (case hd => rfl); (case hg => rfl); (case hr => first | (go_simp; done) | (go_simp; rfl)); intro gb227 hg w3 hbox hb; have n0_ := am_ (bt_ (by repeat (first | (with_reducible first | exact HB.out | apply ba_ | apply bn_ | apply bd_) | exact HB.out)) hb); have n1_ := am_ (hbox); have n2_ := am_ ((by rw [hg]; exact (bz_ (by repeat (first | (with_reducible first | exact HB.out | apply ba_ | apply bn_ | apply bd_) | exact HB.out))) : w.heap.size ≤ gb227)); have n3_ := am_ ((by rw [hg]; exact (bz_ (by repeat (first | (with_reducible first | exact HB.out | apply ba_ | apply bn_ | apply bd_) | exact HB.out))) : w.heap.size ≤ gb227)); clear HB; have HB := n0_; have BK227 := n1_; have GW227 := n2_; have GE227 := n3_; clear n0_ n1_ n2_ n3_; clear hb hbox hg))
 (try simp only [Act.put, s1_, s2_, s3_])
 go_cut [23] (fun v23 wc => ∃ (kq : Nat) (x23_1 : Bool), v23 = .bool x23_1 ∧ Aside0 (pouchlaw1_FrameParts.j0 kq x23_1 l0_0 l0_1 = some r) ∧ Aside0 (kq ≤ k) ∧ Aside0 (wc.heap[gb227]? = some (.cells #[(.slice A0_0 l0_0.length c0_0), (.slice A0_1 l0_1.length c0_1)] 44 (0, 0))) ∧ Aside0 (Below w.heap.size w wc))
 case first =>
  have H := HC2.out
  clear HC2
  by_cases c4 : (l0_0.length : Int) > 5000
  ·
   rw [if_pos c4] at H
   have c4b0 : decide (5000 < (l0_0.length : Int)) = true := decide_eq_true c4
   have c4b1 : decide (5000 < l0_0.length) = true := decide_eq_true (by omega)
   clear c4
   (first | rw [c4b0] | (simp only [i64_w, i32_w]; rw [c4b0]) | skip)
   have H' := am_ H
   clear H
   have hcz5_0 : w3.cell? ⟨gb227, 0, none⟩ = some (.slice A0_0 l0_0.length c0_0) := (blk_cell BK227.out 0).trans rfl
   have hcz5_1 : w3.cell? ⟨gb227, 1, none⟩ = some (.slice A0_1 l0_1.length c0_1) := (blk_cell BK227.out 1).trans rfl
   have hfz5_0 := blk_frozen BK227.out 0
   have hfz5_1 := blk_frozen BK227.out 1
   go_wp2
   go_meet
   case rel => exact ⟨_, (true), (by first | rfl | (simp; done) | (simp [*]; done)), H', ⟨by first | omega | exact Nat.le_refl _⟩, ⟨by (with_reducible repeat (first | refine kn_ ?_ _ | refine kd_ ?_ | refine ka_ ?_ _)); exact BK227.out⟩, ⟨by repeat (first | (with_reducible first | exact HB.out | apply ba_ | apply bn_ | apply bd_ | refine bs_ ?_ GE227.out) | exact HB.out)⟩⟩
  ·
   rw [if_neg c4] at H
   have c4b0 : decide (5000 < (l0_0.length : Int)) = false := decide_eq_false c4
   have c4b1 : decide (5000 < l0_0.length) = false := decide_eq_false (by omega)
   clear c4
   (first | rw [c4b0] | (simp only [i64_w, i32_w]; rw [c4b0]) | skip)
   have H' := am_ H
   clear H
   have hcz6_0 : w3.cell? ⟨gb227, 0, none⟩ = some (.slice A0_0 l0_0.length c0_0) := (blk_cell BK227.out 0).trans rfl
   have hcz6_1 : w3.cell? ⟨gb227, 1, none⟩ = some (.slice A0_1 l0_1.length c0_1) := (blk_cell BK227.out 1).trans rfl
   have hfz6_0 := blk_frozen BK227.out 0
   have hfz6_1 := blk_frozen BK227.out 1
   go_wp2
   go_meet
   case rel => exact ⟨_, (decide ((l0_1.length : Int) > 2000)), (by first | rfl | (simp; done) | (simp [*]; done)), H', ⟨by first | omega | exact Nat.le_refl _⟩, ⟨by (with_reducible repeat (first | refine kn_ ?_ _ | refine kd_ ?_ | refine ka_ ?_ _)); exact BK227.out⟩, ⟨by repeat (first | (with_reducible first | exact HB.out | apply ba_ | apply bn_ | apply bd_ | refine bs_ ?_ GE227.out) | exact HB.out)⟩⟩
 case rest =>
  clear HC2
  try clear p2
  try clear c4
  try clear c4b0
  try clear c4b1
  try clear c6
  try clear hcz5_0
  try clear hcz5_1
  try clear hcz6_0
  try clear hcz6_1
  try clear hfz5_0
  try clear hfz5_1
  try clear hfz6_0
  try clear hfz6_1
  obtain ⟨kq, x23_1, rfl, HA, HJ1, BK227, HB⟩ := hcut
  cases kq with
  | zero => exact absurd HA.out (by simp [pouchlaw1_FrameParts.j0])
  | succ kj1 =>
   have H := HA.out
   clear HA
   simp only [pouchlaw1_FrameParts.j0] at H
   by_cases c7 : x23_1 = true
   ·
    subst c7
    have H1 : (some true) = some r := by rw [if_pos rfl] at H; exact H
    clear H; have H := H1; clear H1
    obtain rfl := Option.some.inj H
    go_wp2
    go_ret
    exact ⟨by first | rfl | (simp [errW_none, errW_some] <;> rfl) | (simp [*, errW_none, errW_some] <;> rfl), by repeat (first | (with_reducible first | exact HB.out | apply ba_ | apply bn_ | apply bd_ | refine bs_ ?_ GE227.out) | exact HB.out)⟩
   ·
    replace c7 := Bool.eq_false_iff.mpr c7
    subst c7
    have H1 : ((frame_Feed.f kj1 (⟨#[]⟩ : ByteArray) false l0_0).bind fun bt228 => (pouchlaw1_FrameParts.l0 kj1 bt228.2.2.1 bt228.2.2.2 ([] : List (S46)) 0 0 l0_0 l0_1 bt228.1 bt228.2.1 (⟨#[]⟩ : ByteArray) false)) = some r := by rw [if_neg (show ¬ (false = true) by decide)] at H; exact H
    clear H; have H := H1; clear H1
    replace H := Option.bind_eq_some_iff.mp H
    obtain ⟨⟨t228, t229, t230, t233⟩, A80, H⟩ := H
    replace H : (pouchlaw1_FrameParts.l0 kj1 t230 t233 ([] : List (S46)) 0 0 l0_0 l0_1 t228 t229 (⟨#[]⟩ : ByteArray) false) = some r := H
    have A8 := am_ A80
    clear A80
    have H' := am_ H
    clear H
    have hcz9_0 : wc.cell? ⟨gb227, 0, none⟩ = some (.slice A0_0 l0_0.length c0_0) := (blk_cell BK227.out 0).trans rfl
    have hcz9_1 : wc.cell? ⟨gb227, 1, none⟩ = some (.slice A0_1 l0_1.length c0_1) := (blk_cell BK227.out 1).trans rfl
    have hfz9_0 := blk_frozen BK227.out 0
    have hfz9_1 := blk_frozen BK227.out 1
    go_wp2_with (first | ((with_reducible refine gate_callee (f := 9) rfl ?_); refine goesL_ (some 28) rfl rfl Try.func9 (by kernel_rfl) rfl #[.agg #[.string (⟨#[]⟩ : ByteArray), .bool false], .slice A0_0 l0_0.length c0_0] rfl (by (try simp only [m1_, m2_, m3_]); first | done | rfl | (simp only [m4_, m5_]; rfl)) ?_; (with_reducible refine (frame_Feed.calls kj1 (⟨#[]⟩ : ByteArray) false _ _ l0_0 t228 t229 t230 t233 _ ?side1 ?side2 ?side3 A8.out).mono ?_); (case side1 => repeat (first | exact (cb_ HR0_0.out HB.out) | (with_reducible refine ca_ ?_ _) | (with_reducible refine cn_ ?_ _) | (with_reducible refine cd_ ?_))); (case side2 => exact HC0_0.out); (case side3 => exact GrOk.below hG (by repeat (first | (with_reducible first | exact HB.out | apply ba_ | apply bn_ | apply bd_ | refine bs_ ?_ GE227.out) | exact HB.out))); rintro e w10 ⟨v231, rfl, ho0, hb⟩; refine ⟨_, rfl, ?_⟩; have n0_ := am_ (Kd.R_lower ho0 (bz_ (by repeat (first | (with_reducible first | exact HB.out | apply ba_ | apply bn_ | apply bd_ | refine bs_ ?_ GE227.out) | exact HB.out)))); have n1_ := am_ (bb_ (g := gb227) (o := .cells #[.slice A0_0 l0_0.length c0_0, .slice A0_1 l0_1.length c0_1] 44 (0, 0)) (by (with_reducible repeat (first | refine kn_ ?_ _ | refine kd_ ?_ | refine ka_ ?_ _)); exact BK227.out) hb); have n2_ := am_ (bt_ (by repeat (first | (with_reducible first | exact HB.out | apply ba_ | apply bn_ | apply bd_ | refine bs_ ?_ GE227.out) | exact HB.out)) hb); clear BK227; clear HB; have HO232 := n0_; have BK227 := n1_; have HB := n2_; clear n0_ n1_ n2_; (try clear hb); (try clear hb2); (try clear hk); (try clear hi); (try clear ho0)) | ((with_reducible refine gate_dst (N := 3) rfl ?_); (try (refine gate_guard (by rfl) ?_; dsimp only)); refine box_event ?hg (N := 3) ?hd (cs := #[.string (⟨#[]⟩ : ByteArray), .bool false]) (t := 25) ?hr ?_; (case hd => rfl); (case hg => rfl); (case hr => first | (go_simp; done) | (go_simp; rfl)); intro gb234 hg w11 hbox hb; have n0_ := am_ (rb_ (by (with_reducible repeat (first | apply ra_ | apply rn_ | apply re_)); exact HO232.out) hb); have n1_ := am_ (bb_ (g := gb227) (o := .cells #[.slice A0_0 l0_0.length c0_0, .slice A0_1 l0_1.length c0_1] 44 (0, 0)) (by (with_reducible repeat (first | refine kn_ ?_ _ | refine kd_ ?_ | refine ka_ ?_ _)); exact BK227.out) hb); have n2_ := am_ (bt_ (by repeat (first | (with_reducible first | exact HB.out | apply ba_ | apply bn_ | apply bd_ | refine bs_ ?_ GE227.out) | exact HB.out)) hb); have n3_ := am_ (hbox); have n4_ := am_ ((by rw [hg]; exact (bz_ (by repeat (first | (with_reducible first | exact HB.out | apply ba_ | apply bn_ | apply bd_ | refine bs_ ?_ GE227.out) | exact HB.out))) : w.heap.size ≤ gb234)); have n5_ := am_ ((by rw [hg]; exact (bz_ (by repeat (first | (with_reducible first | exact HB.out | apply ba_ | apply bn_ | apply bd_ | refine bs_ ?_ GE227.out) | exact HB.out))) : w.heap.size ≤ gb234)); have n6_ := am_ ((by rw [hg]; exact nl_ (blk_lt (g := gb227) (o := .cells #[.slice A0_0 l0_0.length c0_0, .slice A0_1 l0_1.length c0_1] 44 (0, 0)) (by (with_reducible repeat (first | refine kn_ ?_ _ | refine kd_ ?_ | refine ka_ ?_ _)); exact BK227.out)) : gb227 ≠ gb234)); have n7_ := am_ ((by rw [hg]; exact Nat.ne_of_gt (blk_lt (g := gb227) (o := .cells #[.slice A0_0 l0_0.length c0_0, .slice A0_1 l0_1.length c0_1] 44 (0, 0)) (by (with_reducible repeat (first | refine kn_ ?_ _ | refine kd_ ?_ | refine ka_ ?_ _)); exact BK227.out)) : gb234 ≠ gb227)); clear HO232; clear BK227; clear HB; have HO232 := n0_; have BK227 := n1_; have HB := n2_; have BK234 := n3_; have GW234 := n4_; have GE234 := n5_; have NB227_234 := n6_; have NB234_227 := n7_; clear n0_ n1_ n2_ n3_ n4_ n5_ n6_ n7_; clear hb hbox hg; have hnb12 := NB234_227.out; have hnc12 := NB227_234.out; have hcz13_0 : w11.cell? ⟨gb234, 0, none⟩ = some (.string (⟨#[]⟩ : ByteArray)) := (blk_cell BK234.out 0).trans rfl; have hcz13_1 : w11.cell? ⟨gb234, 1, none⟩ = some (.bool false) := (blk_cell BK234.out 1).trans rfl; have hfz13_0 := blk_frozen BK234.out 0; have hfz13_1 := blk_frozen BK234.out 1) | ((with_reducible refine gate_dst (N := 6) rfl ?_); (try (refine gate_guard (by rfl) ?_; dsimp only)); refine box_event ?hg (N := 6) ?hd (cs := #[.string (⟨#[]⟩ : ByteArray), .bool false]) (t := 25) ?hr ?_; (case hd => rfl); (case hg => rfl); (case hr => first | (go_simp; done) | (go_simp; rfl)); intro gb235 hg w14 hbox hb; have n0_ := am_ (rb_ (by (with_reducible repeat (first | apply ra_ | apply rn_ | apply re_)); exact (Kd.R_mono (Kd.R_far (p := ⟨gb234, 1, none⟩) (Kd.R_far (p := ⟨gb234, 0, none⟩) (Kd.R_types HO232.out BK234.out (by decide)) (fun _ hk => hk.2) (.string t228)) (fun _ hk => hk.2) (.bool t229)) (fun _ h_ => h_.1))) hb); have n1_ := am_ (bb_ (g := gb227) (o := .cells #[.slice A0_0 l0_0.length c0_0, .slice A0_1 l0_1.length c0_1] 44 (0, 0)) (by (with_reducible repeat (first | refine kn_ ?_ _ | refine kd_ ?_ | refine ka_ ?_ _)); refine blk_far ?_ NB227_234.out _; (with_reducible repeat (first | refine kn_ ?_ _ | refine kd_ ?_ | refine ka_ ?_ _)); refine blk_far ?_ NB227_234.out _; (with_reducible repeat (first | refine kn_ ?_ _ | refine kd_ ?_ | refine ka_ ?_ _)); exact BK227.out) hb); have n2_ := am_ (bb_ (g := gb234) (o := .cells #[.string t228, .bool t229] 25 (0, 0)) (by (with_reducible repeat (first | refine kn_ ?_ _ | refine kd_ ?_ | refine ka_ ?_ _)); refine blk_put (cs := #[.string t228, .bool false]) ?_ 1 _ rfl; (with_reducible repeat (first | refine kn_ ?_ _ | refine kd_ ?_ | refine ka_ ?_ _)); refine blk_put (cs := #[.string (⟨#[]⟩ : ByteArray), .bool false]) ?_ 0 _ rfl; (with_reducible repeat (first | refine kn_ ?_ _ | refine kd_ ?_ | refine ka_ ?_ _)); exact BK234.out) hb); have n3_ := am_ (bt_ (by repeat (first | (with_reducible first | exact HB.out | apply ba_ | apply bn_ | apply bd_ | refine bs_ ?_ GE227.out | refine bs_ ?_ GE234.out) | exact HB.out)) hb); have n4_ := am_ (hbox); have n5_ := am_ ((by rw [hg]; exact (bz_ (by repeat (first | (with_reducible first | exact HB.out | apply ba_ | apply bn_ | apply bd_ | refine bs_ ?_ GE227.out | refine bs_ ?_ GE234.out) | exact HB.out))) : w.heap.size ≤ gb235)); have n6_ := am_ ((by rw [hg]; exact (bz_ (by repeat (first | (with_reducible first | exact HB.out | apply ba_ | apply bn_ | apply bd_ | refine bs_ ?_ GE227.out | refine bs_ ?_ GE234.out) | exact HB.out))) : w.heap.size ≤ gb235)); have n7_ := am_ ((by rw [hg]; exact nl_ (blk_lt (g := gb227) (o := .cells #[.slice A0_0 l0_0.length c0_0, .slice A0_1 l0_1.length c0_1] 44 (0, 0)) (by (with_reducible repeat (first | refine kn_ ?_ _ | refine kd_ ?_ | refine ka_ ?_ _)); refine blk_far ?_ NB227_234.out _; (with_reducible repeat (first | refine kn_ ?_ _ | refine kd_ ?_ | refine ka_ ?_ _)); refine blk_far ?_ NB227_234.out _; (with_reducible repeat (first | refine kn_ ?_ _ | refine kd_ ?_ | refine ka_ ?_ _)); exact BK227.out)) : gb227 ≠ gb235)); have n8_ := am_ ((by rw [hg]; exact Nat.ne_of_gt (blk_lt (g := gb227) (o := .cells #[.slice A0_0 l0_0.length c0_0, .slice A0_1 l0_1.length c0_1] 44 (0, 0)) (by (with_reducible repeat (first | refine kn_ ?_ _ | refine kd_ ?_ | refine ka_ ?_ _)); refine blk_far ?_ NB227_234.out _; (with_reducible repeat (first | refine kn_ ?_ _ | refine kd_ ?_ | refine ka_ ?_ _)); refine blk_far ?_ NB227_234.out _; (with_reducible repeat (first | refine kn_ ?_ _ | refine kd_ ?_ | refine ka_ ?_ _)); exact BK227.out)) : gb235 ≠ gb227)); have n9_ := am_ ((by rw [hg]; exact nl_ (blk_lt (g := gb234) (o := .cells #[.string t228, .bool t229] 25 (0, 0)) (by (with_reducible repeat (first | refine kn_ ?_ _ | refine kd_ ?_ | refine ka_ ?_ _)); refine blk_put (cs := #[.string t228, .bool false]) ?_ 1 _ rfl; (with_reducible repeat (first | refine kn_ ?_ _ | refine kd_ ?_ | refine ka_ ?_ _)); refine blk_put (cs := #[.string (⟨#[]⟩ : ByteArray), .bool false]) ?_ 0 _ rfl; (with_reducible repeat (first | refine kn_ ?_ _ | refine kd_ ?_ | refine ka_ ?_ _)); exact BK234.out)) : gb234 ≠ gb235)); have n10_ := am_ ((by rw [hg]; exact Nat.ne_of_gt (blk_lt (g := gb234) (o := .cells #[.string t228, .bool t229] 25 (0, 0)) (by (with_reducible repeat (first | refine kn_ ?_ _ | refine kd_ ?_ | refine ka_ ?_ _)); refine blk_put (cs := #[.string t228, .bool false]) ?_ 1 _ rfl; (with_reducible repeat (first | refine kn_ ?_ _ | refine kd_ ?_ | refine ka_ ?_ _)); refine blk_put (cs := #[.string (⟨#[]⟩ : ByteArray), .bool false]) ?_ 0 _ rfl; (with_reducible repeat (first | refine kn_ ?_ _ | refine kd_ ?_ | refine ka_ ?_ _)); exact BK234.out)) : gb235 ≠ gb234)); clear HO232; clear BK227; clear BK234; clear HB; have HO232 := n0_; have BK227 := n1_; have BK234 := n2_; have HB := n3_; have BK235 := n4_; have GW235 := n5_; have GE235 := n6_; have NB227_235 := n7_; have NB235_227 := n8_; have NB234_235 := n9_; have NB235_234 := n10_; clear n0_ n1_ n2_ n3_ n4_ n5_ n6_ n7_ n8_ n9_ n10_; clear hb hbox hg))
    go_loopg [7, 8, 9] kj1 (fun kq v7 v8 v9 w' => ∃ (x7_2 : List (S46)) (x8_2 : Int) (x9_2 : Int) (x236000_2 : ByteArray) (x236001_2 : Bool), v8 = .int .i64 x8_2 ∧ v9 = .int .i64 x9_2 ∧ Aside0 (pouchlaw1_FrameParts.l0 kq t230 t233 x7_2 x8_2 x9_2 l0_0 l0_1 t228 t229 x236000_2 x236001_2 = some r) ∧ Aside0 (kq ≤ kj1) ∧ Aside0 (Kd.R k46 46 w' w.heap.size (fun k_ => some k_ ≠ (v7 : Value).ownBlock) v231 t230) ∧ Aside0 (Kd.R k46 46 w' w.heap.size (fun k_ => some k_ ≠ (v231 : Value).ownBlock) v7 x7_2) ∧ Aside0 (w'.heap[gb227]? = some (.cells #[(.slice A0_0 l0_0.length c0_0), (.slice A0_1 l0_1.length c0_1)] 44 (0, 0))) ∧ Aside0 (w'.heap[gb234]? = some (.cells #[.string t228, .bool t229] 25 (0, 0))) ∧ Aside0 (w'.heap[gb235]? = some (.cells #[.string x236000_2, .bool x236001_2] 25 (0, 0))) ∧ Aside0 (Below w.heap.size w w'))
    case atStart => exact ⟨(([] : List (S46))), (0), (0), ((⟨#[]⟩ : ByteArray)), (false), (by first | rfl | (simp; done) | (simp [*]; done)), (by first | rfl | (simp; done) | (simp [*]; done)), H', ⟨Nat.le_refl _⟩, ⟨by (with_reducible repeat (first | apply ra_ | apply rn_ | apply re_)); exact Kd.R_mono HO232.out (fun _ hk => (by simp [Value.ownBlock]))⟩, ⟨by first | exact Kd.R_nil _ _ _ _ _ | exact Kd.N_nil _ _ _ _ _ | exact Kd.V_nil _ _ _ _ _ | exact Kd.Q_nil _ _ _ _ _ | exact Kd.S_nil _ _ _ _ _⟩, ⟨by (with_reducible repeat (first | refine kn_ ?_ _ | refine kd_ ?_ | refine ka_ ?_ _)); exact BK227.out⟩, ⟨by (with_reducible repeat (first | refine kn_ ?_ _ | refine kd_ ?_ | refine ka_ ?_ _)); exact BK234.out⟩, ⟨by (with_reducible repeat (first | refine kn_ ?_ _ | refine kd_ ?_ | refine ka_ ?_ _)); exact BK235.out⟩, ⟨by repeat (first | (with_reducible first | exact HB.out | apply ba_ | apply bn_ | apply bd_ | refine bs_ ?_ GE227.out | refine bs_ ?_ GE234.out | refine bs_ ?_ GE235.out) | exact HB.out)⟩⟩
    case round =>
     clear H'
     try clear c1
     try clear p2
     try clear c4
     try clear c4b0
     try clear c4b1
     try clear c6
     try clear c7
     try clear c9
     try clear c12
     try clear hcz13_0
     try clear hcz13_1
     try clear hcz5_0
     try clear hcz5_1
     try clear hcz6_0
     try clear hcz6_1
     try clear hcz9_0
     try clear hcz9_1
     try clear hfz13_0
     try clear hfz13_1
     try clear hfz5_0
     try clear hfz5_1
     try clear hfz6_0
     try clear hfz6_1
     try clear hfz9_0
     try clear hfz9_1
     try clear p2
     obtain ⟨x7_2, x8_2, x9_2, x236000_2, x236001_2, rfl, rfl, HA, HK2, HO_4, HO_7, BK227, BK234, BK235, HB⟩ := hrel
     cases gk with
     | zero => exact absurd HA.out (by simp [pouchlaw1_FrameParts.l0])
     | succ k2 =>
      have H := HA.out
      clear HA
      simp only [pouchlaw1_FrameParts.l0] at H
      by_cases c15 : x8_2 < (l0_0.length : Int)
      ·
       rw [if_pos c15] at H
       have c15b0 : decide (x8_2 < (l0_0.length : Int)) = true := decide_eq_true c15
       clear c15
       have HC16 := am_ H
       clear H
       have hnb17 := NB227_234.out
       have hnc17 := NB234_227.out
       have hnb18 := NB227_235.out
       have hnc18 := NB235_227.out
       have hcz19_0 : wr.cell? ⟨gb227, 0, none⟩ = some (.slice A0_0 l0_0.length c0_0) := (blk_cell BK227.out 0).trans rfl
       have hcz19_1 : wr.cell? ⟨gb227, 1, none⟩ = some (.slice A0_1 l0_1.length c0_1) := (blk_cell BK227.out 1).trans rfl
       have hfz19_0 := blk_frozen BK227.out 0
       have hfz19_1 := blk_frozen BK227.out 1
       go_upto_if 48 with (fail)
       go_cut [10] (fun v10 wc => ∃ (kq : Nat) (x10_15 : Int), v10 = .int .i64 x10_15 ∧ Aside0 (pouchlaw1_FrameParts.j2 kq t230 t233 x7_2 x8_2 x9_2 x10_15 l0_0 l0_1 t228 t229 x236000_2 x236001_2 = some r) ∧ Aside0 (kq ≤ k2) ∧ Aside0 (Kd.R k46 46 wc w.heap.size (fun k_ => some k_ ≠ (u7 : Value).ownBlock) v231 t230) ∧ Aside0 (Kd.R k46 46 wc w.heap.size (fun k_ => some k_ ≠ (v231 : Value).ownBlock) u7 x7_2) ∧ Aside0 (wc.heap[gb227]? = some (.cells #[(.slice A0_0 l0_0.length c0_0), (.slice A0_1 l0_1.length c0_1)] 44 (0, 0))) ∧ Aside0 (wc.heap[gb234]? = some (.cells #[.string t228, .bool t229] 25 (0, 0))) ∧ Aside0 (wc.heap[gb235]? = some (.cells #[.string x236000_2, .bool x236001_2] 25 (0, 0))) ∧ Aside0 (Below w.heap.size w wc))
       case first =>
        have H := HC16.out
        clear HC16
        by_cases c20 : x9_2 < (l0_1.length : Int)
        ·
         rw [if_pos c20] at H
         have c20b0 : decide (x9_2 < (l0_1.length : Int)) = true := decide_eq_true c20
         clear c20
         (first | rw [c20b0] | (simp only [i64_w, i32_w]; rw [c20b0]) | skip)
         by_cases c21 : 0 ≤ x9_2
         ·
          rw [if_pos c21] at H
          have c21b0 : decide (0 ≤ x9_2) = true := decide_eq_true c21
          clear c21
          replace H := Option.bind_eq_some_iff.mp H
          obtain ⟨t237, A220, H⟩ := H
          replace H : (pouchlaw1_FrameParts.j2 k2 t230 t233 x7_2 x8_2 x9_2 (wrap64 (1 + t237)) l0_0 l0_1 t228 t229 x236000_2 x236001_2) = some r := H
          have A22 := am_ A220
          clear A220
          have H' := am_ H
          clear H
          have hnb23 := NB227_234.out
          have hnc23 := NB234_227.out
          have hnb24 := NB227_235.out
          have hnc24 := NB235_227.out
          have hcz25_0 : wr.cell? ⟨gb227, 0, none⟩ = some (.slice A0_0 l0_0.length c0_0) := (blk_cell BK227.out 0).trans rfl
          have hcz25_1 : wr.cell? ⟨gb227, 1, none⟩ = some (.slice A0_1 l0_1.length c0_1) := (blk_cell BK227.out 1).trans rfl
          have hfz25_0 := blk_frozen BK227.out 0
          have hfz25_1 := blk_frozen BK227.out 1
          have p236 : 0 ≤ (x9_2 : Int) := od_ (by first | (with_reducible assumption) | assumption)
          have q236 : x9_2 < (l0_1.length : Int) := od_ (by first | (with_reducible assumption) | assumption)
          obtain ⟨ad236, e236, hx236_0⟩ := Kd.at_int HR0_1.out x9_2 p236 q236
          cases e236
          replace hx236_0 := (HB.out.cell (bl_ w _ hx236_0)).trans hx236_0
          replace p236 := eq_true p236
          replace q236 := eq_true q236
          go_wp2_with (first | ((with_reducible refine gate_callee (f := 17) rfl ?_); refine goesL_ (some 54) rfl rfl Try.func17 (by kernel_rfl) rfl #[.int .i64 (rd l0_1 x9_2), .int .i64 100] rfl (by (try simp only [m1_, m2_, m3_]); first | done | rfl | (simp only [m4_, m5_]; rfl)) ?_; (with_reducible refine (pouchlaw0_Within.calls (rd l0_1 x9_2) 100 t237 _ A22.out).mono ?_); rintro e w' ⟨rfl, ⟨nd, rfl⟩⟩; refine ⟨_, rfl, ?_⟩))
          go_meet
          case rel => exact ⟨_, (wrap64 (1 + t237)), (by first | rfl | (simp; done) | (simp [*]; done)), H', ⟨by have := HJ1.out; have := HK2.out; first | omega | exact Nat.le_refl _⟩, ⟨by (with_reducible repeat (first | apply ra_ | apply rn_ | apply re_)); exact HO_4.out⟩, ⟨by (with_reducible repeat (first | apply ra_ | apply rn_ | apply re_)); exact HO_7.out⟩, ⟨by (with_reducible repeat (first | refine kn_ ?_ _ | refine kd_ ?_ | refine ka_ ?_ _)); exact BK227.out⟩, ⟨by (with_reducible repeat (first | refine kn_ ?_ _ | refine kd_ ?_ | refine ka_ ?_ _)); exact BK234.out⟩, ⟨by (with_reducible repeat (first | refine kn_ ?_ _ | refine kd_ ?_ | refine ka_ ?_ _)); exact BK235.out⟩, ⟨by repeat (first | (with_reducible first | exact HB.out | apply ba_ | apply bn_ | apply bd_ | refine bs_ ?_ GE227.out | refine bs_ ?_ GE234.out | refine bs_ ?_ GE235.out) | exact HB.out)⟩⟩
         ·
          rw [if_neg c21] at H
          exact absurd H (by simp)
        ·
         rw [if_neg c20] at H
         have c20b0 : decide (x9_2 < (l0_1.length : Int)) = false := decide_eq_false c20
         clear c20
         (first | rw [c20b0] | (simp only [i64_w, i32_w]; rw [c20b0]) | skip)
         have H' := am_ H
         clear H
         go_wp2
         go_meet
         case rel => exact ⟨_, (wrap64 (1 + (wrap64 ((l0_0.length : Int) / 7)))), (by first | rfl | (simp; done) | (simp [*]; done)), H', ⟨by have := HJ1.out; have := HK2.out; first | omega | exact Nat.le_refl _⟩, ⟨by (with_reducible repeat (first | apply ra_ | apply rn_ | apply re_)); exact HO_4.out⟩, ⟨by (with_reducible repeat (first | apply ra_ | apply rn_ | apply re_)); exact HO_7.out⟩, ⟨by (with_reducible repeat (first | refine kn_ ?_ _ | refine kd_ ?_ | refine ka_ ?_ _)); exact BK227.out⟩, ⟨by (with_reducible repeat (first | refine kn_ ?_ _ | refine kd_ ?_ | refine ka_ ?_ _)); exact BK234.out⟩, ⟨by (with_reducible repeat (first | refine kn_ ?_ _ | refine kd_ ?_ | refine ka_ ?_ _)); exact BK235.out⟩, ⟨by repeat (first | (with_reducible first | exact HB.out | apply ba_ | apply bn_ | apply bd_ | refine bs_ ?_ GE227.out | refine bs_ ?_ GE234.out | refine bs_ ?_ GE235.out) | exact HB.out)⟩⟩
       case rest =>
        clear HC16
        try clear c1
        try clear c2
        try clear p2
        try clear q2
        try clear hx2
        try clear c4
        try clear c4b0
        try clear c4b1
        try clear c6
        try clear p6
        try clear c7
        try clear c9
        try clear c12
        try clear c15
        try clear c15b0
        try clear c17
        try clear c18
        try clear c20
        try clear c20b0
        try clear c21
        try clear c21b0
        try clear c23
        try clear p23
        try clear q23
        try clear hx23
        try clear c24
        try clear hcz13_0
        try clear hcz13_1
        try clear hcz19_0
        try clear hcz19_1
        try clear hcz25_0
        try clear hcz25_1
        try clear hcz5_0
        try clear hcz5_1
        try clear hcz6_0
        try clear hcz6_1
        try clear hcz9_0
        try clear hcz9_1
        try clear hfz13_0
        try clear hfz13_1
        try clear hfz19_0
        try clear hfz19_1
        try clear hfz25_0
        try clear hfz25_1
        try clear hfz5_0
        try clear hfz5_1
        try clear hfz6_0
        try clear hfz6_1
        try clear hfz9_0
        try clear hfz9_1
        try clear hx236_0
        try clear p2
        try clear p236
        try clear q236
        obtain ⟨kq, x10_15, rfl, HA, HJ15, HO_4, HO_7, BK227, BK234, BK235, HB⟩ := hcut
        cases kq with
        | zero => exact absurd HA.out (by simp [pouchlaw1_FrameParts.j2])
        | succ kj15 =>
         have H := HA.out
         clear HA
         simp only [pouchlaw1_FrameParts.j2] at H
         obtain ⟨ji26, hji26⟩ : ∃ j_ : Int, (mn (wrap64 (x8_2 + x10_15)) (l0_0.length : Int)) = j_ := ⟨_, rfl⟩
         replace H : (if 0 ≤ x8_2 then (if x8_2 ≤ (ji26) then (if (ji26) ≤ (l0_0.length : Int) then ((frame_Feed.f kj15 x236000_2 x236001_2 ((l0_0.take ((ji26) : Int).toNat).drop (x8_2 : Int).toNat)).bind fun bt239 => ((pouchlaw1_num.f bt239.2.2.2).bind fun t246 => (if t246 = 0 then (if x7_2.length + bt239.2.2.1.length < 5864062014805 then (pouchlaw1_FrameParts.l0 kj15 t230 t233 (x7_2 ++ bt239.2.2.1) (wrap64 (x8_2 + x10_15)) (wrap64 (x9_2 + 1)) l0_0 l0_1 t228 t229 bt239.1 bt239.2.1) else (none)) else (some false)))) else (none)) else (none)) else (none)) = some r := by first | (rw [hji26] at H; exact H) | (simp only [hji26] at H ⊢; exact H)
         have hji26_ : (if (l0_0.length : Int) < (wrap64 (x8_2 + x10_15)) then (l0_0.length : Int) else (wrap64 (x8_2 + x10_15))) = ji26 := hji26
         by_cases c27 : 0 ≤ x8_2
         ·
          rw [if_pos c27] at H
          have c27b0 := eq_true c27
          have c27b1 : decide (0 ≤ x8_2) = true := decide_eq_true c27
          clear c27
          by_cases c28 : x8_2 ≤ (ji26)
          ·
           rw [if_pos c28] at H
           have c28b0 := eq_true c28
           have c28b1 : decide (x8_2 ≤ (ji26)) = true := decide_eq_true c28
           clear c28
           by_cases c29 : (ji26) ≤ (l0_0.length : Int)
           ·
            rw [if_pos c29] at H
            have c29b0 := eq_true c29
            have c29b1 : decide ((ji26) ≤ (l0_0.length : Int)) = true := decide_eq_true c29
            clear c29
            replace H := Option.bind_eq_some_iff.mp H
            obtain ⟨⟨t239, t240, t241, t244⟩, A300, H⟩ := H
            replace H : ((pouchlaw1_num.f t244).bind fun t246 => (if t246 = 0 then (if x7_2.length + t241.length < 5864062014805 then (pouchlaw1_FrameParts.l0 kj15 t230 t233 (x7_2 ++ t241) (wrap64 (x8_2 + x10_15)) (wrap64 (x9_2 + 1)) l0_0 l0_1 t228 t229 t239 t240) else (none)) else (some false))) = some r := H
            have A30 := am_ A300
            clear A300
            replace H := Option.bind_eq_some_iff.mp H
            obtain ⟨t246, A310, H⟩ := H
            replace H : (if t246 = 0 then (if x7_2.length + t241.length < 5864062014805 then (pouchlaw1_FrameParts.l0 kj15 t230 t233 (x7_2 ++ t241) (wrap64 (x8_2 + x10_15)) (wrap64 (x9_2 + 1)) l0_0 l0_1 t228 t229 t239 t240) else (none)) else (some false)) = some r := H
            have A31 := am_ A310
            clear A310
            by_cases c32 : t246 = 0
            ·
             rw [if_pos c32] at H
             have c32b0 : (t246 == 0) = true := beq_iff_eq.mpr c32
             have c32b1 : (t246 != 0) = false := bne_eq_false_iff_eq.mpr c32
             clear c32
             by_cases c33 : x7_2.length + t241.length < 5864062014805
             ·
              rw [if_pos c33] at H
              have LMc33 := am_ c33
              clear c33
              obtain ⟨y247, hy247⟩ : ∃ y_ : List (S46), y_ = (x7_2 ++ t241) := ⟨_, rfl⟩
              replace H : (pouchlaw1_FrameParts.l0 kj15 t230 t233 y247 (wrap64 (x8_2 + x10_15)) (wrap64 (x9_2 + 1)) l0_0 l0_1 t228 t229 t239 t240) = some r := by first | (rw [hy247]; with_reducible exact H) | (have H2_ := (Option.bind_some _ _).symm.trans H; rw [hy247]; with_reducible exact H2_) | (have H2_ := (Option.bind_some _ _).symm.trans H; with_reducible exact H2_) | with_reducible exact H | (rw [hy247]; exact H) | exact H
              have Ny247 := am_ hy247
              clear hy247
              have H' := am_ H
              clear H
              try go_wp2
              have n0_ := am_ (re_ HO_4.out)
              have n1_ := am_ (re_ HO_7.out)
              have n2_ := am_ (kd_ BK227.out)
              have n3_ := am_ (kd_ BK234.out)
              have n4_ := am_ (kd_ BK235.out)
              have n5_ := am_ (bd_ HB.out)
              clear HO_4; clear HO_7; clear BK227; clear BK234; clear BK235; clear HB; have HO_4 := n0_; have HO_7 := n1_; have BK227 := n2_; have BK234 := n3_; have BK235 := n4_; have HB := n5_; clear n0_ n1_ n2_ n3_ n4_ n5_
              obtain ⟨i035, hi035, _, hsz35, _⟩ := info_parts info5
              obtain ⟨A35, hcut35, hA35, hC35⟩ := print_mid_of (P := Try.prog) (Value.int .u8) 0 26 5 .i64 .i64 Try.underlying26 hi035 hsz35 A0_0 c0_0 l0_0 x8_2 (ji26) (od_ (by first | (with_reducible assumption) | assumption)) (by first | omega | exact od_ (by first | (with_reducible assumption) | assumption)) (od_ (by first | (with_reducible assumption) | assumption)) HC0_0.out
              have HR238 := am_ (Kd.C_of_reads (h1 := fun _ => rfl) (hA35 _ (Kd.reads_of_C HR0_0.out)))
              have HC238 := am_ hC35
              clear hA35 hC35 hi035 hsz35
              refine start_ (n := 21) (S := fun w' => w'.cell? ⟨gb235, 0, none⟩ = some (.string x236000_2) ∧ w'.cell? ⟨gb235, 1, none⟩ = some (.bool x236001_2) ∧ w'.cell? ⟨gb227, 0, none⟩ = some (.slice A0_0 l0_0.length c0_0) ∧ w'.cell? ⟨gb227, 1, none⟩ = some (.slice A0_1 l0_1.length c0_1)) (ds := []) #[false, false, false, false, false, false, false, false, false, false, false, false, false, false, false, false, false, false, false, false, false] (by kernel_rfl) rfl rfl ⟨(blk_cell BK235.out 0).trans rfl, (blk_cell BK235.out 1).trans rfl, (blk_cell BK227.out 0).trans rfl, (blk_cell BK227.out 1).trans rfl⟩ (fun hHeld => ?_); refine with_tabW pouchlaw1_FrameParts.tab13 pouchlaw1_FrameParts.bits13 (fun HT_ HW_ => ?_)
              generalize wc.drew = w34 at HO_4 HO_7 BK227 BK234 BK235 HB HR238 hHeld ⊢
              refine pure_ (i := 1) (N := some 58) (v := ?_) (a' := ?_) #[false, true, false, false, false, false, false, false, false, false, false, false, false, false, false, false, false, false, false, false, false] rfl rfl (any_of HT_.out (by kernel_rfl)) (fun _ _ _ h => h) (Or.inl ⟨by rfl, ?_⟩) ?_ ?_
              rotate_left
              · intro w'; go_simp; with_reducible rfl
              rotate_left
              ·
               simp only [Act.put, s1_, s2_, s3_, i64_w, i32_w]
               rfl
              refine pure_ (i := 3) (N := some 60) (v := ?_) (a' := ?_) #[false, true, false, true, false, false, false, false, false, false, false, false, false, false, false, false, false, false, false, false, false] rfl rfl (any_of HT_.out (by kernel_rfl)) (fun _ _ _ h => h) (Or.inl ⟨by rfl, ?_⟩) ?_ ?_
              rotate_left
              · intro w'; go_simp; with_reducible rfl
              rotate_left
              ·
               simp only [Act.put, s1_, s2_, s3_, i64_w, i32_w]
               rfl
              refine pure_ (i := 4) (N := some 61) (v := ?_) (a' := ?_) #[false, true, false, true, true, false, false, false, false, false, false, false, false, false, false, false, false, false, false, false, false] rfl rfl (any_of HT_.out (by kernel_rfl)) (fun _ _ _ h => h) (Or.inl ⟨by rfl, ?_⟩) ?_ ?_
              rotate_left
              · intro w'; go_simp; with_reducible rfl
              rotate_left
              ·
               simp only [Act.put, s1_, s2_, s3_, i64_w, i32_w]
               rfl
              refine pure_ (i := 5) (N := some 62) (v := ?_) (a' := ?_) #[false, true, false, true, true, true, false, false, false, false, false, false, false, false, false, false, false, false, false, false, false] rfl rfl (any_of HT_.out (by kernel_rfl)) (fun _ _ _ h => h) (Or.inl ⟨by rfl, ?_⟩) ?_ ?_
              rotate_left
              · intro w'; go_simp; with_reducible rfl
              rotate_left
              ·
               simp only [Act.put, s1_, s2_, s3_, i64_w, i32_w]
               rfl
              refine pure_ (i := 6) (N := some 63) (v := ?_) (a' := ?_) #[false, true, false, true, true, true, true, false, false, false, false, false, false, false, false, false, false, false, false, false, false] rfl rfl (any_of HT_.out (by kernel_rfl)) (fun _ _ _ h => h) (Or.inl ⟨by rfl, ?_⟩) ?_ ?_
              rotate_left
              · intro w'; go_simp; with_reducible rfl
              rotate_left
              ·
               simp only [Act.put, s1_, s2_, s3_, i64_w, i32_w]
               rfl
              refine pure_ (i := 7) (N := some 64) (v := ?_) (a' := ?_) #[false, true, false, true, true, true, true, true, false, false, false, false, false, false, false, false, false, false, false, false, false] rfl rfl (any_of HT_.out (by kernel_rfl)) (fun _ _ _ h => h) (Or.inl ⟨by rfl, ?_⟩) ?_ ?_
              rotate_left
              · intro w'; go_simp; with_reducible rfl
              rotate_left
              ·
               simp only [Act.put, s1_, s2_, s3_, i64_w, i32_w]
               rfl
              refine take_ (i := 0) (N := some 57) (v := ?_) (a' := ?_) #[true, true, false, true, true, true, true, true, false, false, false, false, false, false, false, false, false, false, false, false, false] rfl rfl (take_ofW HT_.out HW_.out (by kernel_rfl)) (fun _ _ _ h => h) (Or.inl ⟨by rfl, ?_⟩) hHeld ?_ ?_
              rotate_left
              ·
               rintro w' ⟨s0, s1, s2, s3⟩
               go_simp; with_reducible rfl
              rotate_left
              ·
               simp only [Act.put, s1_, s2_, s3_, i64_w, i32_w]
               rfl
              refine take_ (i := 2) (N := some 59) (v := ?_) (a' := ?_) #[true, true, true, true, true, true, true, true, false, false, false, false, false, false, false, false, false, false, false, false, false] rfl rfl (take_ofW HT_.out HW_.out (by kernel_rfl)) (fun _ _ _ h => h) (Or.inl ⟨by rfl, ?_⟩) hHeld ?_ ?_
              rotate_left
              ·
               rintro w' ⟨s0, s1, s2, s3⟩
               go_simp; with_reducible rfl
              rotate_left
              ·
               simp only [Act.put, s1_, s2_, s3_, i64_w, i32_w]
               rfl
              refine take_ (i := 8) (N := some 65) (v := ?_) (a' := ?_) #[true, true, true, true, true, true, true, true, true, false, false, false, false, false, false, false, false, false, false, false, false] rfl rfl (take_ofW HT_.out HW_.out (by kernel_rfl)) (fun _ _ _ h => h) (Or.inl ⟨by rfl, ?_⟩) hHeld ?_ ?_
              rotate_left
              ·
               rintro w' ⟨s0, s1, s2, s3⟩
               go_simp; with_reducible rfl
              rotate_left
              ·
               simp only [Act.put, s1_, s2_, s3_, i64_w, i32_w]
               rfl
              refine pure_ (i := 9) (N := some 66) (v := ?_) (a' := ?_) #[true, true, true, true, true, true, true, true, true, true, false, false, false, false, false, false, false, false, false, false, false] rfl rfl (any_of HT_.out (by kernel_rfl)) (fun _ _ _ h => h) (Or.inl ⟨by rfl, ?_⟩) ?_ ?_
              rotate_left
              · intro w'; go_simp; with_reducible rfl
              rotate_left
              ·
               simp only [Act.put, s1_, s2_, s3_, i64_w, i32_w]
               rfl
              refine pure_ (i := 10) (N := some 67) (v := ?_) (a' := ?_) #[true, true, true, true, true, true, true, true, true, true, true, false, false, false, false, false, false, false, false, false, false] rfl rfl (any_of HT_.out (by kernel_rfl)) (fun _ _ _ h => h) (Or.inl ⟨by rfl, ?_⟩) ?_ ?_
              rotate_left
              · intro w'; go_simp; with_reducible rfl
              rotate_left
              ·
               simp only [Act.put, s1_, s2_, s3_, i64_w, i32_w]
               rfl
              refine pure_ (i := 11) (N := some 68) (v := ?_) (a' := ?_) #[true, true, true, true, true, true, true, true, true, true, true, true, false, false, false, false, false, false, false, false, false] rfl rfl (any_of HT_.out (by kernel_rfl)) (fun _ _ _ h => h) (Or.inl ⟨by rfl, ?_⟩) ?_ ?_
              rotate_left
              · intro w'; go_simp; with_reducible rfl
              rotate_left
              ·
               simp only [Act.put, s1_, s2_, s3_, i64_w, i32_w]
               rfl
              refine join_ (σ := Value × Nat) 3 #[true, true, true, true, true, true, true, true, true, true, true, true, true, true, true, true, true, true, false, false, false] (fun s_ => [(69, .tuple #[.agg #[.string t239, .bool t240], s_.1, .int .i64 t244]), (11, .pointer (some ⟨s_.2, 0, none⟩)), (56, .tuple #[.agg #[.string t239, .bool t240], s_.1, .int .i64 t244]), (70, .agg #[.string t239, .bool t240]), (71, s_.1), (72, .int .i64 t244)]) (fun s_ w' => (w'.cell? ⟨gb235, 0, none⟩ = some (.string x236000_2) ∧ w'.cell? ⟨gb235, 1, none⟩ = some (.bool x236001_2) ∧ w'.cell? ⟨gb227, 0, none⟩ = some (.slice A0_0 l0_0.length c0_0) ∧ w'.cell? ⟨gb227, 1, none⟩ = some (.slice A0_1 l0_1.length c0_1)) ∧ (Kd.R k46 46 w' w.heap.size (fun k_ => some k_ ≠ (v231 : Value).ownBlock ∧ some k_ ≠ (u7 : Value).ownBlock) s_.1 t241) ∧ (Kd.R k46 46 w' w.heap.size (fun k_ => some k_ ≠ (s_.1 : Value).ownBlock ∧ some k_ ≠ (u7 : Value).ownBlock) v231 t230) ∧ (Kd.R k46 46 w' w.heap.size (fun k_ => some k_ ≠ (s_.1 : Value).ownBlock ∧ some k_ ≠ (v231 : Value).ownBlock) u7 x7_2) ∧ (w'.heap[gb227]? = some (.cells #[.slice A0_0 l0_0.length c0_0, .slice A0_1 l0_1.length c0_1] 44 (0, 0))) ∧ (w'.heap[gb234]? = some (.cells #[.string t228, .bool t229] 25 (0, 0))) ∧ (w'.heap[gb235]? = some (.cells #[.string x236000_2, .bool x236001_2] 25 (0, 0))) ∧ (w'.heap[s_.2]? = some (.cells #[.string (⟨#[]⟩ : ByteArray), .bool false] 25 (0, 0))) ∧ (w.heap.size ≤ s_.2) ∧ (w.heap.size ≤ s_.2) ∧ (gb227 ≠ s_.2) ∧ (s_.2 ≠ gb227) ∧ (gb234 ≠ s_.2) ∧ (s_.2 ≠ gb234) ∧ (gb235 ≠ s_.2) ∧ (s_.2 ≠ gb235) ∧ (Below w.heap.size w w')) ?_ ?_
              rotate_left
              ·
               intro hCont
               refine two_ (i := 12) (j := 17) (Ni := some 69) (Nj := some 11) #[true, true, true, true, true, true, true, true, true, true, true, true, true, false, false, false, false, false, false, false, false] #[true, true, true, true, true, true, true, true, true, true, true, true, false, false, false, false, false, true, false, false, false] rfl rfl rfl rfl (two_of HT_.out (by kernel_rfl)) (by decide) (by decide) (fun K hK => ?_) (fun K hK => ?_)
               ·
                skip
                refine goes_ Try.func9 (by kernel_rfl) rfl #[.agg #[.string x236000_2, .bool x236001_2], .slice A35 ((l0_0.take ((ji26) : Int).toNat).drop (x8_2 : Int).toNat).length (c0_0 - x8_2.toNat)] (by rfl) rfl rfl (by (try simp only [m1_, m2_, m3_]); first | done | (rw [show ((l0_0.take ((ji26) : Int).toNat).drop (x8_2 : Int).toNat).length = ((ji26).toNat - x8_2.toNat) from (by rw [m4_, m5_]; have h_ : ((ji26) : Int) ≤ (l0_0.length : Int) := od_ (by first | (with_reducible assumption) | assumption); omega)] <;> rfl) | (simp only [hji26]; rfl) | rfl | (simp only [m4_, m5_]; rfl)) ?_
                with_reducible refine (frame_Feed.calls kj15 x236000_2 x236001_2 _ _ ((l0_0.take ((ji26) : Int).toNat).drop (x8_2 : Int).toNat) t239 t240 t241 t244 _ ?side1 ?side2 ?side3 A30.out).mono ?_
                (case side1 => repeat (first | exact (cb_ HR238.out HB.out) | (with_reducible refine ca_ ?_ _) | (with_reducible refine cn_ ?_ _) | (with_reducible refine cd_ ?_)))
                (case side2 => exact HC238.out)
                (case side3 => exact GrOk.below hG (by repeat (first | (with_reducible first | exact HB.out | apply ba_ | apply bn_ | apply bd_ | refine bs_ ?_ GE227.out | refine bs_ ?_ GE234.out | refine bs_ ?_ GE235.out) | exact HB.out)))
                rintro e w36 ⟨v242, rfl, ho0, hb⟩
                refine ⟨_, rfl, ?_⟩
                have n0_ := am_ (Kd.R_elder' (by (with_reducible repeat (first | apply ra_ | apply rn_ | apply re_)); exact HO_4.out) (Kd.R_base ho0) hb)
                have n1_ := am_ (Kd.R_elder' (by (with_reducible repeat (first | apply ra_ | apply rn_ | apply re_)); exact HO_7.out) (Kd.R_base ho0) hb)
                have n2_ := am_ (Kd.R_lower (Kd.R_new' (Kd.R_new' ho0 (Kd.R_lt (by (with_reducible repeat (first | apply ra_ | apply rn_ | apply re_)); exact HO_4.out))) (Kd.R_lt (by (with_reducible repeat (first | apply ra_ | apply rn_ | apply re_)); exact HO_7.out))) (bz_ (by repeat (first | (with_reducible first | exact HB.out | apply ba_ | apply bn_ | apply bd_ | refine bs_ ?_ GE227.out | refine bs_ ?_ GE234.out | refine bs_ ?_ GE235.out) | exact HB.out))))
                have n3_ := am_ (bb_ (g := gb227) (o := .cells #[.slice A0_0 l0_0.length c0_0, .slice A0_1 l0_1.length c0_1] 44 (0, 0)) (by (with_reducible repeat (first | refine kn_ ?_ _ | refine kd_ ?_ | refine ka_ ?_ _)); exact BK227.out) hb)
                have n4_ := am_ (bb_ (g := gb234) (o := .cells #[.string t228, .bool t229] 25 (0, 0)) (by (with_reducible repeat (first | refine kn_ ?_ _ | refine kd_ ?_ | refine ka_ ?_ _)); exact BK234.out) hb)
                have n5_ := am_ (bb_ (g := gb235) (o := .cells #[.string x236000_2, .bool x236001_2] 25 (0, 0)) (by (with_reducible repeat (first | refine kn_ ?_ _ | refine kd_ ?_ | refine ka_ ?_ _)); exact BK235.out) hb)
                have n6_ := am_ (bt_ (by repeat (first | (with_reducible first | exact HB.out | apply ba_ | apply bn_ | apply bd_ | refine bs_ ?_ GE227.out | refine bs_ ?_ GE234.out | refine bs_ ?_ GE235.out) | exact HB.out)) hb)
                clear HO_4; clear HO_7; clear BK227; clear BK234; clear BK235; clear HB; have HO_4 := n0_; have HO_7 := n1_; have HO243 := n2_; have BK227 := n3_; have BK234 := n4_; have BK235 := n5_; have HB := n6_; clear n0_ n1_ n2_ n3_ n4_ n5_ n6_
                (try clear hb)
                (try clear hb2)
                (try clear hk)
                (try clear hi)
                (try clear ho0)
                refine hK.out _ _ ⟨(blk_cell BK235.out 0).trans rfl, (blk_cell BK235.out 1).trans rfl, (blk_cell BK227.out 0).trans rfl, (blk_cell BK227.out 1).trans rfl⟩ (fun hHeld => ?_)
                clear hK K
                refine norm_ (a' := ?_) ?_ ?_
                rotate_left
                ·
                 show Act.put _ (some 69) _ = _
                 simp only [Act.put, s1_, s2_, s3_, i64_w, i32_w]
                 rfl
                refine pure_ (i := 13) (N := some 56) (v := ?_) (a' := ?_) #[true, true, true, true, true, true, true, true, true, true, true, true, true, true, false, false, false, false, false, false, false] rfl rfl (any_of HT_.out (by kernel_rfl)) (fun _ _ _ h => h) (Or.inl ⟨by rfl, ?_⟩) ?_ ?_
                rotate_left
                · intro w'; go_simp; with_reducible rfl
                rotate_left
                ·
                 simp only [Act.put, s1_, s2_, s3_, i64_w, i32_w]
                 rfl
                refine pure_ (i := 14) (N := some 70) (v := ?_) (a' := ?_) #[true, true, true, true, true, true, true, true, true, true, true, true, true, true, true, false, false, false, false, false, false] rfl rfl (any_of HT_.out (by kernel_rfl)) (fun _ _ _ h => h) (Or.inl ⟨by rfl, ?_⟩) ?_ ?_
                rotate_left
                · intro w'; go_simp; with_reducible rfl
                rotate_left
                ·
                 simp only [Act.put, s1_, s2_, s3_, i64_w, i32_w]
                 rfl
                refine pure_ (i := 15) (N := some 71) (v := ?_) (a' := ?_) #[true, true, true, true, true, true, true, true, true, true, true, true, true, true, true, true, false, false, false, false, false] rfl rfl (any_of HT_.out (by kernel_rfl)) (fun _ _ _ h => h) (Or.inl ⟨by rfl, ?_⟩) ?_ ?_
                rotate_left
                · intro w'; go_simp; with_reducible rfl
                rotate_left
                ·
                 simp only [Act.put, s1_, s2_, s3_, i64_w, i32_w]
                 rfl
                refine pure_ (i := 16) (N := some 72) (v := ?_) (a' := ?_) #[true, true, true, true, true, true, true, true, true, true, true, true, true, true, true, true, true, false, false, false, false] rfl rfl (any_of HT_.out (by kernel_rfl)) (fun _ _ _ h => h) (Or.inl ⟨by rfl, ?_⟩) ?_ ?_
                rotate_left
                · intro w'; go_simp; with_reducible rfl
                rotate_left
                ·
                 simp only [Act.put, s1_, s2_, s3_, i64_w, i32_w]
                 rfl
                refine one_ (i := 17) (N := some 11) #[true, true, true, true, true, true, true, true, true, true, true, true, true, true, true, true, true, true, false, false, false] rfl rfl (one_of HT_.out (by kernel_rfl)) (by decide) (fun K hK => ?_)
                refine box_step ?hg (N := 11) ?hd (cs := #[.string (⟨#[]⟩ : ByteArray), .bool false]) (t := 25) ?hr ?_; (case hd => rfl); (case hg => rfl); (case hr => first | (go_simp; done) | (go_simp; rfl))
                intro gb245 hg w37 hbox hb
                have n0_ := am_ (rb_ (by (with_reducible repeat (first | apply ra_ | apply rn_ | apply re_)); exact HO_4.out) hb)
                have n1_ := am_ (rb_ (by (with_reducible repeat (first | apply ra_ | apply rn_ | apply re_)); exact HO_7.out) hb)
                have n2_ := am_ (rb_ (by (with_reducible repeat (first | apply ra_ | apply rn_ | apply re_)); exact HO243.out) hb)
                have n3_ := am_ (bb_ (g := gb227) (o := .cells #[.slice A0_0 l0_0.length c0_0, .slice A0_1 l0_1.length c0_1] 44 (0, 0)) (by (with_reducible repeat (first | refine kn_ ?_ _ | refine kd_ ?_ | refine ka_ ?_ _)); exact BK227.out) hb)
                have n4_ := am_ (bb_ (g := gb234) (o := .cells #[.string t228, .bool t229] 25 (0, 0)) (by (with_reducible repeat (first | refine kn_ ?_ _ | refine kd_ ?_ | refine ka_ ?_ _)); exact BK234.out) hb)
                have n5_ := am_ (bb_ (g := gb235) (o := .cells #[.string x236000_2, .bool x236001_2] 25 (0, 0)) (by (with_reducible repeat (first | refine kn_ ?_ _ | refine kd_ ?_ | refine ka_ ?_ _)); exact BK235.out) hb)
                have n6_ := am_ (bt_ (by repeat (first | (with_reducible first | exact HB.out | apply ba_ | apply bn_ | apply bd_ | refine bs_ ?_ GE227.out | refine bs_ ?_ GE234.out | refine bs_ ?_ GE235.out) | exact HB.out)) hb)
                have n7_ := am_ (hbox)
                have n8_ := am_ ((by rw [hg]; exact (bz_ (by repeat (first | (with_reducible first | exact HB.out | apply ba_ | apply bn_ | apply bd_ | refine bs_ ?_ GE227.out | refine bs_ ?_ GE234.out | refine bs_ ?_ GE235.out) | exact HB.out))) : w.heap.size ≤ gb245))
                have n9_ := am_ ((by rw [hg]; exact (bz_ (by repeat (first | (with_reducible first | exact HB.out | apply ba_ | apply bn_ | apply bd_ | refine bs_ ?_ GE227.out | refine bs_ ?_ GE234.out | refine bs_ ?_ GE235.out) | exact HB.out))) : w.heap.size ≤ gb245))
                have n10_ := am_ ((by rw [hg]; exact nl_ (blk_lt (g := gb227) (o := .cells #[.slice A0_0 l0_0.length c0_0, .slice A0_1 l0_1.length c0_1] 44 (0, 0)) (by (with_reducible repeat (first | refine kn_ ?_ _ | refine kd_ ?_ | refine ka_ ?_ _)); exact BK227.out)) : gb227 ≠ gb245))
                have n11_ := am_ ((by rw [hg]; exact Nat.ne_of_gt (blk_lt (g := gb227) (o := .cells #[.slice A0_0 l0_0.length c0_0, .slice A0_1 l0_1.length c0_1] 44 (0, 0)) (by (with_reducible repeat (first | refine kn_ ?_ _ | refine kd_ ?_ | refine ka_ ?_ _)); exact BK227.out)) : gb245 ≠ gb227))
                have n12_ := am_ ((by rw [hg]; exact nl_ (blk_lt (g := gb234) (o := .cells #[.string t228, .bool t229] 25 (0, 0)) (by (with_reducible repeat (first | refine kn_ ?_ _ | refine kd_ ?_ | refine ka_ ?_ _)); exact BK234.out)) : gb234 ≠ gb245))
                have n13_ := am_ ((by rw [hg]; exact Nat.ne_of_gt (blk_lt (g := gb234) (o := .cells #[.string t228, .bool t229] 25 (0, 0)) (by (with_reducible repeat (first | refine kn_ ?_ _ | refine kd_ ?_ | refine ka_ ?_ _)); exact BK234.out)) : gb245 ≠ gb234))
                have n14_ := am_ ((by rw [hg]; exact nl_ (blk_lt (g := gb235) (o := .cells #[.string x236000_2, .bool x236001_2] 25 (0, 0)) (by (with_reducible repeat (first | refine kn_ ?_ _ | refine kd_ ?_ | refine ka_ ?_ _)); exact BK235.out)) : gb235 ≠ gb245))
                have n15_ := am_ ((by rw [hg]; exact Nat.ne_of_gt (blk_lt (g := gb235) (o := .cells #[.string x236000_2, .bool x236001_2] 25 (0, 0)) (by (with_reducible repeat (first | refine kn_ ?_ _ | refine kd_ ?_ | refine ka_ ?_ _)); exact BK235.out)) : gb245 ≠ gb235))
                clear HO_4; clear HO_7; clear HO243; clear BK227; clear BK234; clear BK235; clear HB; have HO_4 := n0_; have HO_7 := n1_; have HO243 := n2_; have BK227 := n3_; have BK234 := n4_; have BK235 := n5_; have HB := n6_; have BK245 := n7_; have GW245 := n8_; have GE245 := n9_; have NB227_245 := n10_; have NB245_227 := n11_; have NB234_245 := n12_; have NB245_234 := n13_; have NB235_245 := n14_; have NB245_235 := n15_; clear n0_ n1_ n2_ n3_ n4_ n5_ n6_ n7_ n8_ n9_ n10_ n11_ n12_ n13_ n14_ n15_; clear hb hbox hg
                refine hK.out _ _ ⟨(blk_cell BK235.out 0).trans rfl, (blk_cell BK235.out 1).trans rfl, (blk_cell BK227.out 0).trans rfl, (blk_cell BK227.out 1).trans rfl⟩ (fun hHeld => ?_)
                clear hK K
                refine norm_ (a' := ?_) ?_ ?_
                rotate_left
                ·
                 show Act.put _ (some 11) _ = _
                 simp only [Act.put, s1_, s2_, s3_, i64_w, i32_w]
                 rfl
                exact norm_ (by simp only [putAll, Act.put, s1_, s2_, s3_]) (hCont (v242, gb245) _ ⟨hHeld, (by (with_reducible repeat (first | apply ra_ | apply rn_ | apply re_)); exact Kd.R_mono HO243.out (fun _ hk => ⟨hk.1.2, hk.2⟩)), (by (with_reducible repeat (first | apply ra_ | apply rn_ | apply re_)); exact Kd.R_mono HO_4.out (fun _ hk => ⟨hk.2, hk.1⟩)), (by (with_reducible repeat (first | apply ra_ | apply rn_ | apply re_)); exact Kd.R_mono HO_7.out (fun _ hk => ⟨hk.2, hk.1⟩)), (by (with_reducible repeat (first | refine kn_ ?_ _ | refine kd_ ?_ | refine ka_ ?_ _)); exact BK227.out), (by (with_reducible repeat (first | refine kn_ ?_ _ | refine kd_ ?_ | refine ka_ ?_ _)); exact BK234.out), (by (with_reducible repeat (first | refine kn_ ?_ _ | refine kd_ ?_ | refine ka_ ?_ _)); exact BK235.out), (by (with_reducible repeat (first | refine kn_ ?_ _ | refine kd_ ?_ | refine ka_ ?_ _)); exact BK245.out), GW245.out, GE245.out, NB227_245.out, NB245_227.out, NB234_245.out, NB245_234.out, NB235_245.out, NB245_235.out, (by repeat (first | (with_reducible first | exact HB.out | apply ba_ | apply bn_ | apply bd_ | refine bs_ ?_ GE227.out | refine bs_ ?_ GE234.out | refine bs_ ?_ GE235.out | refine bs_ ?_ GE245.out) | exact HB.out))⟩)
               ·
                skip
                refine box_step ?hg (N := 11) ?hd (cs := #[.string (⟨#[]⟩ : ByteArray), .bool false]) (t := 25) ?hr ?_; (case hd => rfl); (case hg => rfl); (case hr => first | (go_simp; done) | (go_simp; rfl))
                intro gb245 hg w36 hbox hb
                have n0_ := am_ (rb_ (by (with_reducible repeat (first | apply ra_ | apply rn_ | apply re_)); exact HO_4.out) hb)
                have n1_ := am_ (rb_ (by (with_reducible repeat (first | apply ra_ | apply rn_ | apply re_)); exact HO_7.out) hb)
                have n2_ := am_ (bb_ (g := gb227) (o := .cells #[.slice A0_0 l0_0.length c0_0, .slice A0_1 l0_1.length c0_1] 44 (0, 0)) (by (with_reducible repeat (first | refine kn_ ?_ _ | refine kd_ ?_ | refine ka_ ?_ _)); exact BK227.out) hb)
                have n3_ := am_ (bb_ (g := gb234) (o := .cells #[.string t228, .bool t229] 25 (0, 0)) (by (with_reducible repeat (first | refine kn_ ?_ _ | refine kd_ ?_ | refine ka_ ?_ _)); exact BK234.out) hb)
                have n4_ := am_ (bb_ (g := gb235) (o := .cells #[.string x236000_2, .bool x236001_2] 25 (0, 0)) (by (with_reducible repeat (first | refine kn_ ?_ _ | refine kd_ ?_ | refine ka_ ?_ _)); exact BK235.out) hb)
                have n5_ := am_ (bt_ (by repeat (first | (with_reducible first | exact HB.out | apply ba_ | apply bn_ | apply bd_ | refine bs_ ?_ GE227.out | refine bs_ ?_ GE234.out | refine bs_ ?_ GE235.out) | exact HB.out)) hb)
                have n6_ := am_ (hbox)
                have n7_ := am_ ((by rw [hg]; exact (bz_ (by repeat (first | (with_reducible first | exact HB.out | apply ba_ | apply bn_ | apply bd_ | refine bs_ ?_ GE227.out | refine bs_ ?_ GE234.out | refine bs_ ?_ GE235.out) | exact HB.out))) : w.heap.size ≤ gb245))
                have n8_ := am_ ((by rw [hg]; exact (bz_ (by repeat (first | (with_reducible first | exact HB.out | apply ba_ | apply bn_ | apply bd_ | refine bs_ ?_ GE227.out | refine bs_ ?_ GE234.out | refine bs_ ?_ GE235.out) | exact HB.out))) : w.heap.size ≤ gb245))
                have n9_ := am_ ((by rw [hg]; exact nl_ (blk_lt (g := gb227) (o := .cells #[.slice A0_0 l0_0.length c0_0, .slice A0_1 l0_1.length c0_1] 44 (0, 0)) (by (with_reducible repeat (first | refine kn_ ?_ _ | refine kd_ ?_ | refine ka_ ?_ _)); exact BK227.out)) : gb227 ≠ gb245))
                have n10_ := am_ ((by rw [hg]; exact Nat.ne_of_gt (blk_lt (g := gb227) (o := .cells #[.slice A0_0 l0_0.length c0_0, .slice A0_1 l0_1.length c0_1] 44 (0, 0)) (by (with_reducible repeat (first | refine kn_ ?_ _ | refine kd_ ?_ | refine ka_ ?_ _)); exact BK227.out)) : gb245 ≠ gb227))
                have n11_ := am_ ((by rw [hg]; exact nl_ (blk_lt (g := gb234) (o := .cells #[.string t228, .bool t229] 25 (0, 0)) (by (with_reducible repeat (first | refine kn_ ?_ _ | refine kd_ ?_ | refine ka_ ?_ _)); exact BK234.out)) : gb234 ≠ gb245))
                have n12_ := am_ ((by rw [hg]; exact Nat.ne_of_gt (blk_lt (g := gb234) (o := .cells #[.string t228, .bool t229] 25 (0, 0)) (by (with_reducible repeat (first | refine kn_ ?_ _ | refine kd_ ?_ | refine ka_ ?_ _)); exact BK234.out)) : gb245 ≠ gb234))
                have n13_ := am_ ((by rw [hg]; exact nl_ (blk_lt (g := gb235) (o := .cells #[.string x236000_2, .bool x236001_2] 25 (0, 0)) (by (with_reducible repeat (first | refine kn_ ?_ _ | refine kd_ ?_ | refine ka_ ?_ _)); exact BK235.out)) : gb235 ≠ gb245))
                have n14_ := am_ ((by rw [hg]; exact Nat.ne_of_gt (blk_lt (g := gb235) (o := .cells #[.string x236000_2, .bool x236001_2] 25 (0, 0)) (by (with_reducible repeat (first | refine kn_ ?_ _ | refine kd_ ?_ | refine ka_ ?_ _)); exact BK235.out)) : gb245 ≠ gb235))
                clear HO_4; clear HO_7; clear BK227; clear BK234; clear BK235; clear HB; have HO_4 := n0_; have HO_7 := n1_; have BK227 := n2_; have BK234 := n3_; have BK235 := n4_; have HB := n5_; have BK245 := n6_; have GW245 := n7_; have GE245 := n8_; have NB227_245 := n9_; have NB245_227 := n10_; have NB234_245 := n11_; have NB245_234 := n12_; have NB235_245 := n13_; have NB245_235 := n14_; clear n0_ n1_ n2_ n3_ n4_ n5_ n6_ n7_ n8_ n9_ n10_ n11_ n12_ n13_ n14_; clear hb hbox hg
                refine hK.out _ _ ⟨(blk_cell BK235.out 0).trans rfl, (blk_cell BK235.out 1).trans rfl, (blk_cell BK227.out 0).trans rfl, (blk_cell BK227.out 1).trans rfl⟩ (fun hHeld => ?_)
                clear hK K
                refine norm_ (a' := ?_) ?_ ?_
                rotate_left
                ·
                 show Act.put _ (some 11) _ = _
                 simp only [Act.put, s1_, s2_, s3_, i64_w, i32_w]
                 rfl
                refine one_ (i := 12) (N := some 69) #[true, true, true, true, true, true, true, true, true, true, true, true, true, false, false, false, false, true, false, false, false] rfl rfl (one_of HT_.out (by kernel_rfl)) (by decide) (fun K hK => ?_)
                refine goes_ Try.func9 (by kernel_rfl) rfl #[.agg #[.string x236000_2, .bool x236001_2], .slice A35 ((l0_0.take ((ji26) : Int).toNat).drop (x8_2 : Int).toNat).length (c0_0 - x8_2.toNat)] (by rfl) rfl rfl (by (try simp only [m1_, m2_, m3_]); first | done | (rw [show ((l0_0.take ((ji26) : Int).toNat).drop (x8_2 : Int).toNat).length = ((ji26).toNat - x8_2.toNat) from (by rw [m4_, m5_]; have h_ : ((ji26) : Int) ≤ (l0_0.length : Int) := od_ (by first | (with_reducible assumption) | assumption); omega)] <;> rfl) | (simp only [hji26]; rfl) | rfl | (simp only [m4_, m5_]; rfl)) ?_
                with_reducible refine (frame_Feed.calls kj15 x236000_2 x236001_2 _ _ ((l0_0.take ((ji26) : Int).toNat).drop (x8_2 : Int).toNat) t239 t240 t241 t244 _ ?side1 ?side2 ?side3 A30.out).mono ?_
                (case side1 => repeat (first | exact (cb_ HR238.out HB.out) | (with_reducible refine ca_ ?_ _) | (with_reducible refine cn_ ?_ _) | (with_reducible refine cd_ ?_)))
                (case side2 => exact HC238.out)
                (case side3 => exact GrOk.below hG (by repeat (first | (with_reducible first | exact HB.out | apply ba_ | apply bn_ | apply bd_ | refine bs_ ?_ GE227.out | refine bs_ ?_ GE234.out | refine bs_ ?_ GE235.out | refine bs_ ?_ GE245.out) | exact HB.out)))
                rintro e w37 ⟨v242, rfl, ho0, hb⟩
                refine ⟨_, rfl, ?_⟩
                have n0_ := am_ (Kd.R_elder' (by (with_reducible repeat (first | apply ra_ | apply rn_ | apply re_)); exact HO_4.out) (Kd.R_base ho0) hb)
                have n1_ := am_ (Kd.R_elder' (by (with_reducible repeat (first | apply ra_ | apply rn_ | apply re_)); exact HO_7.out) (Kd.R_base ho0) hb)
                have n2_ := am_ (Kd.R_lower (Kd.R_new' (Kd.R_new' ho0 (Kd.R_lt (by (with_reducible repeat (first | apply ra_ | apply rn_ | apply re_)); exact HO_4.out))) (Kd.R_lt (by (with_reducible repeat (first | apply ra_ | apply rn_ | apply re_)); exact HO_7.out))) (bz_ (by repeat (first | (with_reducible first | exact HB.out | apply ba_ | apply bn_ | apply bd_ | refine bs_ ?_ GE227.out | refine bs_ ?_ GE234.out | refine bs_ ?_ GE235.out | refine bs_ ?_ GE245.out) | exact HB.out))))
                have n3_ := am_ (bb_ (g := gb227) (o := .cells #[.slice A0_0 l0_0.length c0_0, .slice A0_1 l0_1.length c0_1] 44 (0, 0)) (by (with_reducible repeat (first | refine kn_ ?_ _ | refine kd_ ?_ | refine ka_ ?_ _)); exact BK227.out) hb)
                have n4_ := am_ (bb_ (g := gb234) (o := .cells #[.string t228, .bool t229] 25 (0, 0)) (by (with_reducible repeat (first | refine kn_ ?_ _ | refine kd_ ?_ | refine ka_ ?_ _)); exact BK234.out) hb)
                have n5_ := am_ (bb_ (g := gb235) (o := .cells #[.string x236000_2, .bool x236001_2] 25 (0, 0)) (by (with_reducible repeat (first | refine kn_ ?_ _ | refine kd_ ?_ | refine ka_ ?_ _)); exact BK235.out) hb)
                have n6_ := am_ (bb_ (g := gb245) (o := .cells #[.string (⟨#[]⟩ : ByteArray), .bool false] 25 (0, 0)) (by (with_reducible repeat (first | refine kn_ ?_ _ | refine kd_ ?_ | refine ka_ ?_ _)); exact BK245.out) hb)
                have n7_ := am_ (bt_ (by repeat (first | (with_reducible first | exact HB.out | apply ba_ | apply bn_ | apply bd_ | refine bs_ ?_ GE227.out | refine bs_ ?_ GE234.out | refine bs_ ?_ GE235.out | refine bs_ ?_ GE245.out) | exact HB.out)) hb)
                clear HO_4; clear HO_7; clear BK227; clear BK234; clear BK235; clear BK245; clear HB; have HO_4 := n0_; have HO_7 := n1_; have HO243 := n2_; have BK227 := n3_; have BK234 := n4_; have BK235 := n5_; have BK245 := n6_; have HB := n7_; clear n0_ n1_ n2_ n3_ n4_ n5_ n6_ n7_
                (try clear hb)
                (try clear hb2)
                (try clear hk)
                (try clear hi)
                (try clear ho0)
                refine hK.out _ _ ⟨(blk_cell BK235.out 0).trans rfl, (blk_cell BK235.out 1).trans rfl, (blk_cell BK227.out 0).trans rfl, (blk_cell BK227.out 1).trans rfl⟩ (fun hHeld => ?_)
                clear hK K
                refine norm_ (a' := ?_) ?_ ?_
                rotate_left
                ·
                 show Act.put _ (some 69) _ = _
                 simp only [Act.put, s1_, s2_, s3_, i64_w, i32_w]
                 rfl
                refine pure_ (i := 13) (N := some 56) (v := ?_) (a' := ?_) #[true, true, true, true, true, true, true, true, true, true, true, true, true, true, false, false, false, true, false, false, false] rfl rfl (any_of HT_.out (by kernel_rfl)) (fun _ _ _ h => h) (Or.inl ⟨by rfl, ?_⟩) ?_ ?_
                rotate_left
                · intro w'; go_simp; with_reducible rfl
                rotate_left
                ·
                 simp only [Act.put, s1_, s2_, s3_, i64_w, i32_w]
                 rfl
                refine pure_ (i := 14) (N := some 70) (v := ?_) (a' := ?_) #[true, true, true, true, true, true, true, true, true, true, true, true, true, true, true, false, false, true, false, false, false] rfl rfl (any_of HT_.out (by kernel_rfl)) (fun _ _ _ h => h) (Or.inl ⟨by rfl, ?_⟩) ?_ ?_
                rotate_left
                · intro w'; go_simp; with_reducible rfl
                rotate_left
                ·
                 simp only [Act.put, s1_, s2_, s3_, i64_w, i32_w]
                 rfl
                refine pure_ (i := 15) (N := some 71) (v := ?_) (a' := ?_) #[true, true, true, true, true, true, true, true, true, true, true, true, true, true, true, true, false, true, false, false, false] rfl rfl (any_of HT_.out (by kernel_rfl)) (fun _ _ _ h => h) (Or.inl ⟨by rfl, ?_⟩) ?_ ?_
                rotate_left
                · intro w'; go_simp; with_reducible rfl
                rotate_left
                ·
                 simp only [Act.put, s1_, s2_, s3_, i64_w, i32_w]
                 rfl
                refine pure_ (i := 16) (N := some 72) (v := ?_) (a' := ?_) #[true, true, true, true, true, true, true, true, true, true, true, true, true, true, true, true, true, true, false, false, false] rfl rfl (any_of HT_.out (by kernel_rfl)) (fun _ _ _ h => h) (Or.inl ⟨by rfl, ?_⟩) ?_ ?_
                rotate_left
                · intro w'; go_simp; with_reducible rfl
                rotate_left
                ·
                 simp only [Act.put, s1_, s2_, s3_, i64_w, i32_w]
                 rfl
                exact norm_ (by simp only [putAll, Act.put, s1_, s2_, s3_]) (hCont (v242, gb245) _ ⟨hHeld, (by (with_reducible repeat (first | apply ra_ | apply rn_ | apply re_)); exact Kd.R_mono HO243.out (fun _ hk => ⟨hk.1.2, hk.2⟩)), (by (with_reducible repeat (first | apply ra_ | apply rn_ | apply re_)); exact Kd.R_mono HO_4.out (fun _ hk => ⟨hk.2, hk.1⟩)), (by (with_reducible repeat (first | apply ra_ | apply rn_ | apply re_)); exact Kd.R_mono HO_7.out (fun _ hk => ⟨hk.2, hk.1⟩)), (by (with_reducible repeat (first | refine kn_ ?_ _ | refine kd_ ?_ | refine ka_ ?_ _)); exact BK227.out), (by (with_reducible repeat (first | refine kn_ ?_ _ | refine kd_ ?_ | refine ka_ ?_ _)); exact BK234.out), (by (with_reducible repeat (first | refine kn_ ?_ _ | refine kd_ ?_ | refine ka_ ?_ _)); exact BK235.out), (by (with_reducible repeat (first | refine kn_ ?_ _ | refine kd_ ?_ | refine ka_ ?_ _)); exact BK245.out), GW245.out, GE245.out, NB227_245.out, NB245_227.out, NB234_245.out, NB245_234.out, NB235_245.out, NB245_235.out, (by repeat (first | (with_reducible first | exact HB.out | apply ba_ | apply bn_ | apply bd_ | refine bs_ ?_ GE227.out | refine bs_ ?_ GE234.out | refine bs_ ?_ GE235.out | refine bs_ ?_ GE245.out) | exact HB.out))⟩)
              rintro ⟨v242, gb245⟩ w38 ⟨hS_, h0_, h1_, h2_, h3_, h4_, h5_, h6_, h7_, h8_, h9_, h10_, h11_, h12_, h13_, h14_, h15_⟩
              have n0_ : Aside0 (Kd.R k46 46 w38 w.heap.size (fun k_ => some k_ ≠ (v231 : Value).ownBlock ∧ some k_ ≠ (u7 : Value).ownBlock) v242 t241) := ⟨h0_⟩
              have n1_ : Aside0 (Kd.R k46 46 w38 w.heap.size (fun k_ => some k_ ≠ (v242 : Value).ownBlock ∧ some k_ ≠ (u7 : Value).ownBlock) v231 t230) := ⟨h1_⟩
              have n2_ : Aside0 (Kd.R k46 46 w38 w.heap.size (fun k_ => some k_ ≠ (v242 : Value).ownBlock ∧ some k_ ≠ (v231 : Value).ownBlock) u7 x7_2) := ⟨h2_⟩
              have n3_ : Aside0 (w38.heap[gb227]? = some (.cells #[.slice A0_0 l0_0.length c0_0, .slice A0_1 l0_1.length c0_1] 44 (0, 0))) := ⟨h3_⟩
              have n4_ : Aside0 (w38.heap[gb234]? = some (.cells #[.string t228, .bool t229] 25 (0, 0))) := ⟨h4_⟩
              have n5_ : Aside0 (w38.heap[gb235]? = some (.cells #[.string x236000_2, .bool x236001_2] 25 (0, 0))) := ⟨h5_⟩
              have n6_ : Aside0 (w38.heap[gb245]? = some (.cells #[.string (⟨#[]⟩ : ByteArray), .bool false] 25 (0, 0))) := ⟨h6_⟩
              have n7_ : Aside0 (w.heap.size ≤ gb245) := ⟨h7_⟩
              have n8_ : Aside0 (w.heap.size ≤ gb245) := ⟨h8_⟩
              have n9_ : Aside0 (gb227 ≠ gb245) := ⟨h9_⟩
              have n10_ : Aside0 (gb245 ≠ gb227) := ⟨h10_⟩
              have n11_ : Aside0 (gb234 ≠ gb245) := ⟨h11_⟩
              have n12_ : Aside0 (gb245 ≠ gb234) := ⟨h12_⟩
              have n13_ : Aside0 (gb235 ≠ gb245) := ⟨h13_⟩
              have n14_ : Aside0 (gb245 ≠ gb235) := ⟨h14_⟩
              have n15_ : Aside0 (Below w.heap.size w w38) := ⟨h15_⟩
              clear HO_4; clear HO_7; clear BK227; clear BK234; clear BK235; clear HB; clear h0_ h1_ h2_ h3_ h4_ h5_ h6_ h7_ h8_ h9_ h10_ h11_ h12_ h13_ h14_ h15_; have HO243 := n0_; have HO_4 := n1_; have HO_7 := n2_; have BK227 := n3_; have BK234 := n4_; have BK235 := n5_; have BK245 := n6_; have GW245 := n7_; have GE245 := n8_; have NB227_245 := n9_; have NB245_227 := n10_; have NB234_245 := n11_; have NB245_234 := n12_; have NB235_245 := n13_; have NB245_235 := n14_; have HB := n15_; clear n0_ n1_ n2_ n3_ n4_ n5_ n6_ n7_ n8_ n9_ n10_ n11_ n12_ n13_ n14_ n15_
              have hHeld : w38.cell? ⟨gb235, 0, none⟩ = some (.string x236000_2) ∧ w38.cell? ⟨gb235, 1, none⟩ = some (.bool x236001_2) ∧ w38.cell? ⟨gb227, 0, none⟩ = some (.slice A0_0 l0_0.length c0_0) ∧ w38.cell? ⟨gb227, 1, none⟩ = some (.slice A0_1 l0_1.length c0_1) := hS_
              refine norm_ (a' := ?_) ?_ ?_
              rotate_left
              ·
               simp only [putAll, Act.put, s1_, s2_, s3_]
               rfl
              refine one_ (i := 18) (N := none) #[true, true, true, true, true, true, true, true, true, true, true, true, true, true, true, true, true, true, true, false, false] rfl rfl (one_of HT_.out (by kernel_rfl)) (by decide) (fun K hK => ?_)
              have hs39 : w38.cell? ⟨gb245, 0, none⟩ = some (.string (⟨#[]⟩ : ByteArray)) := (blk_cell BK245.out 0).trans rfl
              have hfs39 := blk_frozen BK245.out 0
              have hns39_0 := NB227_245.out
              have hns39_1 := NB234_245.out
              have hns39_2 := NB235_245.out
              have hms39_0 := NB245_227.out
              have hms39_1 := NB245_234.out
              have hms39_2 := NB245_235.out
              have hs40 : w38.cell? ⟨gb245, 1, none⟩ = some (.bool false) := (blk_cell BK245.out 1).trans rfl
              have hfs40 := blk_frozen BK245.out 1
              have hns40_0 := NB227_245.out
              have hns40_1 := NB234_245.out
              have hns40_2 := NB235_245.out
              have hms40_0 := NB245_227.out
              have hms40_1 := NB245_234.out
              have hms40_2 := NB245_235.out
              refine skip_ (w1 := ?_) (by rfl) rfl ?_ ?_
              rotate_left
              ·
               go_simp
               rfl
              refine hK.out _ _ ⟨((cf_ (p := ⟨gb245, _, none⟩) NB235_245.out _).trans (((cf_ (p := ⟨gb245, _, none⟩) NB235_245.out _).trans (hHeld.1)))), ((cf_ (p := ⟨gb245, _, none⟩) NB235_245.out _).trans (((cf_ (p := ⟨gb245, _, none⟩) NB235_245.out _).trans (hHeld.2.1)))), ((cf_ (p := ⟨gb245, _, none⟩) NB227_245.out _).trans (((cf_ (p := ⟨gb245, _, none⟩) NB227_245.out _).trans (hHeld.2.2.1)))), ((cf_ (p := ⟨gb245, _, none⟩) NB227_245.out _).trans (((cf_ (p := ⟨gb245, _, none⟩) NB227_245.out _).trans (hHeld.2.2.2))))⟩ (fun hHeld => ?_)
              clear hK K
              refine pure_ (i := 19) (N := some 12) (v := ?_) (a' := ?_) #[true, true, true, true, true, true, true, true, true, true, true, true, true, true, true, true, true, true, true, true, false] rfl rfl (any_of HT_.out (by kernel_rfl)) (fun _ _ _ h => h) (Or.inl ⟨by rfl, ?_⟩) ?_ ?_
              rotate_left
              · intro w'; go_simp; with_reducible rfl
              rotate_left
              ·
               simp only [Act.put, s1_, s2_, s3_, i64_w, i32_w]
               rfl
              refine pure_ (i := 20) (N := some 13) (v := ?_) (a' := ?_) #[true, true, true, true, true, true, true, true, true, true, true, true, true, true, true, true, true, true, true, true, true] rfl rfl (any_of HT_.out (by kernel_rfl)) (fun _ _ _ h => h) (Or.inl ⟨by rfl, ?_⟩) ?_ ?_
              rotate_left
              · intro w'; go_simp; with_reducible rfl
              rotate_left
              ·
               simp only [Act.put, s1_, s2_, s3_, i64_w, i32_w]
               rfl
              refine done_ (done_of HT_.out (by kernel_rfl)) ?_
              try go_wp2_with (first | ((with_reducible refine gate_callee (f := 11) rfl ?_); refine goesL_ (some 74) rfl rfl Try.func11 (by kernel_rfl) rfl #[.int .i64 t244] rfl (by (try simp only [m1_, m2_, m3_]); first | done | rfl | (simp only [m4_, m5_]; rfl)) ?_; (with_reducible refine (pouchlaw1_num.calls t244 t246 _ A31.out).mono ?_); rintro e w' ⟨rfl, ⟨nd, rfl⟩⟩; refine ⟨_, rfl, ?_⟩; have hnb41 := NB245_227.out; have hnc41 := NB227_245.out; have hnb42 := NB245_234.out; have hnc42 := NB234_245.out; have hnb43 := NB245_235.out; have hnc43 := NB235_245.out; have hcz44_0 : w38.cell? ⟨gb245, 0, none⟩ = some (.string (⟨#[]⟩ : ByteArray)) := (blk_cell BK245.out 0).trans rfl; have hcz44_1 : w38.cell? ⟨gb245, 1, none⟩ = some (.bool false) := (blk_cell BK245.out 1).trans rfl; have hfz44_0 := blk_frozen BK245.out 0; have hfz44_1 := blk_frozen BK245.out 1; have hnb45 := NB235_227.out; have hnc45 := NB227_235.out; have hnb46 := NB235_234.out; have hnc46 := NB234_235.out; have hcz47_0 : w38.cell? ⟨gb235, 0, none⟩ = some (.string x236000_2) := (blk_cell BK235.out 0).trans rfl; have hcz47_1 : w38.cell? ⟨gb235, 1, none⟩ = some (.bool x236001_2) := (blk_cell BK235.out 1).trans rfl; have hfz47_0 := blk_frozen BK235.out 0; have hfz47_1 := blk_frozen BK235.out 1; obtain ⟨Ao49, co49, eo49⟩ := Kd.R_slice HO243.out; subst eo49) | ((with_reducible refine gate_builtin (b := .append) (xs := #[.tmp 77, .tmp 78]) rfl ?_); (try (refine gate_guard (by rfl) ?_; dsimp only)); at_builtin; refine Kd.R_append_rows k46 (w0 := w) w.heap.size rfl (.tmp 77) (.tmp 78) 30 46 (.agg #[(.string ⟨#[]⟩), (.bool false)]) 24 rfl Try.underlying30 info46 rfl (by decide) (by omega) u7 x7_2 t241 _ _ _ (fun k_ => some k_ ≠ (v231 : Value).ownBlock ∧ some k_ ≠ (.slice Ao49 t241.length co49 : Value).ownBlock) (fun _ => False) rfl rfl ?aO ?aR (fun _ _ h => h) (fun _ h => h.elim) ?aF ?aB ?aS ?aL ?_; (case aR => refine (Kd.R_reads' (e := 46) (base := w.heap.size) (ok := fun k_ => (some k_ ≠ (v231 : Value).ownBlock ∧ some k_ ≠ (u7 : Value).ownBlock)) (n := t241.length) (c := co49) ?_).2.2; exact (by (with_reducible repeat (first | apply ra_ | apply rn_ | apply re_)); exact (Kd.R_mono (Kd.R_mono (Kd.R_far (p := ⟨gb235, 1, none⟩) (Kd.R_far (p := ⟨gb235, 0, none⟩) (Kd.R_far (p := ⟨gb245, 1, none⟩) (Kd.R_far (p := ⟨gb245, 0, none⟩) (Kd.R_types (Kd.R_types HO243.out BK245.out (by decide)) BK235.out (by decide)) (fun _ hk => hk.1.2) (.string t239)) (fun _ hk => hk.1.2) (.bool t240)) (fun _ hk => hk.2) (.string t239)) (fun _ hk => hk.2) (.bool t240)) (fun _ h_ => h_.1)) (fun _ h_ => h_.1)))); (case aB => exact (by repeat (first | (with_reducible first | exact HB.out | apply ba_ | apply bn_ | apply bd_ | refine bs_ ?_ GE227.out | refine bs_ ?_ GE234.out | refine bs_ ?_ GE235.out | refine bs_ ?_ GE245.out) | exact HB.out))); (case aF => exact (fun k_ hk => ⟨Kd.fresh' (Kd.R_lt (by (with_reducible repeat (first | apply ra_ | apply rn_ | apply re_)); exact (Kd.R_mono (Kd.R_mono (Kd.R_far (p := ⟨gb235, 1, none⟩) (Kd.R_far (p := ⟨gb235, 0, none⟩) (Kd.R_far (p := ⟨gb245, 1, none⟩) (Kd.R_far (p := ⟨gb245, 0, none⟩) (Kd.R_types (Kd.R_types HO_4.out BK245.out (by decide)) BK235.out (by decide)) (fun _ hk => hk.1.2) (.string t239)) (fun _ hk => hk.1.2) (.bool t240)) (fun _ hk => hk.2) (.string t239)) (fun _ hk => hk.2) (.bool t240)) (fun _ h_ => h_.1)) (fun _ h_ => h_.1)))) k_ hk, Kd.fresh' (Kd.R_lt (by (with_reducible repeat (first | apply ra_ | apply rn_ | apply re_)); exact (Kd.R_mono (Kd.R_mono (Kd.R_far (p := ⟨gb235, 1, none⟩) (Kd.R_far (p := ⟨gb235, 0, none⟩) (Kd.R_far (p := ⟨gb245, 1, none⟩) (Kd.R_far (p := ⟨gb245, 0, none⟩) (Kd.R_types (Kd.R_types HO243.out BK245.out (by decide)) BK235.out (by decide)) (fun _ hk => hk.1.2) (.string t239)) (fun _ hk => hk.1.2) (.bool t240)) (fun _ hk => hk.2) (.string t239)) (fun _ hk => hk.2) (.bool t240)) (fun _ h_ => h_.1)) (fun _ h_ => h_.1)))) k_ hk⟩)); (case aO => exact (by (with_reducible repeat (first | apply ra_ | apply rn_ | apply re_)); exact Kd.R_mono (Kd.R_far (p := ⟨gb235, 1, none⟩) (Kd.R_far (p := ⟨gb235, 0, none⟩) (Kd.R_far (p := ⟨gb245, 1, none⟩) (Kd.R_far (p := ⟨gb245, 0, none⟩) (Kd.R_types (Kd.R_types HO_7.out BK245.out (by decide)) BK235.out (by decide)) (fun _ hk => hk.1.2) (.string t239)) (fun _ hk => hk.1.2) (.bool t240)) (fun _ hk => hk.2) (.string t239)) (fun _ hk => hk.2) (.bool t240)) (fun _ hk => ⟨hk.1.1.2, hk.1.1.1⟩))); (case aS => exact (bz_ (by repeat (first | (with_reducible first | exact HB.out | apply ba_ | apply bn_ | apply bd_ | refine bs_ ?_ GE227.out | refine bs_ ?_ GE234.out | refine bs_ ?_ GE235.out | refine bs_ ?_ GE245.out) | exact HB.out)))); (case aL => have := LMc33.out; omega); intro v248 w48 ho hb hg hat; rw [← Ny247.out] at ho; have n0_ := am_ (Kd.R_after (ok := (fun k_ => some k_ ≠ (.slice Ao49 t241.length co49 : Value).ownBlock)) (by (with_reducible repeat (first | apply ra_ | apply rn_ | apply re_)); exact Kd.R_mono (Kd.R_far (p := ⟨gb235, 1, none⟩) (Kd.R_far (p := ⟨gb235, 0, none⟩) (Kd.R_far (p := ⟨gb245, 1, none⟩) (Kd.R_far (p := ⟨gb245, 0, none⟩) (Kd.R_types (Kd.R_types HO_4.out BK245.out (by decide)) BK235.out (by decide)) (fun _ hk => hk.1.2) (.string t239)) (fun _ hk => hk.1.2) (.bool t240)) (fun _ hk => hk.2) (.string t239)) (fun _ hk => hk.2) (.bool t240)) (fun _ hk => ⟨hk.1.1.1, hk.1.1.2⟩)) hg hat); have n1_ := am_ (blk_grown (g := gb227) (o := .cells #[.slice A0_0 l0_0.length c0_0, .slice A0_1 l0_1.length c0_1] 44 (0, 0)) (by (with_reducible repeat (first | refine kn_ ?_ _ | refine kd_ ?_ | refine ka_ ?_ _)); refine blk_far ?_ NB227_235.out _; (with_reducible repeat (first | refine kn_ ?_ _ | refine kd_ ?_ | refine ka_ ?_ _)); refine blk_far ?_ NB227_235.out _; (with_reducible repeat (first | refine kn_ ?_ _ | refine kd_ ?_ | refine ka_ ?_ _)); refine blk_far ?_ NB227_245.out _; (with_reducible repeat (first | refine kn_ ?_ _ | refine kd_ ?_ | refine ka_ ?_ _)); refine blk_far ?_ NB227_245.out _; (with_reducible repeat (first | refine kn_ ?_ _ | refine kd_ ?_ | refine ka_ ?_ _)); exact BK227.out) hg (Kd.R_ne HO_7.out BK227.out (by decide))); have n2_ := am_ (blk_grown (g := gb234) (o := .cells #[.string t228, .bool t229] 25 (0, 0)) (by (with_reducible repeat (first | refine kn_ ?_ _ | refine kd_ ?_ | refine ka_ ?_ _)); refine blk_far ?_ NB234_235.out _; (with_reducible repeat (first | refine kn_ ?_ _ | refine kd_ ?_ | refine ka_ ?_ _)); refine blk_far ?_ NB234_235.out _; (with_reducible repeat (first | refine kn_ ?_ _ | refine kd_ ?_ | refine ka_ ?_ _)); refine blk_far ?_ NB234_245.out _; (with_reducible repeat (first | refine kn_ ?_ _ | refine kd_ ?_ | refine ka_ ?_ _)); refine blk_far ?_ NB234_245.out _; (with_reducible repeat (first | refine kn_ ?_ _ | refine kd_ ?_ | refine ka_ ?_ _)); exact BK234.out) hg (Kd.R_ne HO_7.out BK234.out (by decide))); have n3_ := am_ (blk_grown (g := gb235) (o := .cells #[.string t239, .bool t240] 25 (0, 0)) (by (with_reducible repeat (first | refine kn_ ?_ _ | refine kd_ ?_ | refine ka_ ?_ _)); refine blk_put (cs := #[.string t239, .bool x236001_2]) ?_ 1 _ rfl; (with_reducible repeat (first | refine kn_ ?_ _ | refine kd_ ?_ | refine ka_ ?_ _)); refine blk_put (cs := #[.string x236000_2, .bool x236001_2]) ?_ 0 _ rfl; (with_reducible repeat (first | refine kn_ ?_ _ | refine kd_ ?_ | refine ka_ ?_ _)); refine blk_far ?_ NB235_245.out _; (with_reducible repeat (first | refine kn_ ?_ _ | refine kd_ ?_ | refine ka_ ?_ _)); refine blk_far ?_ NB235_245.out _; (with_reducible repeat (first | refine kn_ ?_ _ | refine kd_ ?_ | refine ka_ ?_ _)); exact BK235.out) hg (Kd.R_ne HO_7.out BK235.out (by decide))); have n4_ := am_ (Kd.R_after (ok := (fun k_ => some k_ ≠ (v231 : Value).ownBlock)) (by (with_reducible repeat (first | apply ra_ | apply rn_ | apply re_)); exact Kd.R_mono (Kd.R_far (p := ⟨gb235, 1, none⟩) (Kd.R_far (p := ⟨gb235, 0, none⟩) (Kd.R_far (p := ⟨gb245, 1, none⟩) (Kd.R_far (p := ⟨gb245, 0, none⟩) (Kd.R_types (Kd.R_types HO243.out BK245.out (by decide)) BK235.out (by decide)) (fun _ hk => hk.1.2) (.string t239)) (fun _ hk => hk.1.2) (.bool t240)) (fun _ hk => hk.2) (.string t239)) (fun _ hk => hk.2) (.bool t240)) (fun _ hk => ⟨hk.1.1.1, hk.1.1.2⟩)) hg hat); have n5_ := am_ (blk_grown (g := gb245) (o := .cells #[.string t239, .bool t240] 25 (0, 0)) (by (with_reducible repeat (first | refine kn_ ?_ _ | refine kd_ ?_ | refine ka_ ?_ _)); refine blk_far ?_ NB245_235.out _; (with_reducible repeat (first | refine kn_ ?_ _ | refine kd_ ?_ | refine ka_ ?_ _)); refine blk_far ?_ NB245_235.out _; (with_reducible repeat (first | refine kn_ ?_ _ | refine kd_ ?_ | refine ka_ ?_ _)); refine blk_put (cs := #[.string t239, .bool false]) ?_ 1 _ rfl; (with_reducible repeat (first | refine kn_ ?_ _ | refine kd_ ?_ | refine ka_ ?_ _)); refine blk_put (cs := #[.string (⟨#[]⟩ : ByteArray), .bool false]) ?_ 0 _ rfl; (with_reducible repeat (first | refine kn_ ?_ _ | refine kd_ ?_ | refine ka_ ?_ _)); exact BK245.out) hg (Kd.R_ne HO_7.out BK245.out (by decide))); have n6_ := am_ (hb); have n7_ := am_ (ho); clear HO_4; clear BK227; clear BK234; clear BK235; clear HO243; clear BK245; clear HB; clear HO_7; have HO_4 := n0_; have BK227 := n1_; have BK234 := n2_; have BK235 := n3_; have HO243 := n4_; have BK245 := n5_; have HB := n6_; have HO249 := n7_; clear n0_ n1_ n2_ n3_ n4_ n5_ n6_ n7_; clear ho hb hg hat))
              go_roundg kj15
              case measure => have := HJ1.out; have := HK2.out; have := HJ15.out; omega
              case rel => exact ⟨(y247), (wrap64 (x8_2 + x10_15)), (wrap64 (x9_2 + 1)), (t239), (t240), (by first | rfl | (simp; done) | (simp [*]; done)), (by first | rfl | (simp; done) | (simp [*]; done)), H', ⟨by have := HJ1.out; have := HK2.out; have := HJ15.out; omega⟩, ⟨by (with_reducible repeat (first | apply ra_ | apply rn_ | apply re_)); exact Kd.R_mono HO_4.out (fun _ hk => hk.2)⟩, ⟨by (with_reducible repeat (first | apply ra_ | apply rn_ | apply re_)); exact Kd.R_mono HO249.out (fun _ hk => hk.1)⟩, ⟨by (with_reducible repeat (first | refine kn_ ?_ _ | refine kd_ ?_ | refine ka_ ?_ _)); exact BK227.out⟩, ⟨by (with_reducible repeat (first | refine kn_ ?_ _ | refine kd_ ?_ | refine ka_ ?_ _)); exact BK234.out⟩, ⟨by (with_reducible repeat (first | refine kn_ ?_ _ | refine kd_ ?_ | refine ka_ ?_ _)); exact BK235.out⟩, ⟨by repeat (first | (with_reducible first | exact HB.out | apply ba_ | apply bn_ | apply bd_ | refine bs_ ?_ GE227.out | refine bs_ ?_ GE234.out | refine bs_ ?_ GE235.out | refine bs_ ?_ GE245.out) | exact HB.out)⟩⟩
             ·
              rw [if_neg c33] at H
              exact absurd H (by simp)
            ·
             rw [if_neg c32] at H
             have c32b0 : (t246 == 0) = false := beq_eq_false_iff_ne.mpr c32
             have c32b1 : (t246 != 0) = true := bne_iff_ne.mpr c32
             obtain rfl := Option.some.inj H
             try go_wp2
             have n0_ := am_ (re_ HO_4.out)
             have n1_ := am_ (re_ HO_7.out)
             have n2_ := am_ (kd_ BK227.out)
             have n3_ := am_ (kd_ BK234.out)
             have n4_ := am_ (kd_ BK235.out)
             have n5_ := am_ (bd_ HB.out)
             clear HO_4; clear HO_7; clear BK227; clear BK234; clear BK235; clear HB; have HO_4 := n0_; have HO_7 := n1_; have BK227 := n2_; have BK234 := n3_; have BK235 := n4_; have HB := n5_; clear n0_ n1_ n2_ n3_ n4_ n5_
             obtain ⟨i051, hi051, _, hsz51, _⟩ := info_parts info5
             obtain ⟨A51, hcut51, hA51, hC51⟩ := print_mid_of (P := Try.prog) (Value.int .u8) 0 26 5 .i64 .i64 Try.underlying26 hi051 hsz51 A0_0 c0_0 l0_0 x8_2 (ji26) (od_ (by first | (with_reducible assumption) | assumption)) (by first | omega | exact od_ (by first | (with_reducible assumption) | assumption)) (od_ (by first | (with_reducible assumption) | assumption)) HC0_0.out
             have HR238 := am_ (Kd.C_of_reads (h1 := fun _ => rfl) (hA51 _ (Kd.reads_of_C HR0_0.out)))
             have HC238 := am_ hC51
             clear hA51 hC51 hi051 hsz51
             refine start_ (n := 21) (S := fun w' => w'.cell? ⟨gb235, 0, none⟩ = some (.string x236000_2) ∧ w'.cell? ⟨gb235, 1, none⟩ = some (.bool x236001_2) ∧ w'.cell? ⟨gb227, 0, none⟩ = some (.slice A0_0 l0_0.length c0_0) ∧ w'.cell? ⟨gb227, 1, none⟩ = some (.slice A0_1 l0_1.length c0_1)) (ds := []) #[false, false, false, false, false, false, false, false, false, false, false, false, false, false, false, false, false, false, false, false, false] (by kernel_rfl) rfl rfl ⟨(blk_cell BK235.out 0).trans rfl, (blk_cell BK235.out 1).trans rfl, (blk_cell BK227.out 0).trans rfl, (blk_cell BK227.out 1).trans rfl⟩ (fun hHeld => ?_); refine with_tabW pouchlaw1_FrameParts.tab13 pouchlaw1_FrameParts.bits13 (fun HT_ HW_ => ?_)
             generalize wc.drew = w50 at HO_4 HO_7 BK227 BK234 BK235 HB HR238 hHeld ⊢
             refine pure_ (i := 1) (N := some 58) (v := ?_) (a' := ?_) #[false, true, false, false, false, false, false, false, false, false, false, false, false, false, false, false, false, false, false, false, false] rfl rfl (any_of HT_.out (by kernel_rfl)) (fun _ _ _ h => h) (Or.inl ⟨by rfl, ?_⟩) ?_ ?_
             rotate_left
             · intro w'; go_simp; with_reducible rfl
             rotate_left
             ·
              simp only [Act.put, s1_, s2_, s3_, i64_w, i32_w]
              rfl
             refine pure_ (i := 3) (N := some 60) (v := ?_) (a' := ?_) #[false, true, false, true, false, false, false, false, false, false, false, false, false, false, false, false, false, false, false, false, false] rfl rfl (any_of HT_.out (by kernel_rfl)) (fun _ _ _ h => h) (Or.inl ⟨by rfl, ?_⟩) ?_ ?_
             rotate_left
             · intro w'; go_simp; with_reducible rfl
             rotate_left
             ·
              simp only [Act.put, s1_, s2_, s3_, i64_w, i32_w]
              rfl
             refine pure_ (i := 4) (N := some 61) (v := ?_) (a' := ?_) #[false, true, false, true, true, false, false, false, false, false, false, false, false, false, false, false, false, false, false, false, false] rfl rfl (any_of HT_.out (by kernel_rfl)) (fun _ _ _ h => h) (Or.inl ⟨by rfl, ?_⟩) ?_ ?_
             rotate_left
             · intro w'; go_simp; with_reducible rfl
             rotate_left
             ·
              simp only [Act.put, s1_, s2_, s3_, i64_w, i32_w]
              rfl
             refine pure_ (i := 5) (N := some 62) (v := ?_) (a' := ?_) #[false, true, false, true, true, true, false, false, false, false, false, false, false, false, false, false, false, false, false, false, false] rfl rfl (any_of HT_.out (by kernel_rfl)) (fun _ _ _ h => h) (Or.inl ⟨by rfl, ?_⟩) ?_ ?_
             rotate_left
             · intro w'; go_simp; with_reducible rfl
             rotate_left
             ·
              simp only [Act.put, s1_, s2_, s3_, i64_w, i32_w]
              rfl
             refine pure_ (i := 6) (N := some 63) (v := ?_) (a' := ?_) #[false, true, false, true, true, true, true, false, false, false, false, false, false, false, false, false, false, false, false, false, false] rfl rfl (any_of HT_.out (by kernel_rfl)) (fun _ _ _ h => h) (Or.inl ⟨by rfl, ?_⟩) ?_ ?_
             rotate_left
             · intro w'; go_simp; with_reducible rfl
             rotate_left
             ·
              simp only [Act.put, s1_, s2_, s3_, i64_w, i32_w]
              rfl
             refine pure_ (i := 7) (N := some 64) (v := ?_) (a' := ?_) #[false, true, false, true, true, true, true, true, false, false, false, false, false, false, false, false, false, false, false, false, false] rfl rfl (any_of HT_.out (by kernel_rfl)) (fun _ _ _ h => h) (Or.inl ⟨by rfl, ?_⟩) ?_ ?_
             rotate_left
             · intro w'; go_simp; with_reducible rfl
             rotate_left
             ·
              simp only [Act.put, s1_, s2_, s3_, i64_w, i32_w]
              rfl
             refine take_ (i := 0) (N := some 57) (v := ?_) (a' := ?_) #[true, true, false, true, true, true, true, true, false, false, false, false, false, false, false, false, false, false, false, false, false] rfl rfl (take_ofW HT_.out HW_.out (by kernel_rfl)) (fun _ _ _ h => h) (Or.inl ⟨by rfl, ?_⟩) hHeld ?_ ?_
             rotate_left
             ·
              rintro w' ⟨s0, s1, s2, s3⟩
              go_simp; with_reducible rfl
             rotate_left
             ·
              simp only [Act.put, s1_, s2_, s3_, i64_w, i32_w]
              rfl
             refine take_ (i := 2) (N := some 59) (v := ?_) (a' := ?_) #[true, true, true, true, true, true, true, true, false, false, false, false, false, false, false, false, false, false, false, false, false] rfl rfl (take_ofW HT_.out HW_.out (by kernel_rfl)) (fun _ _ _ h => h) (Or.inl ⟨by rfl, ?_⟩) hHeld ?_ ?_
             rotate_left
             ·
              rintro w' ⟨s0, s1, s2, s3⟩
              go_simp; with_reducible rfl
             rotate_left
             ·
              simp only [Act.put, s1_, s2_, s3_, i64_w, i32_w]
              rfl
             refine take_ (i := 8) (N := some 65) (v := ?_) (a' := ?_) #[true, true, true, true, true, true, true, true, true, false, false, false, false, false, false, false, false, false, false, false, false] rfl rfl (take_ofW HT_.out HW_.out (by kernel_rfl)) (fun _ _ _ h => h) (Or.inl ⟨by rfl, ?_⟩) hHeld ?_ ?_
             rotate_left
             ·
              rintro w' ⟨s0, s1, s2, s3⟩
              go_simp; with_reducible rfl
             rotate_left
             ·
              simp only [Act.put, s1_, s2_, s3_, i64_w, i32_w]
              rfl
             refine pure_ (i := 9) (N := some 66) (v := ?_) (a' := ?_) #[true, true, true, true, true, true, true, true, true, true, false, false, false, false, false, false, false, false, false, false, false] rfl rfl (any_of HT_.out (by kernel_rfl)) (fun _ _ _ h => h) (Or.inl ⟨by rfl, ?_⟩) ?_ ?_
             rotate_left
             · intro w'; go_simp; with_reducible rfl
             rotate_left
             ·
              simp only [Act.put, s1_, s2_, s3_, i64_w, i32_w]
              rfl
             refine pure_ (i := 10) (N := some 67) (v := ?_) (a' := ?_) #[true, true, true, true, true, true, true, true, true, true, true, false, false, false, false, false, false, false, false, false, false] rfl rfl (any_of HT_.out (by kernel_rfl)) (fun _ _ _ h => h) (Or.inl ⟨by rfl, ?_⟩) ?_ ?_
             rotate_left
             · intro w'; go_simp; with_reducible rfl
             rotate_left
             ·
              simp only [Act.put, s1_, s2_, s3_, i64_w, i32_w]
              rfl
             refine pure_ (i := 11) (N := some 68) (v := ?_) (a' := ?_) #[true, true, true, true, true, true, true, true, true, true, true, true, false, false, false, false, false, false, false, false, false] rfl rfl (any_of HT_.out (by kernel_rfl)) (fun _ _ _ h => h) (Or.inl ⟨by rfl, ?_⟩) ?_ ?_
             rotate_left
             · intro w'; go_simp; with_reducible rfl
             rotate_left
             ·
              simp only [Act.put, s1_, s2_, s3_, i64_w, i32_w]
              rfl
             refine join_ (σ := Value × Nat) 3 #[true, true, true, true, true, true, true, true, true, true, true, true, true, true, true, true, true, true, false, false, false] (fun s_ => [(69, .tuple #[.agg #[.string t239, .bool t240], s_.1, .int .i64 t244]), (11, .pointer (some ⟨s_.2, 0, none⟩)), (56, .tuple #[.agg #[.string t239, .bool t240], s_.1, .int .i64 t244]), (70, .agg #[.string t239, .bool t240]), (71, s_.1), (72, .int .i64 t244)]) (fun s_ w' => (w'.cell? ⟨gb235, 0, none⟩ = some (.string x236000_2) ∧ w'.cell? ⟨gb235, 1, none⟩ = some (.bool x236001_2) ∧ w'.cell? ⟨gb227, 0, none⟩ = some (.slice A0_0 l0_0.length c0_0) ∧ w'.cell? ⟨gb227, 1, none⟩ = some (.slice A0_1 l0_1.length c0_1)) ∧ (Kd.R k46 46 w' w.heap.size (fun k_ => some k_ ≠ (v231 : Value).ownBlock ∧ some k_ ≠ (u7 : Value).ownBlock) s_.1 t241) ∧ (Kd.R k46 46 w' w.heap.size (fun k_ => some k_ ≠ (s_.1 : Value).ownBlock ∧ some k_ ≠ (u7 : Value).ownBlock) v231 t230) ∧ (Kd.R k46 46 w' w.heap.size (fun k_ => some k_ ≠ (s_.1 : Value).ownBlock ∧ some k_ ≠ (v231 : Value).ownBlock) u7 x7_2) ∧ (w'.heap[gb227]? = some (.cells #[.slice A0_0 l0_0.length c0_0, .slice A0_1 l0_1.length c0_1] 44 (0, 0))) ∧ (w'.heap[gb234]? = some (.cells #[.string t228, .bool t229] 25 (0, 0))) ∧ (w'.heap[gb235]? = some (.cells #[.string x236000_2, .bool x236001_2] 25 (0, 0))) ∧ (w'.heap[s_.2]? = some (.cells #[.string (⟨#[]⟩ : ByteArray), .bool false] 25 (0, 0))) ∧ (w.heap.size ≤ s_.2) ∧ (w.heap.size ≤ s_.2) ∧ (gb227 ≠ s_.2) ∧ (s_.2 ≠ gb227) ∧ (gb234 ≠ s_.2) ∧ (s_.2 ≠ gb234) ∧ (gb235 ≠ s_.2) ∧ (s_.2 ≠ gb235) ∧ (Below w.heap.size w w')) ?_ ?_
             rotate_left
             ·
              intro hCont
              refine two_ (i := 12) (j := 17) (Ni := some 69) (Nj := some 11) #[true, true, true, true, true, true, true, true, true, true, true, true, true, false, false, false, false, false, false, false, false] #[true, true, true, true, true, true, true, true, true, true, true, true, false, false, false, false, false, true, false, false, false] rfl rfl rfl rfl (two_of HT_.out (by kernel_rfl)) (by decide) (by decide) (fun K hK => ?_) (fun K hK => ?_)
              ·
               skip
               refine goes_ Try.func9 (by kernel_rfl) rfl #[.agg #[.string x236000_2, .bool x236001_2], .slice A51 ((l0_0.take ((ji26) : Int).toNat).drop (x8_2 : Int).toNat).length (c0_0 - x8_2.toNat)] (by rfl) rfl rfl (by (try simp only [m1_, m2_, m3_]); first | done | (rw [show ((l0_0.take ((ji26) : Int).toNat).drop (x8_2 : Int).toNat).length = ((ji26).toNat - x8_2.toNat) from (by rw [m4_, m5_]; have h_ : ((ji26) : Int) ≤ (l0_0.length : Int) := od_ (by first | (with_reducible assumption) | assumption); omega)] <;> rfl) | (simp only [hji26]; rfl) | rfl | (simp only [m4_, m5_]; rfl)) ?_
               with_reducible refine (frame_Feed.calls kj15 x236000_2 x236001_2 _ _ ((l0_0.take ((ji26) : Int).toNat).drop (x8_2 : Int).toNat) t239 t240 t241 t244 _ ?side1 ?side2 ?side3 A30.out).mono ?_
               (case side1 => repeat (first | exact (cb_ HR238.out HB.out) | (with_reducible refine ca_ ?_ _) | (with_reducible refine cn_ ?_ _) | (with_reducible refine cd_ ?_)))
               (case side2 => exact HC238.out)
               (case side3 => exact GrOk.below hG (by repeat (first | (with_reducible first | exact HB.out | apply ba_ | apply bn_ | apply bd_ | refine bs_ ?_ GE227.out | refine bs_ ?_ GE234.out | refine bs_ ?_ GE235.out) | exact HB.out)))
               rintro e w52 ⟨v242, rfl, ho0, hb⟩
               refine ⟨_, rfl, ?_⟩
               have n0_ := am_ (Kd.R_elder' (by (with_reducible repeat (first | apply ra_ | apply rn_ | apply re_)); exact HO_4.out) (Kd.R_base ho0) hb)
               have n1_ := am_ (Kd.R_elder' (by (with_reducible repeat (first | apply ra_ | apply rn_ | apply re_)); exact HO_7.out) (Kd.R_base ho0) hb)
               have n2_ := am_ (Kd.R_lower (Kd.R_new' (Kd.R_new' ho0 (Kd.R_lt (by (with_reducible repeat (first | apply ra_ | apply rn_ | apply re_)); exact HO_4.out))) (Kd.R_lt (by (with_reducible repeat (first | apply ra_ | apply rn_ | apply re_)); exact HO_7.out))) (bz_ (by repeat (first | (with_reducible first | exact HB.out | apply ba_ | apply bn_ | apply bd_ | refine bs_ ?_ GE227.out | refine bs_ ?_ GE234.out | refine bs_ ?_ GE235.out) | exact HB.out))))
               have n3_ := am_ (bb_ (g := gb227) (o := .cells #[.slice A0_0 l0_0.length c0_0, .slice A0_1 l0_1.length c0_1] 44 (0, 0)) (by (with_reducible repeat (first | refine kn_ ?_ _ | refine kd_ ?_ | refine ka_ ?_ _)); exact BK227.out) hb)
               have n4_ := am_ (bb_ (g := gb234) (o := .cells #[.string t228, .bool t229] 25 (0, 0)) (by (with_reducible repeat (first | refine kn_ ?_ _ | refine kd_ ?_ | refine ka_ ?_ _)); exact BK234.out) hb)
               have n5_ := am_ (bb_ (g := gb235) (o := .cells #[.string x236000_2, .bool x236001_2] 25 (0, 0)) (by (with_reducible repeat (first | refine kn_ ?_ _ | refine kd_ ?_ | refine ka_ ?_ _)); exact BK235.out) hb)
               have n6_ := am_ (bt_ (by repeat (first | (with_reducible first | exact HB.out | apply ba_ | apply bn_ | apply bd_ | refine bs_ ?_ GE227.out | refine bs_ ?_ GE234.out | refine bs_ ?_ GE235.out) | exact HB.out)) hb)
               clear HO_4; clear HO_7; clear BK227; clear BK234; clear BK235; clear HB; have HO_4 := n0_; have HO_7 := n1_; have HO243 := n2_; have BK227 := n3_; have BK234 := n4_; have BK235 := n5_; have HB := n6_; clear n0_ n1_ n2_ n3_ n4_ n5_ n6_
               (try clear hb)
               (try clear hb2)
               (try clear hk)
               (try clear hi)
               (try clear ho0)
               refine hK.out _ _ ⟨(blk_cell BK235.out 0).trans rfl, (blk_cell BK235.out 1).trans rfl, (blk_cell BK227.out 0).trans rfl, (blk_cell BK227.out 1).trans rfl⟩ (fun hHeld => ?_)
               clear hK K
               refine norm_ (a' := ?_) ?_ ?_
               rotate_left
               ·
                show Act.put _ (some 69) _ = _
                simp only [Act.put, s1_, s2_, s3_, i64_w, i32_w]
                rfl
               refine pure_ (i := 13) (N := some 56) (v := ?_) (a' := ?_) #[true, true, true, true, true, true, true, true, true, true, true, true, true, true, false, false, false, false, false, false, false] rfl rfl (any_of HT_.out (by kernel_rfl)) (fun _ _ _ h => h) (Or.inl ⟨by rfl, ?_⟩) ?_ ?_
               rotate_left
               · intro w'; go_simp; with_reducible rfl
               rotate_left
               ·
                simp only [Act.put, s1_, s2_, s3_, i64_w, i32_w]
                rfl
               refine pure_ (i := 14) (N := some 70) (v := ?_) (a' := ?_) #[true, true, true, true, true, true, true, true, true, true, true, true, true, true, true, false, false, false, false, false, false] rfl rfl (any_of HT_.out (by kernel_rfl)) (fun _ _ _ h => h) (Or.inl ⟨by rfl, ?_⟩) ?_ ?_
               rotate_left
               · intro w'; go_simp; with_reducible rfl
               rotate_left
               ·
                simp only [Act.put, s1_, s2_, s3_, i64_w, i32_w]
                rfl
               refine pure_ (i := 15) (N := some 71) (v := ?_) (a' := ?_) #[true, true, true, true, true, true, true, true, true, true, true, true, true, true, true, true, false, false, false, false, false] rfl rfl (any_of HT_.out (by kernel_rfl)) (fun _ _ _ h => h) (Or.inl ⟨by rfl, ?_⟩) ?_ ?_
               rotate_left
               · intro w'; go_simp; with_reducible rfl
               rotate_left
               ·
                simp only [Act.put, s1_, s2_, s3_, i64_w, i32_w]
                rfl
               refine pure_ (i := 16) (N := some 72) (v := ?_) (a' := ?_) #[true, true, true, true, true, true, true, true, true, true, true, true, true, true, true, true, true, false, false, false, false] rfl rfl (any_of HT_.out (by kernel_rfl)) (fun _ _ _ h => h) (Or.inl ⟨by rfl, ?_⟩) ?_ ?_
               rotate_left
               · intro w'; go_simp; with_reducible rfl
               rotate_left
               ·
                simp only [Act.put, s1_, s2_, s3_, i64_w, i32_w]
                rfl
               refine one_ (i := 17) (N := some 11) #[true, true, true, true, true, true, true, true, true, true, true, true, true, true, true, true, true, true, false, false, false] rfl rfl (one_of HT_.out (by kernel_rfl)) (by decide) (fun K hK => ?_)
               refine box_step ?hg (N := 11) ?hd (cs := #[.string (⟨#[]⟩ : ByteArray), .bool false]) (t := 25) ?hr ?_; (case hd => rfl); (case hg => rfl); (case hr => first | (go_simp; done) | (go_simp; rfl))
               intro gb245 hg w53 hbox hb
               have n0_ := am_ (rb_ (by (with_reducible repeat (first | apply ra_ | apply rn_ | apply re_)); exact HO_4.out) hb)
               have n1_ := am_ (rb_ (by (with_reducible repeat (first | apply ra_ | apply rn_ | apply re_)); exact HO_7.out) hb)
               have n2_ := am_ (rb_ (by (with_reducible repeat (first | apply ra_ | apply rn_ | apply re_)); exact HO243.out) hb)
               have n3_ := am_ (bb_ (g := gb227) (o := .cells #[.slice A0_0 l0_0.length c0_0, .slice A0_1 l0_1.length c0_1] 44 (0, 0)) (by (with_reducible repeat (first | refine kn_ ?_ _ | refine kd_ ?_ | refine ka_ ?_ _)); exact BK227.out) hb)
               have n4_ := am_ (bb_ (g := gb234) (o := .cells #[.string t228, .bool t229] 25 (0, 0)) (by (with_reducible repeat (first | refine kn_ ?_ _ | refine kd_ ?_ | refine ka_ ?_ _)); exact BK234.out) hb)
               have n5_ := am_ (bb_ (g := gb235) (o := .cells #[.string x236000_2, .bool x236001_2] 25 (0, 0)) (by (with_reducible repeat (first | refine kn_ ?_ _ | refine kd_ ?_ | refine ka_ ?_ _)); exact BK235.out) hb)
               have n6_ := am_ (bt_ (by repeat (first | (with_reducible first | exact HB.out | apply ba_ | apply bn_ | apply bd_ | refine bs_ ?_ GE227.out | refine bs_ ?_ GE234.out | refine bs_ ?_ GE235.out) | exact HB.out)) hb)
               have n7_ := am_ (hbox)
               have n8_ := am_ ((by rw [hg]; exact (bz_ (by repeat (first | (with_reducible first | exact HB.out | apply ba_ | apply bn_ | apply bd_ | refine bs_ ?_ GE227.out | refine bs_ ?_ GE234.out | refine bs_ ?_ GE235.out) | exact HB.out))) : w.heap.size ≤ gb245))
               have n9_ := am_ ((by rw [hg]; exact (bz_ (by repeat (first | (with_reducible first | exact HB.out | apply ba_ | apply bn_ | apply bd_ | refine bs_ ?_ GE227.out | refine bs_ ?_ GE234.out | refine bs_ ?_ GE235.out) | exact HB.out))) : w.heap.size ≤ gb245))
               have n10_ := am_ ((by rw [hg]; exact nl_ (blk_lt (g := gb227) (o := .cells #[.slice A0_0 l0_0.length c0_0, .slice A0_1 l0_1.length c0_1] 44 (0, 0)) (by (with_reducible repeat (first | refine kn_ ?_ _ | refine kd_ ?_ | refine ka_ ?_ _)); exact BK227.out)) : gb227 ≠ gb245))
               have n11_ := am_ ((by rw [hg]; exact Nat.ne_of_gt (blk_lt (g := gb227) (o := .cells #[.slice A0_0 l0_0.length c0_0, .slice A0_1 l0_1.length c0_1] 44 (0, 0)) (by (with_reducible repeat (first | refine kn_ ?_ _ | refine kd_ ?_ | refine ka_ ?_ _)); exact BK227.out)) : gb245 ≠ gb227))
               have n12_ := am_ ((by rw [hg]; exact nl_ (blk_lt (g := gb234) (o := .cells #[.string t228, .bool t229] 25 (0, 0)) (by (with_reducible repeat (first | refine kn_ ?_ _ | refine kd_ ?_ | refine ka_ ?_ _)); exact BK234.out)) : gb234 ≠ gb245))
               have n13_ := am_ ((by rw [hg]; exact Nat.ne_of_gt (blk_lt (g := gb234) (o := .cells #[.string t228, .bool t229] 25 (0, 0)) (by (with_reducible repeat (first | refine kn_ ?_ _ | refine kd_ ?_ | refine ka_ ?_ _)); exact BK234.out)) : gb245 ≠ gb234))
               have n14_ := am_ ((by rw [hg]; exact nl_ (blk_lt (g := gb235) (o := .cells #[.string x236000_2, .bool x236001_2] 25 (0, 0)) (by (with_reducible repeat (first | refine kn_ ?_ _ | refine kd_ ?_ | refine ka_ ?_ _)); exact BK235.out)) : gb235 ≠ gb245))
               have n15_ := am_ ((by rw [hg]; exact Nat.ne_of_gt (blk_lt (g := gb235) (o := .cells #[.string x236000_2, .bool x236001_2] 25 (0, 0)) (by (with_reducible repeat (first | refine kn_ ?_ _ | refine kd_ ?_ | refine ka_ ?_ _)); exact BK235.out)) : gb245 ≠ gb235))
               clear HO_4; clear HO_7; clear HO243; clear BK227; clear BK234; clear BK235; clear HB; have HO_4 := n0_; have HO_7 := n1_; have HO243 := n2_; have BK227 := n3_; have BK234 := n4_; have BK235 := n5_; have HB := n6_; have BK245 := n7_; have GW245 := n8_; have GE245 := n9_; have NB227_245 := n10_; have NB245_227 := n11_; have NB234_245 := n12_; have NB245_234 := n13_; have NB235_245 := n14_; have NB245_235 := n15_; clear n0_ n1_ n2_ n3_ n4_ n5_ n6_ n7_ n8_ n9_ n10_ n11_ n12_ n13_ n14_ n15_; clear hb hbox hg
               refine hK.out _ _ ⟨(blk_cell BK235.out 0).trans rfl, (blk_cell BK235.out 1).trans rfl, (blk_cell BK227.out 0).trans rfl, (blk_cell BK227.out 1).trans rfl⟩ (fun hHeld => ?_)
               clear hK K
               refine norm_ (a' := ?_) ?_ ?_
               rotate_left
               ·
                show Act.put _ (some 11) _ = _
                simp only [Act.put, s1_, s2_, s3_, i64_w, i32_w]
                rfl
               exact norm_ (by simp only [putAll, Act.put, s1_, s2_, s3_]) (hCont (v242, gb245) _ ⟨hHeld, (by (with_reducible repeat (first | apply ra_ | apply rn_ | apply re_)); exact Kd.R_mono HO243.out (fun _ hk => ⟨hk.1.2, hk.2⟩)), (by (with_reducible repeat (first | apply ra_ | apply rn_ | apply re_)); exact Kd.R_mono HO_4.out (fun _ hk => ⟨hk.2, hk.1⟩)), (by (with_reducible repeat (first | apply ra_ | apply rn_ | apply re_)); exact Kd.R_mono HO_7.out (fun _ hk => ⟨hk.2, hk.1⟩)), (by (with_reducible repeat (first | refine kn_ ?_ _ | refine kd_ ?_ | refine ka_ ?_ _)); exact BK227.out), (by (with_reducible repeat (first | refine kn_ ?_ _ | refine kd_ ?_ | refine ka_ ?_ _)); exact BK234.out), (by (with_reducible repeat (first | refine kn_ ?_ _ | refine kd_ ?_ | refine ka_ ?_ _)); exact BK235.out), (by (with_reducible repeat (first | refine kn_ ?_ _ | refine kd_ ?_ | refine ka_ ?_ _)); exact BK245.out), GW245.out, GE245.out, NB227_245.out, NB245_227.out, NB234_245.out, NB245_234.out, NB235_245.out, NB245_235.out, (by repeat (first | (with_reducible first | exact HB.out | apply ba_ | apply bn_ | apply bd_ | refine bs_ ?_ GE227.out | refine bs_ ?_ GE234.out | refine bs_ ?_ GE235.out | refine bs_ ?_ GE245.out) | exact HB.out))⟩)
              ·
               skip
               refine box_step ?hg (N := 11) ?hd (cs := #[.string (⟨#[]⟩ : ByteArray), .bool false]) (t := 25) ?hr ?_; (case hd => rfl); (case hg => rfl); (case hr => first | (go_simp; done) | (go_simp; rfl))
               intro gb245 hg w52 hbox hb
               have n0_ := am_ (rb_ (by (with_reducible repeat (first | apply ra_ | apply rn_ | apply re_)); exact HO_4.out) hb)
               have n1_ := am_ (rb_ (by (with_reducible repeat (first | apply ra_ | apply rn_ | apply re_)); exact HO_7.out) hb)
               have n2_ := am_ (bb_ (g := gb227) (o := .cells #[.slice A0_0 l0_0.length c0_0, .slice A0_1 l0_1.length c0_1] 44 (0, 0)) (by (with_reducible repeat (first | refine kn_ ?_ _ | refine kd_ ?_ | refine ka_ ?_ _)); exact BK227.out) hb)
               have n3_ := am_ (bb_ (g := gb234) (o := .cells #[.string t228, .bool t229] 25 (0, 0)) (by (with_reducible repeat (first | refine kn_ ?_ _ | refine kd_ ?_ | refine ka_ ?_ _)); exact BK234.out) hb)
               have n4_ := am_ (bb_ (g := gb235) (o := .cells #[.string x236000_2, .bool x236001_2] 25 (0, 0)) (by (with_reducible repeat (first | refine kn_ ?_ _ | refine kd_ ?_ | refine ka_ ?_ _)); exact BK235.out) hb)
               have n5_ := am_ (bt_ (by repeat (first | (with_reducible first | exact HB.out | apply ba_ | apply bn_ | apply bd_ | refine bs_ ?_ GE227.out | refine bs_ ?_ GE234.out | refine bs_ ?_ GE235.out) | exact HB.out)) hb)
               have n6_ := am_ (hbox)
               have n7_ := am_ ((by rw [hg]; exact (bz_ (by repeat (first | (with_reducible first | exact HB.out | apply ba_ | apply bn_ | apply bd_ | refine bs_ ?_ GE227.out | refine bs_ ?_ GE234.out | refine bs_ ?_ GE235.out) | exact HB.out))) : w.heap.size ≤ gb245))
               have n8_ := am_ ((by rw [hg]; exact (bz_ (by repeat (first | (with_reducible first | exact HB.out | apply ba_ | apply bn_ | apply bd_ | refine bs_ ?_ GE227.out | refine bs_ ?_ GE234.out | refine bs_ ?_ GE235.out) | exact HB.out))) : w.heap.size ≤ gb245))
               have n9_ := am_ ((by rw [hg]; exact nl_ (blk_lt (g := gb227) (o := .cells #[.slice A0_0 l0_0.length c0_0, .slice A0_1 l0_1.length c0_1] 44 (0, 0)) (by (with_reducible repeat (first | refine kn_ ?_ _ | refine kd_ ?_ | refine ka_ ?_ _)); exact BK227.out)) : gb227 ≠ gb245))
               have n10_ := am_ ((by rw [hg]; exact Nat.ne_of_gt (blk_lt (g := gb227) (o := .cells #[.slice A0_0 l0_0.length c0_0, .slice A0_1 l0_1.length c0_1] 44 (0, 0)) (by (with_reducible repeat (first | refine kn_ ?_ _ | refine kd_ ?_ | refine ka_ ?_ _)); exact BK227.out)) : gb245 ≠ gb227))
               have n11_ := am_ ((by rw [hg]; exact nl_ (blk_lt (g := gb234) (o := .cells #[.string t228, .bool t229] 25 (0, 0)) (by (with_reducible repeat (first | refine kn_ ?_ _ | refine kd_ ?_ | refine ka_ ?_ _)); exact BK234.out)) : gb234 ≠ gb245))
               have n12_ := am_ ((by rw [hg]; exact Nat.ne_of_gt (blk_lt (g := gb234) (o := .cells #[.string t228, .bool t229] 25 (0, 0)) (by (with_reducible repeat (first | refine kn_ ?_ _ | refine kd_ ?_ | refine ka_ ?_ _)); exact BK234.out)) : gb245 ≠ gb234))
               have n13_ := am_ ((by rw [hg]; exact nl_ (blk_lt (g := gb235) (o := .cells #[.string x236000_2, .bool x236001_2] 25 (0, 0)) (by (with_reducible repeat (first | refine kn_ ?_ _ | refine kd_ ?_ | refine ka_ ?_ _)); exact BK235.out)) : gb235 ≠ gb245))
               have n14_ := am_ ((by rw [hg]; exact Nat.ne_of_gt (blk_lt (g := gb235) (o := .cells #[.string x236000_2, .bool x236001_2] 25 (0, 0)) (by (with_reducible repeat (first | refine kn_ ?_ _ | refine kd_ ?_ | refine ka_ ?_ _)); exact BK235.out)) : gb245 ≠ gb235))
               clear HO_4; clear HO_7; clear BK227; clear BK234; clear BK235; clear HB; have HO_4 := n0_; have HO_7 := n1_; have BK227 := n2_; have BK234 := n3_; have BK235 := n4_; have HB := n5_; have BK245 := n6_; have GW245 := n7_; have GE245 := n8_; have NB227_245 := n9_; have NB245_227 := n10_; have NB234_245 := n11_; have NB245_234 := n12_; have NB235_245 := n13_; have NB245_235 := n14_; clear n0_ n1_ n2_ n3_ n4_ n5_ n6_ n7_ n8_ n9_ n10_ n11_ n12_ n13_ n14_; clear hb hbox hg
               refine hK.out _ _ ⟨(blk_cell BK235.out 0).trans rfl, (blk_cell BK235.out 1).trans rfl, (blk_cell BK227.out 0).trans rfl, (blk_cell BK227.out 1).trans rfl⟩ (fun hHeld => ?_)
               clear hK K
               refine norm_ (a' := ?_) ?_ ?_
               rotate_left
               ·
                show Act.put _ (some 11) _ = _
                simp only [Act.put, s1_, s2_, s3_, i64_w, i32_w]
                rfl
               refine one_ (i := 12) (N := some 69) #[true, true, true, true, true, true, true, true, true, true, true, true, true, false, false, false, false, true, false, false, false] rfl rfl (one_of HT_.out (by kernel_rfl)) (by decide) (fun K hK => ?_)
               refine goes_ Try.func9 (by kernel_rfl) rfl #[.agg #[.string x236000_2, .bool x236001_2], .slice A51 ((l0_0.take ((ji26) : Int).toNat).drop (x8_2 : Int).toNat).length (c0_0 - x8_2.toNat)] (by rfl) rfl rfl (by (try simp only [m1_, m2_, m3_]); first | done | (rw [show ((l0_0.take ((ji26) : Int).toNat).drop (x8_2 : Int).toNat).length = ((ji26).toNat - x8_2.toNat) from (by rw [m4_, m5_]; have h_ : ((ji26) : Int) ≤ (l0_0.length : Int) := od_ (by first | (with_reducible assumption) | assumption); omega)] <;> rfl) | (simp only [hji26]; rfl) | rfl | (simp only [m4_, m5_]; rfl)) ?_
               with_reducible refine (frame_Feed.calls kj15 x236000_2 x236001_2 _ _ ((l0_0.take ((ji26) : Int).toNat).drop (x8_2 : Int).toNat) t239 t240 t241 t244 _ ?side1 ?side2 ?side3 A30.out).mono ?_
               (case side1 => repeat (first | exact (cb_ HR238.out HB.out) | (with_reducible refine ca_ ?_ _) | (with_reducible refine cn_ ?_ _) | (with_reducible refine cd_ ?_)))
               (case side2 => exact HC238.out)
               (case side3 => exact GrOk.below hG (by repeat (first | (with_reducible first | exact HB.out | apply ba_ | apply bn_ | apply bd_ | refine bs_ ?_ GE227.out | refine bs_ ?_ GE234.out | refine bs_ ?_ GE235.out | refine bs_ ?_ GE245.out) | exact HB.out)))
               rintro e w53 ⟨v242, rfl, ho0, hb⟩
               refine ⟨_, rfl, ?_⟩
               have n0_ := am_ (Kd.R_elder' (by (with_reducible repeat (first | apply ra_ | apply rn_ | apply re_)); exact HO_4.out) (Kd.R_base ho0) hb)
               have n1_ := am_ (Kd.R_elder' (by (with_reducible repeat (first | apply ra_ | apply rn_ | apply re_)); exact HO_7.out) (Kd.R_base ho0) hb)
               have n2_ := am_ (Kd.R_lower (Kd.R_new' (Kd.R_new' ho0 (Kd.R_lt (by (with_reducible repeat (first | apply ra_ | apply rn_ | apply re_)); exact HO_4.out))) (Kd.R_lt (by (with_reducible repeat (first | apply ra_ | apply rn_ | apply re_)); exact HO_7.out))) (bz_ (by repeat (first | (with_reducible first | exact HB.out | apply ba_ | apply bn_ | apply bd_ | refine bs_ ?_ GE227.out | refine bs_ ?_ GE234.out | refine bs_ ?_ GE235.out | refine bs_ ?_ GE245.out) | exact HB.out))))
               have n3_ := am_ (bb_ (g := gb227) (o := .cells #[.slice A0_0 l0_0.length c0_0, .slice A0_1 l0_1.length c0_1] 44 (0, 0)) (by (with_reducible repeat (first | refine kn_ ?_ _ | refine kd_ ?_ | refine ka_ ?_ _)); exact BK227.out) hb)
               have n4_ := am_ (bb_ (g := gb234) (o := .cells #[.string t228, .bool t229] 25 (0, 0)) (by (with_reducible repeat (first | refine kn_ ?_ _ | refine kd_ ?_ | refine ka_ ?_ _)); exact BK234.out) hb)
               have n5_ := am_ (bb_ (g := gb235) (o := .cells #[.string x236000_2, .bool x236001_2] 25 (0, 0)) (by (with_reducible repeat (first | refine kn_ ?_ _ | refine kd_ ?_ | refine ka_ ?_ _)); exact BK235.out) hb)
               have n6_ := am_ (bb_ (g := gb245) (o := .cells #[.string (⟨#[]⟩ : ByteArray), .bool false] 25 (0, 0)) (by (with_reducible repeat (first | refine kn_ ?_ _ | refine kd_ ?_ | refine ka_ ?_ _)); exact BK245.out) hb)
               have n7_ := am_ (bt_ (by repeat (first | (with_reducible first | exact HB.out | apply ba_ | apply bn_ | apply bd_ | refine bs_ ?_ GE227.out | refine bs_ ?_ GE234.out | refine bs_ ?_ GE235.out | refine bs_ ?_ GE245.out) | exact HB.out)) hb)
               clear HO_4; clear HO_7; clear BK227; clear BK234; clear BK235; clear BK245; clear HB; have HO_4 := n0_; have HO_7 := n1_; have HO243 := n2_; have BK227 := n3_; have BK234 := n4_; have BK235 := n5_; have BK245 := n6_; have HB := n7_; clear n0_ n1_ n2_ n3_ n4_ n5_ n6_ n7_
               (try clear hb)
               (try clear hb2)
               (try clear hk)
               (try clear hi)
               (try clear ho0)
               refine hK.out _ _ ⟨(blk_cell BK235.out 0).trans rfl, (blk_cell BK235.out 1).trans rfl, (blk_cell BK227.out 0).trans rfl, (blk_cell BK227.out 1).trans rfl⟩ (fun hHeld => ?_)
               clear hK K
               refine norm_ (a' := ?_) ?_ ?_
               rotate_left
               ·
                show Act.put _ (some 69) _ = _
                simp only [Act.put, s1_, s2_, s3_, i64_w, i32_w]
                rfl
               refine pure_ (i := 13) (N := some 56) (v := ?_) (a' := ?_) #[true, true, true, true, true, true, true, true, true, true, true, true, true, true, false, false, false, true, false, false, false] rfl rfl (any_of HT_.out (by kernel_rfl)) (fun _ _ _ h => h) (Or.inl ⟨by rfl, ?_⟩) ?_ ?_
               rotate_left
               · intro w'; go_simp; with_reducible rfl
               rotate_left
               ·
                simp only [Act.put, s1_, s2_, s3_, i64_w, i32_w]
                rfl
               refine pure_ (i := 14) (N := some 70) (v := ?_) (a' := ?_) #[true, true, true, true, true, true, true, true, true, true, true, true, true, true, true, false, false, true, false, false, false] rfl rfl (any_of HT_.out (by kernel_rfl)) (fun _ _ _ h => h) (Or.inl ⟨by rfl, ?_⟩) ?_ ?_
               rotate_left
               · intro w'; go_simp; with_reducible rfl
               rotate_left
               ·
                simp only [Act.put, s1_, s2_, s3_, i64_w, i32_w]
                rfl
               refine pure_ (i := 15) (N := some 71) (v := ?_) (a' := ?_) #[true, true, true, true, true, true, true, true, true, true, true, true, true, true, true, true, false, true, false, false, false] rfl rfl (any_of HT_.out (by kernel_rfl)) (fun _ _ _ h => h) (Or.inl ⟨by rfl, ?_⟩) ?_ ?_
               rotate_left
               · intro w'; go_simp; with_reducible rfl
               rotate_left
               ·
                simp only [Act.put, s1_, s2_, s3_, i64_w, i32_w]
                rfl
               refine pure_ (i := 16) (N := some 72) (v := ?_) (a' := ?_) #[true, true, true, true, true, true, true, true, true, true, true, true, true, true, true, true, true, true, false, false, false] rfl rfl (any_of HT_.out (by kernel_rfl)) (fun _ _ _ h => h) (Or.inl ⟨by rfl, ?_⟩) ?_ ?_
               rotate_left
               · intro w'; go_simp; with_reducible rfl
               rotate_left
               ·
                simp only [Act.put, s1_, s2_, s3_, i64_w, i32_w]
                rfl
               exact norm_ (by simp only [putAll, Act.put, s1_, s2_, s3_]) (hCont (v242, gb245) _ ⟨hHeld, (by (with_reducible repeat (first | apply ra_ | apply rn_ | apply re_)); exact Kd.R_mono HO243.out (fun _ hk => ⟨hk.1.2, hk.2⟩)), (by (with_reducible repeat (first | apply ra_ | apply rn_ | apply re_)); exact Kd.R_mono HO_4.out (fun _ hk => ⟨hk.2, hk.1⟩)), (by (with_reducible repeat (first | apply ra_ | apply rn_ | apply re_)); exact Kd.R_mono HO_7.out (fun _ hk => ⟨hk.2, hk.1⟩)), (by (with_reducible repeat (first | refine kn_ ?_ _ | refine kd_ ?_ | refine ka_ ?_ _)); exact BK227.out), (by (with_reducible repeat (first | refine kn_ ?_ _ | refine kd_ ?_ | refine ka_ ?_ _)); exact BK234.out), (by (with_reducible repeat (first | refine kn_ ?_ _ | refine kd_ ?_ | refine ka_ ?_ _)); exact BK235.out), (by (with_reducible repeat (first | refine kn_ ?_ _ | refine kd_ ?_ | refine ka_ ?_ _)); exact BK245.out), GW245.out, GE245.out, NB227_245.out, NB245_227.out, NB234_245.out, NB245_234.out, NB235_245.out, NB245_235.out, (by repeat (first | (with_reducible first | exact HB.out | apply ba_ | apply bn_ | apply bd_ | refine bs_ ?_ GE227.out | refine bs_ ?_ GE234.out | refine bs_ ?_ GE235.out | refine bs_ ?_ GE245.out) | exact HB.out))⟩)
             rintro ⟨v242, gb245⟩ w54 ⟨hS_, h0_, h1_, h2_, h3_, h4_, h5_, h6_, h7_, h8_, h9_, h10_, h11_, h12_, h13_, h14_, h15_⟩
             have n0_ : Aside0 (Kd.R k46 46 w54 w.heap.size (fun k_ => some k_ ≠ (v231 : Value).ownBlock ∧ some k_ ≠ (u7 : Value).ownBlock) v242 t241) := ⟨h0_⟩
             have n1_ : Aside0 (Kd.R k46 46 w54 w.heap.size (fun k_ => some k_ ≠ (v242 : Value).ownBlock ∧ some k_ ≠ (u7 : Value).ownBlock) v231 t230) := ⟨h1_⟩
             have n2_ : Aside0 (Kd.R k46 46 w54 w.heap.size (fun k_ => some k_ ≠ (v242 : Value).ownBlock ∧ some k_ ≠ (v231 : Value).ownBlock) u7 x7_2) := ⟨h2_⟩
             have n3_ : Aside0 (w54.heap[gb227]? = some (.cells #[.slice A0_0 l0_0.length c0_0, .slice A0_1 l0_1.length c0_1] 44 (0, 0))) := ⟨h3_⟩
             have n4_ : Aside0 (w54.heap[gb234]? = some (.cells #[.string t228, .bool t229] 25 (0, 0))) := ⟨h4_⟩
             have n5_ : Aside0 (w54.heap[gb235]? = some (.cells #[.string x236000_2, .bool x236001_2] 25 (0, 0))) := ⟨h5_⟩
             have n6_ : Aside0 (w54.heap[gb245]? = some (.cells #[.string (⟨#[]⟩ : ByteArray), .bool false] 25 (0, 0))) := ⟨h6_⟩
             have n7_ : Aside0 (w.heap.size ≤ gb245) := ⟨h7_⟩
             have n8_ : Aside0 (w.heap.size ≤ gb245) := ⟨h8_⟩
             have n9_ : Aside0 (gb227 ≠ gb245) := ⟨h9_⟩
             have n10_ : Aside0 (gb245 ≠ gb227) := ⟨h10_⟩
             have n11_ : Aside0 (gb234 ≠ gb245) := ⟨h11_⟩
             have n12_ : Aside0 (gb245 ≠ gb234) := ⟨h12_⟩
             have n13_ : Aside0 (gb235 ≠ gb245) := ⟨h13_⟩
             have n14_ : Aside0 (gb245 ≠ gb235) := ⟨h14_⟩
             have n15_ : Aside0 (Below w.heap.size w w54) := ⟨h15_⟩
             clear HO_4; clear HO_7; clear BK227; clear BK234; clear BK235; clear HB; clear h0_ h1_ h2_ h3_ h4_ h5_ h6_ h7_ h8_ h9_ h10_ h11_ h12_ h13_ h14_ h15_; have HO243 := n0_; have HO_4 := n1_; have HO_7 := n2_; have BK227 := n3_; have BK234 := n4_; have BK235 := n5_; have BK245 := n6_; have GW245 := n7_; have GE245 := n8_; have NB227_245 := n9_; have NB245_227 := n10_; have NB234_245 := n11_; have NB245_234 := n12_; have NB235_245 := n13_; have NB245_235 := n14_; have HB := n15_; clear n0_ n1_ n2_ n3_ n4_ n5_ n6_ n7_ n8_ n9_ n10_ n11_ n12_ n13_ n14_ n15_
             have hHeld : w54.cell? ⟨gb235, 0, none⟩ = some (.string x236000_2) ∧ w54.cell? ⟨gb235, 1, none⟩ = some (.bool x236001_2) ∧ w54.cell? ⟨gb227, 0, none⟩ = some (.slice A0_0 l0_0.length c0_0) ∧ w54.cell? ⟨gb227, 1, none⟩ = some (.slice A0_1 l0_1.length c0_1) := hS_
             refine norm_ (a' := ?_) ?_ ?_
             rotate_left
             ·
              simp only [putAll, Act.put, s1_, s2_, s3_]
              rfl
             refine one_ (i := 18) (N := none) #[true, true, true, true, true, true, true, true, true, true, true, true, true, true, true, true, true, true, true, false, false] rfl rfl (one_of HT_.out (by kernel_rfl)) (by decide) (fun K hK => ?_)
             have hs55 : w54.cell? ⟨gb245, 0, none⟩ = some (.string (⟨#[]⟩ : ByteArray)) := (blk_cell BK245.out 0).trans rfl
             have hfs55 := blk_frozen BK245.out 0
             have hns55_0 := NB227_245.out
             have hns55_1 := NB234_245.out
             have hns55_2 := NB235_245.out
             have hms55_0 := NB245_227.out
             have hms55_1 := NB245_234.out
             have hms55_2 := NB245_235.out
             have hs56 : w54.cell? ⟨gb245, 1, none⟩ = some (.bool false) := (blk_cell BK245.out 1).trans rfl
             have hfs56 := blk_frozen BK245.out 1
             have hns56_0 := NB227_245.out
             have hns56_1 := NB234_245.out
             have hns56_2 := NB235_245.out
             have hms56_0 := NB245_227.out
             have hms56_1 := NB245_234.out
             have hms56_2 := NB245_235.out
             refine skip_ (w1 := ?_) (by rfl) rfl ?_ ?_
             rotate_left
             ·
              go_simp
              rfl
             refine hK.out _ _ ⟨((cf_ (p := ⟨gb245, _, none⟩) NB235_245.out _).trans (((cf_ (p := ⟨gb245, _, none⟩) NB235_245.out _).trans (hHeld.1)))), ((cf_ (p := ⟨gb245, _, none⟩) NB235_245.out _).trans (((cf_ (p := ⟨gb245, _, none⟩) NB235_245.out _).trans (hHeld.2.1)))), ((cf_ (p := ⟨gb245, _, none⟩) NB227_245.out _).trans (((cf_ (p := ⟨gb245, _, none⟩) NB227_245.out _).trans (hHeld.2.2.1)))), ((cf_ (p := ⟨gb245, _, none⟩) NB227_245.out _).trans (((cf_ (p := ⟨gb245, _, none⟩) NB227_245.out _).trans (hHeld.2.2.2))))⟩ (fun hHeld => ?_)
             clear hK K
             refine pure_ (i := 19) (N := some 12) (v := ?_) (a' := ?_) #[true, true, true, true, true, true, true, true, true, true, true, true, true, true, true, true, true, true, true, true, false] rfl rfl (any_of HT_.out (by kernel_rfl)) (fun _ _ _ h => h) (Or.inl ⟨by rfl, ?_⟩) ?_ ?_
             rotate_left
             · intro w'; go_simp; with_reducible rfl
             rotate_left
             ·
              simp only [Act.put, s1_, s2_, s3_, i64_w, i32_w]
              rfl
             refine pure_ (i := 20) (N := some 13) (v := ?_) (a' := ?_) #[true, true, true, true, true, true, true, true, true, true, true, true, true, true, true, true, true, true, true, true, true] rfl rfl (any_of HT_.out (by kernel_rfl)) (fun _ _ _ h => h) (Or.inl ⟨by rfl, ?_⟩) ?_ ?_
             rotate_left
             · intro w'; go_simp; with_reducible rfl
             rotate_left
             ·
              simp only [Act.put, s1_, s2_, s3_, i64_w, i32_w]
              rfl
             refine done_ (done_of HT_.out (by kernel_rfl)) ?_
             try go_wp2_with (first | ((with_reducible refine gate_callee (f := 11) rfl ?_); refine goesL_ (some 74) rfl rfl Try.func11 (by kernel_rfl) rfl #[.int .i64 t244] rfl (by (try simp only [m1_, m2_, m3_]); first | done | rfl | (simp only [m4_, m5_]; rfl)) ?_; (with_reducible refine (pouchlaw1_num.calls t244 t246 _ A31.out).mono ?_); rintro e w' ⟨rfl, ⟨nd, rfl⟩⟩; refine ⟨_, rfl, ?_⟩))
             go_ret
             exact ⟨by first | rfl | (simp [errW_none, errW_some] <;> rfl) | (simp only [← hji26]; first | rfl | (simp [errW_none, errW_some] <;> rfl)) | (simp [*, errW_none, errW_some] <;> rfl), by repeat (first | (with_reducible first | exact HB.out | apply ba_ | apply bn_ | apply bd_ | refine bs_ ?_ GE227.out | refine bs_ ?_ GE234.out | refine bs_ ?_ GE235.out | refine bs_ ?_ GE245.out) | exact HB.out)⟩
           ·
            rw [if_neg c29] at H
            exact absurd H (by simp)
          ·
           rw [if_neg c28] at H
           exact absurd H (by simp)
         ·
          rw [if_neg c27] at H
          exact absurd H (by simp)
      ·
       rw [if_neg c15] at H
       have c15b0 : decide (x8_2 < (l0_0.length : Int)) = false := decide_eq_false c15
       clear c15
       replace H := Option.bind_eq_some_iff.mp H
       obtain ⟨t250, A570, H⟩ := H
       replace H : (if t250 = 0 then (if (t228.toList == x236000_2.toList && (t229 == x236001_2)) = true then ((pouchref0_EqLines.f k2 x7_2 t230).bind fun t251 => (if t251 = true then ((frame_Check.f x236000_2 x236001_2).bind fun t252 => ((pouchlaw1_num.f t252).bind fun t253 => (if t253 = 0 then ((pouchlaw1_wakes.f).bind fun t254 => (some t254)) else (some false)))) else (some false))) else (some false)) else (some false)) = some r := H
       have A57 := am_ A570
       clear A570
       by_cases c58 : t250 = 0
       ·
        rw [if_pos c58] at H
        have c58b0 : (t250 == 0) = true := beq_iff_eq.mpr c58
        have c58b1 : (t250 != 0) = false := bne_eq_false_iff_eq.mpr c58
        clear c58
        by_cases c59 : (t228.toList == x236000_2.toList && (t229 == x236001_2)) = true
        ·
         rw [if_pos c59] at H
         have c59b0 : (t228.toList == x236000_2.toList && (t229 == x236001_2)) = true := c59
         (try (have c59b1 : decide (t228.toList = x236000_2.toList && (t229 == x236001_2)) = true := by simpa using c59))
         (try (have c59b2 : (t228.toList == x236000_2.toList && (t229 == x236001_2)) = true := by simpa using c59))
         clear c59
         replace H := Option.bind_eq_some_iff.mp H
         obtain ⟨t251, A600, H⟩ := H
         replace H : (if t251 = true then ((frame_Check.f x236000_2 x236001_2).bind fun t252 => ((pouchlaw1_num.f t252).bind fun t253 => (if t253 = 0 then ((pouchlaw1_wakes.f).bind fun t254 => (some t254)) else (some false)))) else (some false)) = some r := H
         have A60 := am_ A600
         clear A600
         by_cases c61 : t251 = true
         ·
          subst c61
          have H1 : ((frame_Check.f x236000_2 x236001_2).bind fun t252 => ((pouchlaw1_num.f t252).bind fun t253 => (if t253 = 0 then ((pouchlaw1_wakes.f).bind fun t254 => (some t254)) else (some false)))) = some r := by rw [if_pos rfl] at H; exact H
          clear H; have H := H1; clear H1
          replace H := Option.bind_eq_some_iff.mp H
          obtain ⟨t252, A620, H⟩ := H
          replace H : ((pouchlaw1_num.f t252).bind fun t253 => (if t253 = 0 then ((pouchlaw1_wakes.f).bind fun t254 => (some t254)) else (some false))) = some r := H
          have A62 := am_ A620
          clear A620
          replace H := Option.bind_eq_some_iff.mp H
          obtain ⟨t253, A630, H⟩ := H
          replace H : (if t253 = 0 then ((pouchlaw1_wakes.f).bind fun t254 => (some t254)) else (some false)) = some r := H
          have A63 := am_ A630
          clear A630
          by_cases c64 : t253 = 0
          ·
           rw [if_pos c64] at H
           have c64b0 : (t253 == 0) = true := beq_iff_eq.mpr c64
           have c64b1 : (t253 != 0) = false := bne_eq_false_iff_eq.mpr c64
           clear c64
           replace H := Option.bind_eq_some_iff.mp H
           obtain ⟨t254, A650, H⟩ := H
           replace H : (some t254) = some r := H
           have A65 := am_ A650
           clear A650
           obtain rfl := Option.some.inj H
           have hnb66 := NB227_234.out
           have hnc66 := NB234_227.out
           have hnb67 := NB227_235.out
           have hnc67 := NB235_227.out
           have hcz68_0 : wr.cell? ⟨gb227, 0, none⟩ = some (.slice A0_0 l0_0.length c0_0) := (blk_cell BK227.out 0).trans rfl
           have hcz68_1 : wr.cell? ⟨gb227, 1, none⟩ = some (.slice A0_1 l0_1.length c0_1) := (blk_cell BK227.out 1).trans rfl
           have hfz68_0 := blk_frozen BK227.out 0
           have hfz68_1 := blk_frozen BK227.out 1
           go_wp2_with (first | ((with_reducible refine gate_callee (f := 11) rfl ?_); refine goesL_ (some 84) rfl rfl Try.func11 (by kernel_rfl) rfl #[.int .i64 t233] rfl (by (try simp only [m1_, m2_, m3_]); first | done | rfl | (simp only [m4_, m5_]; rfl)) ?_; (with_reducible refine (pouchlaw1_num.calls t233 t250 _ A57.out).mono ?_); rintro e w' ⟨rfl, ⟨nd, rfl⟩⟩; refine ⟨_, rfl, ?_⟩; have hnb69 := NB234_235.out; have hnc69 := NB235_234.out; have hcz70_0 : wr.cell? ⟨gb234, 0, none⟩ = some (.string t228) := (blk_cell BK234.out 0).trans rfl; have hcz70_1 : wr.cell? ⟨gb234, 1, none⟩ = some (.bool t229) := (blk_cell BK234.out 1).trans rfl; have hfz70_0 := blk_frozen BK234.out 0; have hfz70_1 := blk_frozen BK234.out 1; have hcz71_0 : wr.cell? ⟨gb235, 0, none⟩ = some (.string x236000_2) := (blk_cell BK235.out 0).trans rfl; have hcz71_1 : wr.cell? ⟨gb235, 1, none⟩ = some (.bool x236001_2) := (blk_cell BK235.out 1).trans rfl; have hfz71_0 := blk_frozen BK235.out 0; have hfz71_1 := blk_frozen BK235.out 1; obtain ⟨Ao72, co72, eo72⟩ := Kd.R_slice HO_7.out; subst eo72; obtain ⟨Ao73, co73, eo73⟩ := Kd.R_slice HO_4.out; subst eo73) | (go_at_call 13; (with_reducible refine (pouchref0_EqLines.calls k2 _ _ x7_2 _ _ t230 true _ ?side1 ?side2 ?side3 ?side4 A60.out).mono ?_); (case side1 => repeat (first | exact (Kd.R_reads' HO_7.out).2.2 | (with_reducible refine ca_ ?_ _) | (with_reducible refine cn_ ?_ _) | (with_reducible refine cd_ ?_))); (case side2 => exact (Kd.R_reads' HO_7.out).2.1); (case side3 => repeat (first | exact (Kd.R_reads' HO_4.out).2.2 | (with_reducible refine ca_ ?_ _) | (with_reducible refine cn_ ?_ _) | (with_reducible refine cd_ ?_))); (case side4 => exact (Kd.R_reads' HO_4.out).2.1); rintro e w' ⟨rfl, ⟨nd, rfl⟩⟩) | (go_at_call 16; (with_reducible refine (frame_Check.calls x236000_2 x236001_2 t252 _ ?side1 A62.out).mono ?_); (case side1 => exact GrOk.below hG (by repeat (first | (with_reducible first | exact HB.out | apply ba_ | apply bn_ | apply bd_ | refine bs_ ?_ GE227.out | refine bs_ ?_ GE234.out | refine bs_ ?_ GE235.out) | exact HB.out))); rintro e w74 ⟨rfl, hb⟩; have n0_ := am_ (rb_ (by (with_reducible repeat (first | apply ra_ | apply rn_ | apply re_)); exact HO_4.out) hb); have n1_ := am_ (rb_ (by (with_reducible repeat (first | apply ra_ | apply rn_ | apply re_)); exact HO_7.out) hb); have n2_ := am_ (bb_ (g := gb227) (o := .cells #[.slice A0_0 l0_0.length c0_0, .slice A0_1 l0_1.length c0_1] 44 (0, 0)) (by (with_reducible repeat (first | refine kn_ ?_ _ | refine kd_ ?_ | refine ka_ ?_ _)); exact BK227.out) hb); have n3_ := am_ (bb_ (g := gb234) (o := .cells #[.string t228, .bool t229] 25 (0, 0)) (by (with_reducible repeat (first | refine kn_ ?_ _ | refine kd_ ?_ | refine ka_ ?_ _)); exact BK234.out) hb); have n4_ := am_ (bb_ (g := gb235) (o := .cells #[.string x236000_2, .bool x236001_2] 25 (0, 0)) (by (with_reducible repeat (first | refine kn_ ?_ _ | refine kd_ ?_ | refine ka_ ?_ _)); exact BK235.out) hb); have n5_ := am_ (bt_ (by repeat (first | (with_reducible first | exact HB.out | apply ba_ | apply bn_ | apply bd_ | refine bs_ ?_ GE227.out | refine bs_ ?_ GE234.out | refine bs_ ?_ GE235.out) | exact HB.out)) hb); clear HO_4; clear HO_7; clear BK227; clear BK234; clear BK235; clear HB; have HO_4 := n0_; have HO_7 := n1_; have BK227 := n2_; have BK234 := n3_; have BK235 := n4_; have HB := n5_; clear n0_ n1_ n2_ n3_ n4_ n5_; (try clear hb); (try clear hb2); (try clear hk); (try clear hi)) | (go_at_call 11; (with_reducible refine (pouchlaw1_num.calls t252 t253 _ A63.out).mono ?_); rintro e w' ⟨rfl, ⟨nd, rfl⟩⟩) | (go_at_call 15; (with_reducible refine (pouchlaw1_wakes.calls  t254 _ ?side1 A65.out).mono ?_); (case side1 => exact GrOk.below hG (by repeat (first | (with_reducible first | exact HB.out | apply ba_ | apply bn_ | apply bd_ | refine bs_ ?_ GE227.out | refine bs_ ?_ GE234.out | refine bs_ ?_ GE235.out) | exact HB.out))); rintro e w75 ⟨rfl, hb⟩; have n0_ := am_ (rb_ (by (with_reducible repeat (first | apply ra_ | apply rn_ | apply re_)); exact HO_4.out) hb); have n1_ := am_ (rb_ (by (with_reducible repeat (first | apply ra_ | apply rn_ | apply re_)); exact HO_7.out) hb); have n2_ := am_ (bb_ (g := gb227) (o := .cells #[.slice A0_0 l0_0.length c0_0, .slice A0_1 l0_1.length c0_1] 44 (0, 0)) (by (with_reducible repeat (first | refine kn_ ?_ _ | refine kd_ ?_ | refine ka_ ?_ _)); exact BK227.out) hb); have n3_ := am_ (bb_ (g := gb234) (o := .cells #[.string t228, .bool t229] 25 (0, 0)) (by (with_reducible repeat (first | refine kn_ ?_ _ | refine kd_ ?_ | refine ka_ ?_ _)); exact BK234.out) hb); have n4_ := am_ (bb_ (g := gb235) (o := .cells #[.string x236000_2, .bool x236001_2] 25 (0, 0)) (by (with_reducible repeat (first | refine kn_ ?_ _ | refine kd_ ?_ | refine ka_ ?_ _)); exact BK235.out) hb); have n5_ := am_ (bt_ (by repeat (first | (with_reducible first | exact HB.out | apply ba_ | apply bn_ | apply bd_ | refine bs_ ?_ GE227.out | refine bs_ ?_ GE234.out | refine bs_ ?_ GE235.out) | exact HB.out)) hb); clear HO_4; clear HO_7; clear BK227; clear BK234; clear BK235; clear HB; have HO_4 := n0_; have HO_7 := n1_; have BK227 := n2_; have BK234 := n3_; have BK235 := n4_; have HB := n5_; clear n0_ n1_ n2_ n3_ n4_ n5_; (try clear hb); (try clear hb2); (try clear hk); (try clear hi)))
           go_ret
           exact ⟨by first | rfl | (simp [errW_none, errW_some] <;> rfl) | (simp [*, errW_none, errW_some] <;> rfl), by repeat (first | (with_reducible first | exact HB.out | apply ba_ | apply bn_ | apply bd_ | refine bs_ ?_ GE227.out | refine bs_ ?_ GE234.out | refine bs_ ?_ GE235.out) | exact HB.out)⟩
          ·
           rw [if_neg c64] at H
           have c64b0 : (t253 == 0) = false := beq_eq_false_iff_ne.mpr c64
           have c64b1 : (t253 != 0) = true := bne_iff_ne.mpr c64
           obtain rfl := Option.some.inj H
           have hnb76 := NB227_234.out
           have hnc76 := NB234_227.out
           have hnb77 := NB227_235.out
           have hnc77 := NB235_227.out
           have hcz78_0 : wr.cell? ⟨gb227, 0, none⟩ = some (.slice A0_0 l0_0.length c0_0) := (blk_cell BK227.out 0).trans rfl
           have hcz78_1 : wr.cell? ⟨gb227, 1, none⟩ = some (.slice A0_1 l0_1.length c0_1) := (blk_cell BK227.out 1).trans rfl
           have hfz78_0 := blk_frozen BK227.out 0
           have hfz78_1 := blk_frozen BK227.out 1
           go_wp2_with (first | ((with_reducible refine gate_callee (f := 11) rfl ?_); refine goesL_ (some 84) rfl rfl Try.func11 (by kernel_rfl) rfl #[.int .i64 t233] rfl (by (try simp only [m1_, m2_, m3_]); first | done | rfl | (simp only [m4_, m5_]; rfl)) ?_; (with_reducible refine (pouchlaw1_num.calls t233 t250 _ A57.out).mono ?_); rintro e w' ⟨rfl, ⟨nd, rfl⟩⟩; refine ⟨_, rfl, ?_⟩; have hnb79 := NB234_235.out; have hnc79 := NB235_234.out; have hcz80_0 : wr.cell? ⟨gb234, 0, none⟩ = some (.string t228) := (blk_cell BK234.out 0).trans rfl; have hcz80_1 : wr.cell? ⟨gb234, 1, none⟩ = some (.bool t229) := (blk_cell BK234.out 1).trans rfl; have hfz80_0 := blk_frozen BK234.out 0; have hfz80_1 := blk_frozen BK234.out 1; have hcz81_0 : wr.cell? ⟨gb235, 0, none⟩ = some (.string x236000_2) := (blk_cell BK235.out 0).trans rfl; have hcz81_1 : wr.cell? ⟨gb235, 1, none⟩ = some (.bool x236001_2) := (blk_cell BK235.out 1).trans rfl; have hfz81_0 := blk_frozen BK235.out 0; have hfz81_1 := blk_frozen BK235.out 1; obtain ⟨Ao82, co82, eo82⟩ := Kd.R_slice HO_7.out; subst eo82; obtain ⟨Ao83, co83, eo83⟩ := Kd.R_slice HO_4.out; subst eo83) | (go_at_call 13; (with_reducible refine (pouchref0_EqLines.calls k2 _ _ x7_2 _ _ t230 true _ ?side1 ?side2 ?side3 ?side4 A60.out).mono ?_); (case side1 => repeat (first | exact (Kd.R_reads' HO_7.out).2.2 | (with_reducible refine ca_ ?_ _) | (with_reducible refine cn_ ?_ _) | (with_reducible refine cd_ ?_))); (case side2 => exact (Kd.R_reads' HO_7.out).2.1); (case side3 => repeat (first | exact (Kd.R_reads' HO_4.out).2.2 | (with_reducible refine ca_ ?_ _) | (with_reducible refine cn_ ?_ _) | (with_reducible refine cd_ ?_))); (case side4 => exact (Kd.R_reads' HO_4.out).2.1); rintro e w' ⟨rfl, ⟨nd, rfl⟩⟩) | (go_at_call 16; (with_reducible refine (frame_Check.calls x236000_2 x236001_2 t252 _ ?side1 A62.out).mono ?_); (case side1 => exact GrOk.below hG (by repeat (first | (with_reducible first | exact HB.out | apply ba_ | apply bn_ | apply bd_ | refine bs_ ?_ GE227.out | refine bs_ ?_ GE234.out | refine bs_ ?_ GE235.out) | exact HB.out))); rintro e w84 ⟨rfl, hb⟩; have n0_ := am_ (rb_ (by (with_reducible repeat (first | apply ra_ | apply rn_ | apply re_)); exact HO_4.out) hb); have n1_ := am_ (rb_ (by (with_reducible repeat (first | apply ra_ | apply rn_ | apply re_)); exact HO_7.out) hb); have n2_ := am_ (bb_ (g := gb227) (o := .cells #[.slice A0_0 l0_0.length c0_0, .slice A0_1 l0_1.length c0_1] 44 (0, 0)) (by (with_reducible repeat (first | refine kn_ ?_ _ | refine kd_ ?_ | refine ka_ ?_ _)); exact BK227.out) hb); have n3_ := am_ (bb_ (g := gb234) (o := .cells #[.string t228, .bool t229] 25 (0, 0)) (by (with_reducible repeat (first | refine kn_ ?_ _ | refine kd_ ?_ | refine ka_ ?_ _)); exact BK234.out) hb); have n4_ := am_ (bb_ (g := gb235) (o := .cells #[.string x236000_2, .bool x236001_2] 25 (0, 0)) (by (with_reducible repeat (first | refine kn_ ?_ _ | refine kd_ ?_ | refine ka_ ?_ _)); exact BK235.out) hb); have n5_ := am_ (bt_ (by repeat (first | (with_reducible first | exact HB.out | apply ba_ | apply bn_ | apply bd_ | refine bs_ ?_ GE227.out | refine bs_ ?_ GE234.out | refine bs_ ?_ GE235.out) | exact HB.out)) hb); clear HO_4; clear HO_7; clear BK227; clear BK234; clear BK235; clear HB; have HO_4 := n0_; have HO_7 := n1_; have BK227 := n2_; have BK234 := n3_; have BK235 := n4_; have HB := n5_; clear n0_ n1_ n2_ n3_ n4_ n5_; (try clear hb); (try clear hb2); (try clear hk); (try clear hi)) | (go_at_call 11; (with_reducible refine (pouchlaw1_num.calls t252 t253 _ A63.out).mono ?_); rintro e w' ⟨rfl, ⟨nd, rfl⟩⟩))
           go_ret
           exact ⟨by first | rfl | (simp [errW_none, errW_some] <;> rfl) | (simp [*, errW_none, errW_some] <;> rfl), by repeat (first | (with_reducible first | exact HB.out | apply ba_ | apply bn_ | apply bd_ | refine bs_ ?_ GE227.out | refine bs_ ?_ GE234.out | refine bs_ ?_ GE235.out) | exact HB.out)⟩
         ·
          replace c61 := Bool.eq_false_iff.mpr c61
          subst c61
          have H1 : (some false) = some r := by rw [if_neg (show ¬ (false = true) by decide)] at H; exact H
          clear H; have H := H1; clear H1
          obtain rfl := Option.some.inj H
          have hnb85 := NB227_234.out
          have hnc85 := NB234_227.out
          have hnb86 := NB227_235.out
          have hnc86 := NB235_227.out
          have hcz87_0 : wr.cell? ⟨gb227, 0, none⟩ = some (.slice A0_0 l0_0.length c0_0) := (blk_cell BK227.out 0).trans rfl
          have hcz87_1 : wr.cell? ⟨gb227, 1, none⟩ = some (.slice A0_1 l0_1.length c0_1) := (blk_cell BK227.out 1).trans rfl
          have hfz87_0 := blk_frozen BK227.out 0
          have hfz87_1 := blk_frozen BK227.out 1
          go_wp2_with (first | ((with_reducible refine gate_callee (f := 11) rfl ?_); refine goesL_ (some 84) rfl rfl Try.func11 (by kernel_rfl) rfl #[.int .i64 t233] rfl (by (try simp only [m1_, m2_, m3_]); first | done | rfl | (simp only [m4_, m5_]; rfl)) ?_; (with_reducible refine (pouchlaw1_num.calls t233 t250 _ A57.out).mono ?_); rintro e w' ⟨rfl, ⟨nd, rfl⟩⟩; refine ⟨_, rfl, ?_⟩; have hnb88 := NB234_235.out; have hnc88 := NB235_234.out; have hcz89_0 : wr.cell? ⟨gb234, 0, none⟩ = some (.string t228) := (blk_cell BK234.out 0).trans rfl; have hcz89_1 : wr.cell? ⟨gb234, 1, none⟩ = some (.bool t229) := (blk_cell BK234.out 1).trans rfl; have hfz89_0 := blk_frozen BK234.out 0; have hfz89_1 := blk_frozen BK234.out 1; have hcz90_0 : wr.cell? ⟨gb235, 0, none⟩ = some (.string x236000_2) := (blk_cell BK235.out 0).trans rfl; have hcz90_1 : wr.cell? ⟨gb235, 1, none⟩ = some (.bool x236001_2) := (blk_cell BK235.out 1).trans rfl; have hfz90_0 := blk_frozen BK235.out 0; have hfz90_1 := blk_frozen BK235.out 1; obtain ⟨Ao91, co91, eo91⟩ := Kd.R_slice HO_7.out; subst eo91; obtain ⟨Ao92, co92, eo92⟩ := Kd.R_slice HO_4.out; subst eo92) | (go_at_call 13; (with_reducible refine (pouchref0_EqLines.calls k2 _ _ x7_2 _ _ t230 false _ ?side1 ?side2 ?side3 ?side4 A60.out).mono ?_); (case side1 => repeat (first | exact (Kd.R_reads' HO_7.out).2.2 | (with_reducible refine ca_ ?_ _) | (with_reducible refine cn_ ?_ _) | (with_reducible refine cd_ ?_))); (case side2 => exact (Kd.R_reads' HO_7.out).2.1); (case side3 => repeat (first | exact (Kd.R_reads' HO_4.out).2.2 | (with_reducible refine ca_ ?_ _) | (with_reducible refine cn_ ?_ _) | (with_reducible refine cd_ ?_))); (case side4 => exact (Kd.R_reads' HO_4.out).2.1); rintro e w' ⟨rfl, ⟨nd, rfl⟩⟩))
          go_ret
          exact ⟨by first | rfl | (simp [errW_none, errW_some] <;> rfl) | (simp [*, errW_none, errW_some] <;> rfl), by repeat (first | (with_reducible first | exact HB.out | apply ba_ | apply bn_ | apply bd_ | refine bs_ ?_ GE227.out | refine bs_ ?_ GE234.out | refine bs_ ?_ GE235.out) | exact HB.out)⟩
        ·
         rw [if_neg c59] at H
         have c59b0 : (t228.toList == x236000_2.toList && (t229 == x236001_2)) = false := by simpa using c59
         (try (have c59b1 : decide (t228.toList = x236000_2.toList && (t229 == x236001_2)) = false := by simpa using c59))
         (try (have c59b2 : (t228.toList == x236000_2.toList && (t229 == x236001_2)) = false := by simpa using c59))
         (try (have c59b3 : ¬ (t228.toList = x236000_2.toList && (t229 == x236001_2)) := by simpa using c59))
         clear c59
         obtain rfl := Option.some.inj H
         have hnb93 := NB227_234.out
         have hnc93 := NB234_227.out
         have hnb94 := NB227_235.out
         have hnc94 := NB235_227.out
         have hcz95_0 : wr.cell? ⟨gb227, 0, none⟩ = some (.slice A0_0 l0_0.length c0_0) := (blk_cell BK227.out 0).trans rfl
         have hcz95_1 : wr.cell? ⟨gb227, 1, none⟩ = some (.slice A0_1 l0_1.length c0_1) := (blk_cell BK227.out 1).trans rfl
         have hfz95_0 := blk_frozen BK227.out 0
         have hfz95_1 := blk_frozen BK227.out 1
         go_wp2_with (first | ((with_reducible refine gate_callee (f := 11) rfl ?_); refine goesL_ (some 84) rfl rfl Try.func11 (by kernel_rfl) rfl #[.int .i64 t233] rfl (by (try simp only [m1_, m2_, m3_]); first | done | rfl | (simp only [m4_, m5_]; rfl)) ?_; (with_reducible refine (pouchlaw1_num.calls t233 t250 _ A57.out).mono ?_); rintro e w' ⟨rfl, ⟨nd, rfl⟩⟩; refine ⟨_, rfl, ?_⟩; have hnb96 := NB234_235.out; have hnc96 := NB235_234.out; have hcz97_0 : wr.cell? ⟨gb234, 0, none⟩ = some (.string t228) := (blk_cell BK234.out 0).trans rfl; have hcz97_1 : wr.cell? ⟨gb234, 1, none⟩ = some (.bool t229) := (blk_cell BK234.out 1).trans rfl; have hfz97_0 := blk_frozen BK234.out 0; have hfz97_1 := blk_frozen BK234.out 1; have hcz98_0 : wr.cell? ⟨gb235, 0, none⟩ = some (.string x236000_2) := (blk_cell BK235.out 0).trans rfl; have hcz98_1 : wr.cell? ⟨gb235, 1, none⟩ = some (.bool x236001_2) := (blk_cell BK235.out 1).trans rfl; have hfz98_0 := blk_frozen BK235.out 0; have hfz98_1 := blk_frozen BK235.out 1))
         go_ret
         exact ⟨by first | rfl | (simp [errW_none, errW_some] <;> rfl) | (simp [*, errW_none, errW_some] <;> rfl), by repeat (first | (with_reducible first | exact HB.out | apply ba_ | apply bn_ | apply bd_ | refine bs_ ?_ GE227.out | refine bs_ ?_ GE234.out | refine bs_ ?_ GE235.out) | exact HB.out)⟩
       ·
        rw [if_neg c58] at H
        have c58b0 : (t250 == 0) = false := beq_eq_false_iff_ne.mpr c58
        have c58b1 : (t250 != 0) = true := bne_iff_ne.mpr c58
        obtain rfl := Option.some.inj H
        have hnb99 := NB227_234.out
        have hnc99 := NB234_227.out
        have hnb100 := NB227_235.out
        have hnc100 := NB235_227.out
        have hcz101_0 : wr.cell? ⟨gb227, 0, none⟩ = some (.slice A0_0 l0_0.length c0_0) := (blk_cell BK227.out 0).trans rfl
        have hcz101_1 : wr.cell? ⟨gb227, 1, none⟩ = some (.slice A0_1 l0_1.length c0_1) := (blk_cell BK227.out 1).trans rfl
        have hfz101_0 := blk_frozen BK227.out 0
        have hfz101_1 := blk_frozen BK227.out 1
        go_wp2_with (first | ((with_reducible refine gate_callee (f := 11) rfl ?_); refine goesL_ (some 84) rfl rfl Try.func11 (by kernel_rfl) rfl #[.int .i64 t233] rfl (by (try simp only [m1_, m2_, m3_]); first | done | rfl | (simp only [m4_, m5_]; rfl)) ?_; (with_reducible refine (pouchlaw1_num.calls t233 t250 _ A57.out).mono ?_); rintro e w' ⟨rfl, ⟨nd, rfl⟩⟩; refine ⟨_, rfl, ?_⟩))
        go_ret
        exact ⟨by first | rfl | (simp [errW_none, errW_some] <;> rfl) | (simp [*, errW_none, errW_some] <;> rfl), by repeat (first | (with_reducible first | exact HB.out | apply ba_ | apply bn_ | apply bd_ | refine bs_ ?_ GE227.out | refine bs_ ?_ GE234.out | refine bs_ ?_ GE235.out) | exact HB.out)⟩

end Go.Proofs.Ytcaibcefgfolbaa.PFr
