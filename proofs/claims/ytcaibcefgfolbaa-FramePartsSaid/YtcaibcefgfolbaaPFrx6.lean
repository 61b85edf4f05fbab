-- Written for this claim by a program: the kit's print.py from a scratch copy, turned by wip/tools/ghostprint.py
import Derived.Test.YtcaibcefgfolbaaPFrx0
import Derived.Test.YtcaibcefgfolbaaPFrx1
import Derived.Test.YtcaibcefgfolbaaPFrx2
import Derived.Test.YtcaibcefgfolbaaPFrx3
import Derived.Test.YtcaibcefgfolbaaPFrx4
import Derived.Test.YtcaibcefgfolbaaWakes
namespace Go.Proofs.Ytcaibcefgfolbaa.PFr
open Go.RowKit Go.Proofs.YtcaibcefgfolbaaW.PrintWords Go.Proofs.YtcaibcefgfolbaaW.PrintLast Go.Proofs.YtcaibcefgfolbaaW.PrintMore
attribute [local go_sem] max2_int min2_int max_two min_two max_three min_three max_four min_four   -- for this text's walks alone
set_option linter.unusedVariables false
set_option linter.unusedSimpArgs false

attribute [local go_sem high] eqA25 eqA46
/-! ### pouchlaw1_FrameLongs: function 4 -/
mutual
def pouchlaw1_FrameLongs.l0 : Nat → Int → List Int → List Int → Option (Bool)
 | 0, _, _, _ => none
 | k + 1, x3, x185000, x185001 => if x3 ≤ 515 then (if 0 ≤ x3 then (if (x3 : Int).toNat ≤ 281474976710656 then (pouchlaw1_FrameLongs.l1 k x3 (List.replicate (x3 : Int).toNat 0) 0 x185000 x185001) else (none)) else (none)) else ((pouchlaw1_wakes.f).bind fun t185 => (some t185))
def pouchlaw1_FrameLongs.l1 : Nat → Int → List Int → Int → List Int → List Int → Option (Bool)
 | 0, _, _, _, _, _ => none
 | k + 1, x3, x4, x5, x185000, x185001 => if x5 < x3 then (if 0 ≤ x5 then (if x5 < (x4.length : Int) then (pouchlaw1_FrameLongs.l1 k x3 (x4.set (x5 : Int).toNat 97) (wrap64 (x5 + 1)) x185000 x185001) else (none)) else (none)) else (if ((x185000.length : Int) % 2) = 1 then (pouchlaw1_FrameLongs.j2 k x3 x4 13 x185000 x185001) else (pouchlaw1_FrameLongs.j2 k x3 x4 120 x185000 x185001))
def pouchlaw1_FrameLongs.j2 : Nat → Int → List Int → Int → List Int → List Int → Option (Bool)
 | 0, _, _, _, _, _ => none
 | k + 1, x3, x4, x6, x185000, x185001 => if 0 ≤ (wrap64 (x3 - 1)) then (if (wrap64 (x3 - 1)) < (x4.length : Int) then ((some (x4.set ((wrap64 (x3 - 1)) : Int).toNat x6 : List Int)).bind fun y190 => (if y190.length + 8 < 140737488355328 then ((some (y190 ++ bytesOf (⟨#[13, 10, 110, 101, 120, 116, 13, 10]⟩ : ByteArray) : List Int)).bind fun y191 => ((frame_Feed.f k (⟨#[]⟩ : ByteArray) false y191).bind fun bt194 => ((pouchlaw1_num.f bt194.2.2.2).bind fun t201 => (if t201 = 0 then (if (bt194.2.2.1.length : Int) = 2 then (if 0 < (bt194.2.2.1.length : Int) then (if (((rd_T46 bt194.2.2.1 0).f1) != (decide ((wrap64 (x3 + 2)) > 512))) = true then (pouchlaw1_FrameLongs.j3 k x3 y191 true x185000 x185001) else (if ((((rd_T46 bt194.2.2.1 0).f0).toList == ([] : List UInt8)) != (decide ((wrap64 (x3 + 2)) > 512))) = true then (pouchlaw1_FrameLongs.j3 k x3 y191 true x185000 x185001) else (if 1 < (bt194.2.2.1.length : Int) then (if (!((((rd_T46 bt194.2.2.1 1).f0).toList) == ([110, 101, 120, 116] : List UInt8)) || (((rd_T46 bt194.2.2.1 1).f1))) = true then (pouchlaw1_FrameLongs.j3 k x3 y191 true x185000 x185001) else (pouchlaw1_FrameLongs.j3 k x3 y191 (!(bt194.1.toList == ([] : List UInt8)) || (bt194.2.1)) x185000 x185001)) else (none)))) else (none)) else (pouchlaw1_FrameLongs.j3 k x3 y191 true x185000 x185001)) else (pouchlaw1_FrameLongs.j3 k x3 y191 true x185000 x185001))))) else (none))) else (none)) else (none)
def pouchlaw1_FrameLongs.j3 : Nat → Int → List Int → Bool → List Int → List Int → Option (Bool)
 | 0, _, _, _, _, _ => none
 | k + 1, x3, x7, x86, x185000, x185001 => if x86 = true then (some false) else (if 0 ≤ (wrap64 (x3 + 1)) then (if (wrap64 (x3 + 1)) ≤ (x7.length : Int) then ((frame_Feed.f k (⟨#[]⟩ : ByteArray) false (x7.take ((wrap64 (x3 + 1)) : Int).toNat)).bind fun bt209 => ((pouchlaw1_num.f bt209.2.2.2).bind fun t216 => (if t216 = 0 then (if (bt209.2.2.1.length : Int) = 0 then (if (bt209.2.1 != (decide ((wrap64 (x3 + 1)) ≥ 512))) = true then (some false) else (pouchlaw1_FrameLongs.l0 k (wrap64 (x3 + 1)) x185000 x185001)) else (some false)) else (some false)))) else (none)) else (none))
end
def pouchlaw1_FrameLongs.f (k : Nat) (l0_0 : List Int) (l0_1 : List Int) : Option (Bool) := pouchlaw1_FrameLongs.l0 k 508 l0_0 l0_1
theorem pouchlaw1_FrameLongs.mono_l : ∀ k, (∀ y0 y1 y2, LeO (pouchlaw1_FrameLongs.l0 k y0 y1 y2) (pouchlaw1_FrameLongs.l0 (k + 1) y0 y1 y2)) ∧ (∀ y0 y1 y2 y3 y4, LeO (pouchlaw1_FrameLongs.l1 k y0 y1 y2 y3 y4) (pouchlaw1_FrameLongs.l1 (k + 1) y0 y1 y2 y3 y4)) ∧ (∀ y0 y1 y2 y3 y4, LeO (pouchlaw1_FrameLongs.j2 k y0 y1 y2 y3 y4) (pouchlaw1_FrameLongs.j2 (k + 1) y0 y1 y2 y3 y4)) ∧ (∀ y0 y1 y2 y3 y4, LeO (pouchlaw1_FrameLongs.j3 k y0 y1 y2 y3 y4) (pouchlaw1_FrameLongs.j3 (k + 1) y0 y1 y2 y3 y4))
 | 0 => ⟨fun _ _ _ r h => by simp [pouchlaw1_FrameLongs.l0] at h, fun _ _ _ _ _ r h => by simp [pouchlaw1_FrameLongs.l1] at h, fun _ _ _ _ _ r h => by simp [pouchlaw1_FrameLongs.j2] at h, fun _ _ _ _ _ r h => by simp [pouchlaw1_FrameLongs.j3] at h⟩
 | k + 1 => by
  obtain ⟨ih0, ih1, ih2, ih3⟩ := pouchlaw1_FrameLongs.mono_l k
  refine ⟨?_, ?_, ?_, ?_⟩
  ·
   intro y0 y1 y2
   unfold pouchlaw1_FrameLongs.l0
   repeat' first
   | (with_reducible exact ih0 _ _ _)
   | (with_reducible exact ih1 _ _ _ _ _)
   | (with_reducible exact ih2 _ _ _ _ _)
   | (with_reducible exact ih3 _ _ _ _ _)
   | (with_reducible exact frame_Feed.mono _ _ _ _)
   | (with_reducible exact LeO.refl _)
   | (with_reducible exact LeO.none _)
   | (with_reducible refine LeO.ite ?_ ?_)
   | (with_reducible refine LeO.bind ?_ (fun _ => ?_))
   | exact ih0 _ _ _
   | exact ih1 _ _ _ _ _
   | exact ih2 _ _ _ _ _
   | exact ih3 _ _ _ _ _
   | exact frame_Feed.mono _ _ _ _
   | exact LeO.none _
   | refine LeO.ite ?_ ?_
   | refine LeO.bind ?_ (fun _ => ?_)
  ·
   intro y0 y1 y2 y3 y4
   unfold pouchlaw1_FrameLongs.l1
   repeat' first
   | (with_reducible exact ih0 _ _ _)
   | (with_reducible exact ih1 _ _ _ _ _)
   | (with_reducible exact ih2 _ _ _ _ _)
   | (with_reducible exact ih3 _ _ _ _ _)
   | (with_reducible exact frame_Feed.mono _ _ _ _)
   | (with_reducible exact LeO.refl _)
   | (with_reducible exact LeO.none _)
   | (with_reducible refine LeO.ite ?_ ?_)
   | (with_reducible refine LeO.bind ?_ (fun _ => ?_))
   | exact ih0 _ _ _
   | exact ih1 _ _ _ _ _
   | exact ih2 _ _ _ _ _
   | exact ih3 _ _ _ _ _
   | exact frame_Feed.mono _ _ _ _
   | exact LeO.none _
   | refine LeO.ite ?_ ?_
   | refine LeO.bind ?_ (fun _ => ?_)
  ·
   intro y0 y1 y2 y3 y4
   unfold pouchlaw1_FrameLongs.j2
   repeat' first
   | (with_reducible exact ih0 _ _ _)
   | (with_reducible exact ih1 _ _ _ _ _)
   | (with_reducible exact ih2 _ _ _ _ _)
   | (with_reducible exact ih3 _ _ _ _ _)
   | (with_reducible exact frame_Feed.mono _ _ _ _)
   | (with_reducible exact LeO.refl _)
   | (with_reducible exact LeO.none _)
   | (with_reducible refine LeO.ite ?_ ?_)
   | (with_reducible refine LeO.bind ?_ (fun _ => ?_))
   | exact ih0 _ _ _
   | exact ih1 _ _ _ _ _
   | exact ih2 _ _ _ _ _
   | exact ih3 _ _ _ _ _
   | exact frame_Feed.mono _ _ _ _
   | exact LeO.none _
   | refine LeO.ite ?_ ?_
   | refine LeO.bind ?_ (fun _ => ?_)
  ·
   intro y0 y1 y2 y3 y4
   unfold pouchlaw1_FrameLongs.j3
   repeat' first
   | (with_reducible exact ih0 _ _ _)
   | (with_reducible exact ih1 _ _ _ _ _)
   | (with_reducible exact ih2 _ _ _ _ _)
   | (with_reducible exact ih3 _ _ _ _ _)
   | (with_reducible exact frame_Feed.mono _ _ _ _)
   | (with_reducible exact LeO.refl _)
   | (with_reducible exact LeO.none _)
   | (with_reducible refine LeO.ite ?_ ?_)
   | (with_reducible refine LeO.bind ?_ (fun _ => ?_))
   | exact ih0 _ _ _
   | exact ih1 _ _ _ _ _
   | exact ih2 _ _ _ _ _
   | exact ih3 _ _ _ _ _
   | exact frame_Feed.mono _ _ _ _
   | exact LeO.none _
   | refine LeO.ite ?_ ?_
   | refine LeO.bind ?_ (fun _ => ?_)
theorem pouchlaw1_FrameLongs.mono : ∀ a0 a1 k, LeO (pouchlaw1_FrameLongs.f k a0 a1) (pouchlaw1_FrameLongs.f (k + 1) a0 a1) := by
 intro a0 a1 k
 obtain ⟨ih0, ih1, ih2, ih3⟩ := pouchlaw1_FrameLongs.mono_l k
 unfold pouchlaw1_FrameLongs.f
 repeat' first
   | (with_reducible exact ih0 _ _ _)
   | (with_reducible exact ih1 _ _ _ _ _)
   | (with_reducible exact ih2 _ _ _ _ _)
   | (with_reducible exact ih3 _ _ _ _ _)
   | (with_reducible exact frame_Feed.mono _ _ _ _)
   | (with_reducible exact LeO.refl _)
   | (with_reducible exact LeO.none _)
   | (with_reducible refine LeO.ite ?_ ?_)
   | (with_reducible refine LeO.bind ?_ (fun _ => ?_))
   | exact ih0 _ _ _
   | exact ih1 _ _ _ _ _
   | exact ih2 _ _ _ _ _
   | exact ih3 _ _ _ _ _
   | exact frame_Feed.mono _ _ _ _
   | exact LeO.none _
   | refine LeO.ite ?_ ?_
   | refine LeO.bind ?_ (fun _ => ?_)
set_option maxHeartbeats 8000000 in
set_option maxRecDepth 100000 in
theorem pouchlaw1_FrameLongs.calls (k : Nat) (A0_0 : Option Addr) (c0_0 : Nat) (l0_0 : List Int) (A0_1 : Option Addr) (c0_1 : Nat) (l0_1 : List Int) (r : Bool) (w : World) (hr0_0 : Kd.C (Kd.int .u8) w A0_0 l0_0.length l0_0) (hc0_0 : l0_0.length ≤ c0_0) (hr0_1 : Kd.C (Kd.int .i64) w A0_1 l0_1.length l0_1) (hc0_1 : l0_1.length ≤ c0_1) (hG : GrOk w) (h : pouchlaw1_FrameLongs.f k l0_0 l0_1 = some r) :
  Calls Try.prog 4 #[.agg #[.slice A0_0 l0_0.length c0_0, .slice A0_1 l0_1.length c0_1]] w fun e w' => e = .returned (.bool r) ∧ Below w.heap.size w w' := by
 have hu44 := Try.underlying44
 have hu25 := Try.underlying25
 have hu46 := Try.underlying46
 have HR0_0 := am_ hr0_0
 have HC0_0 := am_ hc0_0
 clear hr0_0 hc0_0
 have HR0_1 := am_ hr0_1
 have HC0_1 := am_ hc0_1
 clear hr0_1 hc0_1
 have HB := am_ (Below.refl w.heap.size w)
 have H : (pouchlaw1_FrameLongs.l0 k 508 l0_0 l0_1) = some r := h
 clear h
 have H' := am_ H
 clear H
 go_enter Try.func4, Try.ntmps4
 go_wp2_with (first | ((with_reducible refine gate_dst (N := 1) rfl ?_); (try (refine gate_guard (by rfl) ?_; dsimp only)); refine box_event ?hg (N := 1) ?hd (cs := #[.slice A0_0 l0_0.length c0_0, .slice A0_1 l0_1.length c0_1]) (t := 44) ?hr ?_; (case hd => rfl); (case hg => rfl); (case hr => first | (go_simp; done) | (go_simp; rfl)); intro gb184 hg w2 hbox hb; have n0_ := am_ (bt_ (by repeat (first | (with_reducible first | exact HB.out | apply ba_ | apply bn_ | apply bd_) | exact HB.out)) hb); have n1_ := am_ (hbox); have n2_ := am_ ((by rw [hg]; exact (bz_ (by repeat (first | (with_reducible first | exact HB.out | apply ba_ | apply bn_ | apply bd_) | exact HB.out))) : w.heap.size ≤ gb184)); have n3_ := am_ ((by rw [hg]; exact (bz_ (by repeat (first | (with_reducible first | exact HB.out | apply ba_ | apply bn_ | apply bd_) | exact HB.out))) : w.heap.size ≤ gb184)); clear HB; have HB := n0_; have BK184 := n1_; have GW184 := n2_; have GE184 := n3_; clear n0_ n1_ n2_ n3_; clear hb hbox hg))
 go_loopg [3] k (fun kq v3 w' => ∃ (x3_1 : Int), v3 = .int .i64 x3_1 ∧ Aside0 (pouchlaw1_FrameLongs.l0 kq x3_1 l0_0 l0_1 = some r) ∧ Aside0 (kq ≤ k) ∧ Aside0 (w'.heap[gb184]? = some (.cells #[(.slice A0_0 l0_0.length c0_0), (.slice A0_1 l0_1.length c0_1)] 44 (0, 0))) ∧ Aside0 (Below w.heap.size w w'))
 case atStart => exact ⟨(508), (by first | rfl | (simp; done) | (simp [*]; done)), H', ⟨Nat.le_refl _⟩, ⟨by (with_reducible repeat (first | refine kn_ ?_ _ | refine kd_ ?_ | refine ka_ ?_ _)); exact BK184.out⟩, ⟨by repeat (first | (with_reducible first | exact HB.out | apply ba_ | apply bn_ | apply bd_ | refine bs_ ?_ GE184.out) | exact HB.out)⟩⟩
 case round =>
  clear H'
  try clear p2
  obtain ⟨x3_1, rfl, HA, HK1, BK184, HB⟩ := hrel
  cases gk with
  | zero => exact absurd HA.out (by simp [pouchlaw1_FrameLongs.l0])
  | succ k1 =>
   have H := HA.out
   clear HA
   simp only [pouchlaw1_FrameLongs.l0] at H
   by_cases c3 : x3_1 ≤ 515
   ·
    rw [if_pos c3] at H
    have c3b0 : decide (x3_1 ≤ 515) = true := decide_eq_true c3
    clear c3
    by_cases c4 : 0 ≤ x3_1
    ·
     rw [if_pos c4] at H
     have c4b0 := eq_true c4
     have c4b1 : decide (0 ≤ x3_1) = true := decide_eq_true c4
     clear c4
     by_cases c5 : (x3_1 : Int).toNat ≤ 281474976710656
     ·
      rw [if_pos c5] at H
      have c5b0 := eq_true c5
      have c5b1 : decide ((x3_1 : Int).toNat ≤ 281474976710656) = true := decide_eq_true c5
      clear c5
      obtain ⟨y186, hy186⟩ : ∃ y_ : List Int, y_ = (List.replicate (x3_1 : Int).toNat 0) := ⟨_, rfl⟩
      replace H : (pouchlaw1_FrameLongs.l1 k1 x3_1 y186 0 l0_0 l0_1) = some r := by first | (rw [hy186]; with_reducible exact H) | (have H2_ := (Option.bind_some _ _).symm.trans H; rw [hy186]; with_reducible exact H2_) | (have H2_ := (Option.bind_some _ _).symm.trans H; with_reducible exact H2_) | with_reducible exact H | (rw [hy186]; exact H) | exact H
      have Ny186 := am_ hy186
      clear hy186
      have H' := am_ H
      clear H
      go_wp2_with (first | ((with_reducible refine gate_dst (N := 19) rfl ?_); (try (refine gate_guard (by rfl) ?_; dsimp only)); refine Kd.R_make (Kd.int .u8) _ 5 rfl (N := 19) rfl 26 _ _ rfl x3_1 rfl rfl Try.underlying26 (.int .u8 0) 1 info5 rfl (by decide) (by omega) 0 (ok := fun _ => True) (okp := fun _ => True) rfl (fun _ hk => hk) trivial (od_ (by first | (with_reducible assumption) | assumption)) (Nat.le_trans (Nat.mul_le_mul_right _ (od_ (by first | (with_reducible assumption) | assumption) : x3_1.toNat ≤ 281474976710656)) (by omega)) (Below.refl _ _) (Nat.le_refl _) ?_; intro v187 w6 ho7 hb hg_ hnew_; clear hg_ hnew_; (first | rw [← Ny186.out] at ho7 | (simp only [Int.reduceToNat] at ho7; rw [← Ny186.out] at ho7)); have n0_ := am_ (Kd.R_lower ho7 (bz_ (by repeat (first | (with_reducible first | exact HB.out | apply ba_ | apply bn_ | apply bd_ | refine bs_ ?_ GE184.out) | exact HB.out)))); have n1_ := am_ (bb_ (g := gb184) (o := .cells #[.slice A0_0 l0_0.length c0_0, .slice A0_1 l0_1.length c0_1] 44 (0, 0)) (by (with_reducible repeat (first | refine kn_ ?_ _ | refine kd_ ?_ | refine ka_ ?_ _)); exact BK184.out) hb); have n2_ := am_ (bt_ (by repeat (first | (with_reducible first | exact HB.out | apply ba_ | apply bn_ | apply bd_ | refine bs_ ?_ GE184.out) | exact HB.out)) hb); clear BK184; clear HB; have HO188 := n0_; have BK184 := n1_; have HB := n2_; clear n0_ n1_ n2_; clear hb ho7))
      go_loopg [5] k1 (fun kq v5 w' => ∃ (x4_2 : List Int) (x5_2 : Int), v5 = .int .i64 x5_2 ∧ Aside0 (pouchlaw1_FrameLongs.l1 kq x3_1 x4_2 x5_2 l0_0 l0_1 = some r) ∧ Aside0 (kq ≤ k1) ∧ Aside0 (Kd.R (Kd.int .u8) 5 w' w.heap.size (fun _ => True) v187 x4_2) ∧ Aside0 (w'.heap[gb184]? = some (.cells #[(.slice A0_0 l0_0.length c0_0), (.slice A0_1 l0_1.length c0_1)] 44 (0, 0))) ∧ Aside0 (Below w.heap.size w w'))
      case atStart => exact ⟨(y186), (0), (by first | rfl | (simp; done) | (simp [*]; done)), H', ⟨Nat.le_refl _⟩, ⟨by (with_reducible repeat (first | apply ra_ | apply rn_ | apply re_)); exact HO188.out⟩, ⟨by (with_reducible repeat (first | refine kn_ ?_ _ | refine kd_ ?_ | refine ka_ ?_ _)); exact BK184.out⟩, ⟨by repeat (first | (with_reducible first | exact HB.out | apply ba_ | apply bn_ | apply bd_ | refine bs_ ?_ GE184.out) | exact HB.out)⟩⟩
      case round =>
       clear H'
       try clear p2
       try clear c3
       try clear c3b0
       try clear c4
       try clear c4b0
       try clear c4b1
       try clear c5
       try clear c5b0
       try clear c5b1
       try clear p2
       obtain ⟨x4_2, x5_2, rfl, HA, HK2, HO_4, BK184, HB⟩ := hrel
       cases gk with
       | zero => exact absurd HA.out (by simp [pouchlaw1_FrameLongs.l1])
       | succ k2 =>
        have H := HA.out
        clear HA
        simp only [pouchlaw1_FrameLongs.l1] at H
        by_cases c8 : x5_2 < x3_1
        ·
         rw [if_pos c8] at H
         have c8b0 : decide (x5_2 < x3_1) = true := decide_eq_true c8
         clear c8
         by_cases c9 : 0 ≤ x5_2
         ·
          rw [if_pos c9] at H
          have c9b0 : decide (0 ≤ x5_2) = true := decide_eq_true c9
          clear c9
          by_cases c10 : x5_2 < (x4_2.length : Int)
          ·
           rw [if_pos c10] at H
           have c10b0 : decide (x5_2 < (x4_2.length : Int)) = true := decide_eq_true c10
           clear c10
           obtain ⟨y189, hy189⟩ : ∃ y_ : List Int, y_ = (x4_2.set (x5_2 : Int).toNat 97) := ⟨_, rfl⟩
           replace H : (pouchlaw1_FrameLongs.l1 k2 x3_1 y189 (wrap64 (x5_2 + 1)) l0_0 l0_1) = some r := by first | (rw [hy189]; with_reducible exact H) | (have H2_ := (Option.bind_some _ _).symm.trans H; rw [hy189]; with_reducible exact H2_) | (have H2_ := (Option.bind_some _ _).symm.trans H; with_reducible exact H2_) | with_reducible exact H | (rw [hy189]; exact H) | exact H
           have Ny189 := am_ hy189
           clear hy189
           have H' := am_ H
           clear H
           have p11 : 0 ≤ (x5_2 : Int) := od_ (by first | (with_reducible assumption) | assumption)
           have q11 : (x5_2 : Int) < ((x4_2.length : Int) : Int) := od_ (by first | (with_reducible assumption) | assumption)
           obtain ⟨go11, co11, eo11, gb11, gl11, cl11, HG11⟩ := Kd.R_form HO_4.out (by omega)
           (first | cases eo11 | (injection eo11 with ea_ en_ ec_; (first | subst ea_ | (injection ea_ with ea_; subst ea_)); subst ec_; clear en_))
           have GB11 := am_ gb11
           have GG11 := am_ HG11
           clear gb11 gl11 HG11
           obtain ⟨hx11_0, hf11_0⟩ := Kd.R_celln 0 HO_4.out (x5_2 : Int) p11 q11
           replace p11 := eq_true p11
           replace q11 := eq_true q11
           have HP12 := Kd.R_putg HO_4.out (x5_2 : Int) 97
           go_wp2_with (first | ((with_reducible refine gate_store (t := 5) (p := 27) rfl ?_); refine store_event (t := 5) (p := 27) (v := ?vo_w13) (w1 := (wr.setCell ⟨go11, (x5_2 : Int).toNat, none⟩ (.int .u8 97))) ?hg ?ho ?hn ?hr ?_; (case ho => rfl); (case hg => rfl); (case hn => rfl); (case hr => first | (go_simp; done) | (go_simp; rfl)); intro w13 hw; have hg : wr.grownBy w13 (some go11) := (by rw [hw]; exact HP12.2); have hp_ : Kd.R (Kd.int .u8) 5 w13 w.heap.size (fun _ => True) (.slice (some ⟨go11, 0, none⟩) x4_2.length co11) y189 := (by rw [hw, Ny189.out]; exact HP12.1); clear HP12; have n0_ := am_ (hp_); have n1_ := am_ (blk_grown (g := gb184) (o := .cells #[.slice A0_0 l0_0.length c0_0, .slice A0_1 l0_1.length c0_1] 44 (0, 0)) (by (with_reducible repeat (first | refine kn_ ?_ _ | refine kd_ ?_ | refine ka_ ?_ _)); exact BK184.out) hg (Kd.R_ne HO_4.out BK184.out (by decide))); have n2_ := am_ ((by rw [hw]; exact bs_ (HB.out) GB11.out : Below w.heap.size w w13)); clear HO_4; clear BK184; clear HB; have HO_4 := n0_; have BK184 := n1_; have HB := n2_; clear n0_ n1_ n2_; clear hg hw hp_))
           go_roundg k2
           case measure => have := HK1.out; have := HK2.out; omega
           case rel => exact ⟨(y189), (wrap64 (x5_2 + 1)), (by first | rfl | (simp; done) | (simp [*]; done)), H', ⟨by have := HK1.out; have := HK2.out; omega⟩, ⟨by (with_reducible repeat (first | apply ra_ | apply rn_ | apply re_)); exact HO_4.out⟩, ⟨by (with_reducible repeat (first | refine kn_ ?_ _ | refine kd_ ?_ | refine ka_ ?_ _)); exact BK184.out⟩, ⟨by repeat (first | (with_reducible first | exact HB.out | apply ba_ | apply bn_ | apply bd_ | refine bs_ ?_ GE184.out) | exact HB.out)⟩⟩
          ·
           rw [if_neg c10] at H
           exact absurd H (by simp)
         ·
          rw [if_neg c9] at H
          exact absurd H (by simp)
        ·
         rw [if_neg c8] at H
         have c8b0 : decide (x5_2 < x3_1) = false := decide_eq_false c8
         clear c8
         have HC14 := am_ H
         clear H
         have hcz15_0 : wr.cell? ⟨gb184, 0, none⟩ = some (.slice A0_0 l0_0.length c0_0) := (blk_cell BK184.out 0).trans rfl
         have hcz15_1 : wr.cell? ⟨gb184, 1, none⟩ = some (.slice A0_1 l0_1.length c0_1) := (blk_cell BK184.out 1).trans rfl
         have hfz15_0 := blk_frozen BK184.out 0
         have hfz15_1 := blk_frozen BK184.out 1
         go_upto_if 32 with (fail)
         go_cut [6] (fun v6 wc => ∃ (kq : Nat) (x6_13 : Int), v6 = .int .u8 x6_13 ∧ Aside0 (pouchlaw1_FrameLongs.j2 kq x3_1 x4_2 x6_13 l0_0 l0_1 = some r) ∧ Aside0 (kq ≤ k2) ∧ Aside0 (Kd.R (Kd.int .u8) 5 wc w.heap.size (fun _ => True) v187 x4_2) ∧ Aside0 (wc.heap[gb184]? = some (.cells #[(.slice A0_0 l0_0.length c0_0), (.slice A0_1 l0_1.length c0_1)] 44 (0, 0))) ∧ Aside0 (Below w.heap.size w wc))
         case first =>
          have H := HC14.out
          clear HC14
          by_cases c16 : ((l0_0.length : Int) % 2) = 1
          ·
           rw [if_pos c16] at H
           have c16b0 : (((l0_0.length : Int) % 2) == 1) = true := beq_iff_eq.mpr c16
           have c16b1 : (((l0_0.length : Int) % 2) != 1) = false := bne_eq_false_iff_eq.mpr c16
           clear c16
           (first | rw [c16b0] | (simp only [i64_w, i32_w]; rw [c16b0]) | skip)
           have H' := am_ H
           clear H
           go_wp2
           go_meet
           case rel => exact ⟨_, (13), (by first | rfl | (simp; done) | (simp [*]; done)), H', ⟨by have := HK1.out; have := HK2.out; first | omega | exact Nat.le_refl _⟩, ⟨by (with_reducible repeat (first | apply ra_ | apply rn_ | apply re_)); exact HO_4.out⟩, ⟨by (with_reducible repeat (first | refine kn_ ?_ _ | refine kd_ ?_ | refine ka_ ?_ _)); exact BK184.out⟩, ⟨by repeat (first | (with_reducible first | exact HB.out | apply ba_ | apply bn_ | apply bd_ | refine bs_ ?_ GE184.out) | exact HB.out)⟩⟩
          ·
           rw [if_neg c16] at H
           have c16b0 : (((l0_0.length : Int) % 2) == 1) = false := beq_eq_false_iff_ne.mpr c16
           have c16b1 : (((l0_0.length : Int) % 2) != 1) = true := bne_iff_ne.mpr c16
           (first | rw [c16b0] | (simp only [i64_w, i32_w]; rw [c16b0]) | skip)
           have H' := am_ H
           clear H
           go_wp2
           go_meet
           case rel => exact ⟨_, (120), (by first | rfl | (simp; done) | (simp [*]; done)), H', ⟨by have := HK1.out; have := HK2.out; first | omega | exact Nat.le_refl _⟩, ⟨by (with_reducible repeat (first | apply ra_ | apply rn_ | apply re_)); exact HO_4.out⟩, ⟨by (with_reducible repeat (first | refine kn_ ?_ _ | refine kd_ ?_ | refine ka_ ?_ _)); exact BK184.out⟩, ⟨by repeat (first | (with_reducible first | exact HB.out | apply ba_ | apply bn_ | apply bd_ | refine bs_ ?_ GE184.out) | exact HB.out)⟩⟩
         case rest =>
          clear HC14
          try clear c1
          try clear p1
          try clear q1
          try clear hx1
          try clear hf1
          try clear p2
          try clear c3
          try clear c3b0
          try clear c4
          try clear c4b0
          try clear c4b1
          try clear c5
          try clear c5b0
          try clear c5b1
          try clear p6
          try clear c8
          try clear c8b0
          try clear c9
          try clear c9b0
          try clear c10
          try clear c10b0
          try clear p11
          try clear q11
          try clear hx11
          try clear hf11
          try clear c16
          try clear c16b0
          try clear c16b1
          try clear hcz15_0
          try clear hcz15_1
          try clear hfz15_0
          try clear hfz15_1
          try clear hx11_0
          try clear p11
          try clear p2
          try clear q11
          obtain ⟨kq, x6_13, rfl, HA, HJ13, HO_4, BK184, HB⟩ := hcut
          cases kq with
          | zero => exact absurd HA.out (by simp [pouchlaw1_FrameLongs.j2])
          | succ kj13 =>
           have H := HA.out
           clear HA
           simp only [pouchlaw1_FrameLongs.j2] at H
           obtain ⟨ji17, hji17⟩ : ∃ j_ : Int, (wrap64 (x3_1 - 1)) = j_ := ⟨_, rfl⟩
           replace H : (if 0 ≤ (ji17) then (if (ji17) < (x4_2.length : Int) then ((some (x4_2.set ((ji17) : Int).toNat x6_13 : List Int)).bind fun y190 => (if y190.length + 8 < 140737488355328 then ((some (y190 ++ bytesOf (⟨#[13, 10, 110, 101, 120, 116, 13, 10]⟩ : ByteArray) : List Int)).bind fun y191 => ((frame_Feed.f kj13 (⟨#[]⟩ : ByteArray) false y191).bind fun bt194 => ((pouchlaw1_num.f bt194.2.2.2).bind fun t201 => (if t201 = 0 then (if (bt194.2.2.1.length : Int) = 2 then (if 0 < (bt194.2.2.1.length : Int) then (if (((rd_T46 bt194.2.2.1 0).f1) != (decide ((wrap64 (x3_1 + 2)) > 512))) = true then (pouchlaw1_FrameLongs.j3 kj13 x3_1 y191 true l0_0 l0_1) else (if ((((rd_T46 bt194.2.2.1 0).f0).toList == ([] : List UInt8)) != (decide ((wrap64 (x3_1 + 2)) > 512))) = true then (pouchlaw1_FrameLongs.j3 kj13 x3_1 y191 true l0_0 l0_1) else (if 1 < (bt194.2.2.1.length : Int) then (if (!((((rd_T46 bt194.2.2.1 1).f0).toList) == ([110, 101, 120, 116] : List UInt8)) || (((rd_T46 bt194.2.2.1 1).f1))) = true then (pouchlaw1_FrameLongs.j3 kj13 x3_1 y191 true l0_0 l0_1) else (pouchlaw1_FrameLongs.j3 kj13 x3_1 y191 (!(bt194.1.toList == ([] : List UInt8)) || (bt194.2.1)) l0_0 l0_1)) else (none)))) else (none)) else (pouchlaw1_FrameLongs.j3 kj13 x3_1 y191 true l0_0 l0_1)) else (pouchlaw1_FrameLongs.j3 kj13 x3_1 y191 true l0_0 l0_1))))) else (none))) else (none)) else (none)) = some r := by first | (rw [hji17] at H; exact H) | (simp only [hji17] at H ⊢; exact H)
           have hji17w : (IntKind.i64.wrap (x3_1 - 1)) = ji17 := (i64_w _).trans hji17
           by_cases c18 : 0 ≤ (ji17)
           ·
            rw [if_pos c18] at H
            have c18b0 : decide (0 ≤ (ji17)) = true := decide_eq_true c18
            clear c18
            by_cases c19 : (ji17) < (x4_2.length : Int)
            ·
             rw [if_pos c19] at H
             have c19b0 : decide ((ji17) < (x4_2.length : Int)) = true := decide_eq_true c19
             clear c19
             obtain ⟨y190, hy190⟩ : ∃ y_ : List Int, y_ = (x4_2.set ((ji17) : Int).toNat x6_13) := ⟨_, rfl⟩
             replace H : (if y190.length + 8 < 140737488355328 then ((some (y190 ++ bytesOf (⟨#[13, 10, 110, 101, 120, 116, 13, 10]⟩ : ByteArray) : List Int)).bind fun y191 => ((frame_Feed.f kj13 (⟨#[]⟩ : ByteArray) false y191).bind fun bt194 => ((pouchlaw1_num.f bt194.2.2.2).bind fun t201 => (if t201 = 0 then (if (bt194.2.2.1.length : Int) = 2 then (if 0 < (bt194.2.2.1.length : Int) then (if (((rd_T46 bt194.2.2.1 0).f1) != (decide ((wrap64 (x3_1 + 2)) > 512))) = true then (pouchlaw1_FrameLongs.j3 kj13 x3_1 y191 true l0_0 l0_1) else (if ((((rd_T46 bt194.2.2.1 0).f0).toList == ([] : List UInt8)) != (decide ((wrap64 (x3_1 + 2)) > 512))) = true then (pouchlaw1_FrameLongs.j3 kj13 x3_1 y191 true l0_0 l0_1) else (if 1 < (bt194.2.2.1.length : Int) then (if (!((((rd_T46 bt194.2.2.1 1).f0).toList) == ([110, 101, 120, 116] : List UInt8)) || (((rd_T46 bt194.2.2.1 1).f1))) = true then (pouchlaw1_FrameLongs.j3 kj13 x3_1 y191 true l0_0 l0_1) else (pouchlaw1_FrameLongs.j3 kj13 x3_1 y191 (!(bt194.1.toList == ([] : List UInt8)) || (bt194.2.1)) l0_0 l0_1)) else (none)))) else (none)) else (pouchlaw1_FrameLongs.j3 kj13 x3_1 y191 true l0_0 l0_1)) else (pouchlaw1_FrameLongs.j3 kj13 x3_1 y191 true l0_0 l0_1))))) else (none)) = some r := by first | (rw [hy190]; with_reducible exact H) | (have H2_ := (Option.bind_some _ _).symm.trans H; rw [hy190]; with_reducible exact H2_) | (have H2_ := (Option.bind_some _ _).symm.trans H; with_reducible exact H2_) | with_reducible exact H | (rw [hy190]; exact H) | exact H
             have Ny190 := am_ hy190
             clear hy190
             by_cases c21 : y190.length + 8 < 140737488355328
             ·
              rw [if_pos c21] at H
              have LMc21 := am_ c21
              clear c21
              obtain ⟨y191, hy191⟩ : ∃ y_ : List Int, y_ = (y190 ++ bytesOf (⟨#[13, 10, 110, 101, 120, 116, 13, 10]⟩ : ByteArray)) := ⟨_, rfl⟩
              replace H : ((frame_Feed.f kj13 (⟨#[]⟩ : ByteArray) false y191).bind fun bt194 => ((pouchlaw1_num.f bt194.2.2.2).bind fun t201 => (if t201 = 0 then (if (bt194.2.2.1.length : Int) = 2 then (if 0 < (bt194.2.2.1.length : Int) then (if (((rd_T46 bt194.2.2.1 0).f1) != (decide ((wrap64 (x3_1 + 2)) > 512))) = true then (pouchlaw1_FrameLongs.j3 kj13 x3_1 y191 true l0_0 l0_1) else (if ((((rd_T46 bt194.2.2.1 0).f0).toList == ([] : List UInt8)) != (decide ((wrap64 (x3_1 + 2)) > 512))) = true then (pouchlaw1_FrameLongs.j3 kj13 x3_1 y191 true l0_0 l0_1) else (if 1 < (bt194.2.2.1.length : Int) then (if (!((((rd_T46 bt194.2.2.1 1).f0).toList) == ([110, 101, 120, 116] : List UInt8)) || (((rd_T46 bt194.2.2.1 1).f1))) = true then (pouchlaw1_FrameLongs.j3 kj13 x3_1 y191 true l0_0 l0_1) else (pouchlaw1_FrameLongs.j3 kj13 x3_1 y191 (!(bt194.1.toList == ([] : List UInt8)) || (bt194.2.1)) l0_0 l0_1)) else (none)))) else (none)) else (pouchlaw1_FrameLongs.j3 kj13 x3_1 y191 true l0_0 l0_1)) else (pouchlaw1_FrameLongs.j3 kj13 x3_1 y191 true l0_0 l0_1)))) = some r := by first | (rw [hy191]; with_reducible exact H) | (have H2_ := (Option.bind_some _ _).symm.trans H; rw [hy191]; with_reducible exact H2_) | (have H2_ := (Option.bind_some _ _).symm.trans H; with_reducible exact H2_) | with_reducible exact H | (rw [hy191]; exact H) | exact H
              have Ny191 := am_ hy191
              clear hy191
              replace H := Option.bind_eq_some_iff.mp H
              obtain ⟨⟨t194, t195, t196, t199⟩, A220, H⟩ := H
              replace H : ((pouchlaw1_num.f t199).bind fun t201 => (if t201 = 0 then (if (t196.length : Int) = 2 then (if 0 < (t196.length : Int) then (if (((rd_T46 t196 0).f1) != (decide ((wrap64 (x3_1 + 2)) > 512))) = true then (pouchlaw1_FrameLongs.j3 kj13 x3_1 y191 true l0_0 l0_1) else (if ((((rd_T46 t196 0).f0).toList == ([] : List UInt8)) != (decide ((wrap64 (x3_1 + 2)) > 512))) = true then (pouchlaw1_FrameLongs.j3 kj13 x3_1 y191 true l0_0 l0_1) else (if 1 < (t196.length : Int) then (if (!((((rd_T46 t196 1).f0).toList) == ([110, 101, 120, 116] : List UInt8)) || (((rd_T46 t196 1).f1))) = true then (pouchlaw1_FrameLongs.j3 kj13 x3_1 y191 true l0_0 l0_1) else (pouchlaw1_FrameLongs.j3 kj13 x3_1 y191 (!(t194.toList == ([] : List UInt8)) || (t195)) l0_0 l0_1)) else (none)))) else (none)) else (pouchlaw1_FrameLongs.j3 kj13 x3_1 y191 true l0_0 l0_1)) else (pouchlaw1_FrameLongs.j3 kj13 x3_1 y191 true l0_0 l0_1))) = some r := H
              have A22 := am_ A220
              clear A220
              have HC23 := am_ H
              clear H
              have p20 : 0 ≤ ((ji17) : Int) := od_ (by first | (with_reducible assumption) | assumption)
              have q20 : ((ji17) : Int) < ((x4_2.length : Int) : Int) := od_ (by first | (with_reducible assumption) | assumption)
              obtain ⟨go20, co20, eo20, gb20, gl20, cl20, HG20⟩ := Kd.R_form HO_4.out (by omega)
              (first | cases eo20 | (injection eo20 with ea_ en_ ec_; (first | subst ea_ | (injection ea_ with ea_; subst ea_)); subst ec_; clear en_))
              have GB20 := am_ gb20
              have GG20 := am_ HG20
              clear gb20 gl20 HG20
              obtain ⟨hx20_0, hf20_0⟩ := Kd.R_celln 0 HO_4.out ((ji17) : Int) p20 q20
              replace p20 := eq_true p20
              replace q20 := eq_true q20
              have HP24 := Kd.R_putg HO_4.out ((ji17) : Int) x6_13
              go_upto_region 16 with (first | ((with_reducible refine gate_store (t := 5) (p := 37) rfl ?_); refine store_event (t := 5) (p := 37) (v := ?vo_w25) (w1 := (wc.setCell ⟨go20, ((ji17) : Int).toNat, none⟩ (.int .u8 x6_13))) ?hg ?ho ?hn ?hr ?_; (case ho => rfl); (case hg => rfl); (case hn => rfl); (case hr => first | (go_simp; done) | (go_simp; rfl)); intro w25 hw; have hg : wc.grownBy w25 (some go20) := (by rw [hw]; exact HP24.2); have hp_ : Kd.R (Kd.int .u8) 5 w25 w.heap.size (fun _ => True) (.slice (some ⟨go20, 0, none⟩) x4_2.length co20) y190 := (by rw [hw, Ny190.out]; exact HP24.1); clear HP24; have n0_ := am_ (hp_); have n1_ := am_ (blk_grown (g := gb184) (o := .cells #[.slice A0_0 l0_0.length c0_0, .slice A0_1 l0_1.length c0_1] 44 (0, 0)) (by (with_reducible repeat (first | refine kn_ ?_ _ | refine kd_ ?_ | refine ka_ ?_ _)); exact BK184.out) hg (Kd.R_ne HO_4.out BK184.out (by decide))); have n2_ := am_ ((by rw [hw]; exact bs_ (HB.out) GB20.out : Below w.heap.size w w25)); clear HO_4; clear BK184; clear HB; have HO_4 := n0_; have BK184 := n1_; have HB := n2_; clear n0_ n1_ n2_; clear hg hw hp_) | (at_builtin; refine print_append_str (w0 := w) w.heap.size rfl (.tmp 38) _ 26 9 5 rfl Try.underlying26 Try.underlying9 info5 (.slice (some ⟨go20, 0, none⟩) x4_2.length co20) y190 (⟨#[13, 10, 110, 101, 120, 116, 13, 10]⟩ : ByteArray) rfl rfl ?aO ?aB ?aS ?aL ?_; (case aB => exact (by repeat (first | (with_reducible first | exact HB.out | apply ba_ | apply bn_ | apply bd_ | refine bs_ ?_ GE184.out) | exact HB.out))); (case aO => exact (Kd.own_of_R (by (with_reducible repeat (first | apply ra_ | apply rn_ | apply re_)); exact HO_4.out))); (case aS => exact (bz_ (by repeat (first | (with_reducible first | exact HB.out | apply ba_ | apply bn_ | apply bd_ | refine bs_ ?_ GE184.out) | exact HB.out)))); (case aL => have := LMc21.out; show _ + 8 ≤ _; omega); intro v192 w26 ho0 hb hg; have ho := Kd.R_of_own (h1 := fun _ => rfl) (ok := fun _ => True) ho0 (fun _ _ => trivial); clear ho0; have hat := True.intro; rw [← Ny191.out] at ho; change Kd.R (Kd.int .u8) 5 w26 w.heap.size (fun _ => True) v192 y191 at ho; have n0_ := am_ (blk_grown (g := gb184) (o := .cells #[.slice A0_0 l0_0.length c0_0, .slice A0_1 l0_1.length c0_1] 44 (0, 0)) (by (with_reducible repeat (first | refine kn_ ?_ _ | refine kd_ ?_ | refine ka_ ?_ _)); exact BK184.out) hg (Kd.R_ne HO_4.out BK184.out (by decide))); have n1_ := am_ (hb); have n2_ := am_ (ho); clear BK184; clear HB; clear HO_4; have BK184 := n0_; have HB := n1_; have HO193 := n2_; clear n0_ n1_ n2_; clear ho hb hg hat; obtain ⟨Ao27, co27, eo27⟩ := Kd.R_slice HO193.out; subst eo27) | ((with_reducible refine gate_callee (f := 9) rfl ?_); refine goesL_ (some 43) rfl rfl Try.func9 (by kernel_rfl) rfl #[.agg #[.string (⟨#[]⟩ : ByteArray), .bool false], .slice Ao27 y191.length co27] rfl (by (try simp only [m1_, m2_, m3_]); first | done | rfl | (simp only [m4_, m5_]; rfl)) ?_; (with_reducible refine (frame_Feed.calls kj13 (⟨#[]⟩ : ByteArray) false _ _ y191 t194 t195 t196 t199 _ ?side1 ?side2 ?side3 A22.out).mono ?_); (case side1 => repeat (first | exact (Kd.R_reads' HO193.out).2.2 | (with_reducible refine ca_ ?_ _) | (with_reducible refine cn_ ?_ _) | (with_reducible refine cd_ ?_))); (case side2 => exact (Kd.R_reads' HO193.out).2.1); (case side3 => exact GrOk.below hG (by repeat (first | (with_reducible first | exact HB.out | apply ba_ | apply bn_ | apply bd_ | refine bs_ ?_ GE184.out) | exact HB.out))); rintro e w28 ⟨v197, rfl, ho0, hb⟩; refine ⟨_, rfl, ?_⟩; have n0_ := am_ (rb_ (by (with_reducible repeat (first | apply ra_ | apply rn_ | apply re_)); exact HO193.out) hb); have n1_ := am_ (Kd.R_lower ho0 (bz_ (by repeat (first | (with_reducible first | exact HB.out | apply ba_ | apply bn_ | apply bd_ | refine bs_ ?_ GE184.out) | exact HB.out)))); have n2_ := am_ (bb_ (g := gb184) (o := .cells #[.slice A0_0 l0_0.length c0_0, .slice A0_1 l0_1.length c0_1] 44 (0, 0)) (by (with_reducible repeat (first | refine kn_ ?_ _ | refine kd_ ?_ | refine ka_ ?_ _)); exact BK184.out) hb); have n3_ := am_ (bt_ (by repeat (first | (with_reducible first | exact HB.out | apply ba_ | apply bn_ | apply bd_ | refine bs_ ?_ GE184.out) | exact HB.out)) hb); clear HO193; clear BK184; clear HB; have HO193 := n0_; have HO198 := n1_; have BK184 := n2_; have HB := n3_; clear n0_ n1_ n2_ n3_; (try clear hb); (try clear hb2); (try clear hk); (try clear hi); (try clear ho0)) | ((with_reducible refine gate_dst (N := 8) rfl ?_); (try (refine gate_guard (by rfl) ?_; dsimp only)); refine box_event ?hg (N := 8) ?hd (cs := #[.string (⟨#[]⟩ : ByteArray), .bool false]) (t := 25) ?hr ?_; (case hd => rfl); (case hg => rfl); (case hr => first | (go_simp; done) | (go_simp; rfl)); intro gb200 hg w29 hbox hb; have n0_ := am_ (rb_ (by (with_reducible repeat (first | apply ra_ | apply rn_ | apply re_)); exact HO193.out) hb); have n1_ := am_ (rb_ (by (with_reducible repeat (first | apply ra_ | apply rn_ | apply re_)); exact HO198.out) hb); have n2_ := am_ (bb_ (g := gb184) (o := .cells #[.slice A0_0 l0_0.length c0_0, .slice A0_1 l0_1.length c0_1] 44 (0, 0)) (by (with_reducible repeat (first | refine kn_ ?_ _ | refine kd_ ?_ | refine ka_ ?_ _)); exact BK184.out) hb); have n3_ := am_ (bt_ (by repeat (first | (with_reducible first | exact HB.out | apply ba_ | apply bn_ | apply bd_ | refine bs_ ?_ GE184.out) | exact HB.out)) hb); have n4_ := am_ (hbox); have n5_ := am_ ((by rw [hg]; exact (bz_ (by repeat (first | (with_reducible first | exact HB.out | apply ba_ | apply bn_ | apply bd_ | refine bs_ ?_ GE184.out) | exact HB.out))) : w.heap.size ≤ gb200)); have n6_ := am_ ((by rw [hg]; exact (bz_ (by repeat (first | (with_reducible first | exact HB.out | apply ba_ | apply bn_ | apply bd_ | refine bs_ ?_ GE184.out) | exact HB.out))) : w.heap.size ≤ gb200)); have n7_ := am_ ((by rw [hg]; exact nl_ (blk_lt (g := gb184) (o := .cells #[.slice A0_0 l0_0.length c0_0, .slice A0_1 l0_1.length c0_1] 44 (0, 0)) (by (with_reducible repeat (first | refine kn_ ?_ _ | refine kd_ ?_ | refine ka_ ?_ _)); exact BK184.out)) : gb184 ≠ gb200)); have n8_ := am_ ((by rw [hg]; exact Nat.ne_of_gt (blk_lt (g := gb184) (o := .cells #[.slice A0_0 l0_0.length c0_0, .slice A0_1 l0_1.length c0_1] 44 (0, 0)) (by (with_reducible repeat (first | refine kn_ ?_ _ | refine kd_ ?_ | refine ka_ ?_ _)); exact BK184.out)) : gb200 ≠ gb184)); clear HO193; clear HO198; clear BK184; clear HB; have HO193 := n0_; have HO198 := n1_; have BK184 := n2_; have HB := n3_; have BK200 := n4_; have GW200 := n5_; have GE200 := n6_; have NB184_200 := n7_; have NB200_184 := n8_; clear n0_ n1_ n2_ n3_ n4_ n5_ n6_ n7_ n8_; clear hb hbox hg; have hnb30 := NB200_184.out; have hnc30 := NB184_200.out; have hcz31_0 : w29.cell? ⟨gb200, 0, none⟩ = some (.string (⟨#[]⟩ : ByteArray)) := (blk_cell BK200.out 0).trans rfl; have hcz31_1 : w29.cell? ⟨gb200, 1, none⟩ = some (.bool false) := (blk_cell BK200.out 1).trans rfl; have hfz31_0 := blk_frozen BK200.out 0; have hfz31_1 := blk_frozen BK200.out 1))
              (try simp only [Act.put, s1_, s2_, s3_])
              go_cut [86] (fun v86 wc => ∃ (kq : Nat) (x86_22 : Bool), v86 = .bool x86_22 ∧ Aside0 (pouchlaw1_FrameLongs.j3 kq x3_1 y191 x86_22 l0_0 l0_1 = some r) ∧ Aside0 (kq ≤ kj13) ∧ Aside0 (Kd.R (Kd.int .u8) 5 wc w.heap.size (fun _ => True) (.slice Ao27 y191.length co27) y191) ∧ Aside0 (wc.heap[gb184]? = some (.cells #[(.slice A0_0 l0_0.length c0_0), (.slice A0_1 l0_1.length c0_1)] 44 (0, 0))) ∧ Aside0 (wc.heap[gb200]? = some (.cells #[.string t194, .bool t195] 25 (0, 0))) ∧ Aside0 (Below w.heap.size w wc))
              case first =>
               have H := HC23.out
               clear HC23
               replace H := Option.bind_eq_some_iff.mp H
               obtain ⟨t201, A320, H⟩ := H
               replace H : (if t201 = 0 then (if (t196.length : Int) = 2 then (if 0 < (t196.length : Int) then (if (((rd_T46 t196 0).f1) != (decide ((wrap64 (x3_1 + 2)) > 512))) = true then (pouchlaw1_FrameLongs.j3 kj13 x3_1 y191 true l0_0 l0_1) else (if ((((rd_T46 t196 0).f0).toList == ([] : List UInt8)) != (decide ((wrap64 (x3_1 + 2)) > 512))) = true then (pouchlaw1_FrameLongs.j3 kj13 x3_1 y191 true l0_0 l0_1) else (if 1 < (t196.length : Int) then (if (!((((rd_T46 t196 1).f0).toList) == ([110, 101, 120, 116] : List UInt8)) || (((rd_T46 t196 1).f1))) = true then (pouchlaw1_FrameLongs.j3 kj13 x3_1 y191 true l0_0 l0_1) else (pouchlaw1_FrameLongs.j3 kj13 x3_1 y191 (!(t194.toList == ([] : List UInt8)) || (t195)) l0_0 l0_1)) else (none)))) else (none)) else (pouchlaw1_FrameLongs.j3 kj13 x3_1 y191 true l0_0 l0_1)) else (pouchlaw1_FrameLongs.j3 kj13 x3_1 y191 true l0_0 l0_1)) = some r := H
               have A32 := am_ A320
               clear A320
               by_cases c33 : t201 = 0
               ·
                rw [if_pos c33] at H
                have c33b0 : (t201 == 0) = true := beq_iff_eq.mpr c33
                have c33b1 : (t201 != 0) = false := bne_eq_false_iff_eq.mpr c33
                clear c33
                (first | rw [c33b0] | (simp only [i64_w, i32_w]; rw [c33b0]) | skip)
                by_cases c34 : (t196.length : Int) = 2
                ·
                 rw [if_pos c34] at H
                 have c34b0 : ((t196.length : Int) == 2) = true := beq_iff_eq.mpr c34
                 have c34b1 : ((t196.length : Int) != 2) = false := bne_eq_false_iff_eq.mpr c34
                 clear c34
                 by_cases c35 : 0 < (t196.length : Int)
                 ·
                  rw [if_pos c35] at H
                  have c35b0 : decide (0 < (t196.length : Int)) = true := decide_eq_true c35
                  have c35b1 : decide (0 < t196.length) = true := decide_eq_true (by omega)
                  clear c35
                  by_cases c36 : (((rd_T46 t196 0).f1) != (decide ((wrap64 (x3_1 + 2)) > 512))) = true
                  ·
                   rw [if_pos c36] at H
                   have c36b0 : (((rd_T46 t196 0).f1) != (decide ((wrap64 (x3_1 + 2)) > 512))) = true := c36
                   (try (have c36b1 : decide (((rd_T46 t196 0).f1) = (decide ((wrap64 (x3_1 + 2)) > 512))) = false := by simpa using c36))
                   (try (have c36b2 : (((rd_T46 t196 0).f1) == (decide ((wrap64 (x3_1 + 2)) > 512))) = false := by simpa using c36))
                   (try (have c36b3 : ¬ (((rd_T46 t196 0).f1) = (decide ((wrap64 (x3_1 + 2)) > 512))) := by simpa using c36))
                   (try (have c36b4 : (((rd_T46 t196 0).f1) = (decide (512 < (wrap64 (x3_1 + 2))))) = False := eq_false (by simpa using c36)))
                   clear c36
                   have H' := am_ H
                   clear H
                   go_wp2_with (first | ((with_reducible refine gate_callee (f := 11) rfl ?_); refine goesL_ (some 51) rfl rfl Try.func11 (by kernel_rfl) rfl #[.int .i64 t199] rfl (by (try simp only [m1_, m2_, m3_]); first | done | rfl | (simp only [m4_, m5_]; rfl)) ?_; (with_reducible refine (pouchlaw1_num.calls t199 t201 _ A32.out).mono ?_); rintro e w' ⟨rfl, ⟨nd, rfl⟩⟩; refine ⟨_, rfl, ?_⟩; obtain ⟨Ao37, co37, eo37⟩ := Kd.R_slice HO198.out; subst eo37; have p202 : 0 ≤ (0 : Int) := (by omega); have q202 : 0 < (t196.length : Int) := od_ (by first | (with_reducible assumption) | assumption); obtain ⟨ad202, e202, hx202_0, hx202_1⟩ := at_T46 (Kd.R_reads' HO198.out).2.2 0 p202 q202; cases e202; have qi202 : (0 < t196.length) = True := eq_true (by omega); (try rw [show ((0 : Int)).toNat = 0 from rfl] at hx202_0); (try rw [show 0 * 2 = 0 from rfl] at hx202_0); (try rw [Addr.add_zero'] at hx202_0); (try rw [show ((0 : Int)).toNat = 0 from rfl] at hx202_1); (try rw [show 0 * 2 = 0 from rfl] at hx202_1); (try rw [Addr.add_zero'] at hx202_1); have hn202_0 : ad202.block ≠ gb200 := Kd.own_blk (Kd.R_ne HO198.out BK200.out (by decide)); have hn202_1 : ad202.block ≠ gb200 := Kd.own_blk (Kd.R_ne HO198.out BK200.out (by decide)); replace hx202_0 := (cf_ (p := ⟨gb200, 0, none⟩) (by first | (rw [ab_]; exact hn202_0) | (show (Addr.add _ _).block ≠ _; rw [ab_]; exact hn202_0) | exact hn202_0) (.string t194)).trans hx202_0; replace hx202_1 := (cf_ (p := ⟨gb200, 0, none⟩) (by first | (rw [ab_]; exact hn202_0) | (show (Addr.add _ _).block ≠ _; rw [ab_]; exact hn202_0) | exact hn202_0) (.string t194)).trans hx202_1; replace hx202_0 := (cf_ (p := ⟨gb200, 1, none⟩) (by first | (rw [ab_]; exact hn202_1) | (show (Addr.add _ _).block ≠ _; rw [ab_]; exact hn202_1) | exact hn202_1) (.bool t195)).trans hx202_0; replace hx202_1 := (cf_ (p := ⟨gb200, 1, none⟩) (by first | (rw [ab_]; exact hn202_1) | (show (Addr.add _ _).block ≠ _; rw [ab_]; exact hn202_1) | exact hn202_1) (.bool t195)).trans hx202_1; clear hn202_0; clear hn202_1; replace p202 := eq_true p202; replace q202 := eq_true q202))
                   go_meet
                   case rel => exact ⟨_, (true), (by first | rfl | (simp; done) | (simp [*]; done)), H', ⟨by have := HK1.out; have := HK2.out; have := HJ13.out; first | omega | exact Nat.le_refl _⟩, ⟨by (with_reducible repeat (first | apply ra_ | apply rn_ | apply re_)); exact Kd.R_mono (Kd.R_far (p := ⟨gb200, 1, none⟩) (Kd.R_far (p := ⟨gb200, 0, none⟩) (Kd.R_types HO193.out BK200.out (by decide)) (fun _ hk => hk.2) (.string t194)) (fun _ hk => hk.2) (.bool t195)) (fun _ hk => trivial)⟩, ⟨by (with_reducible repeat (first | refine kn_ ?_ _ | refine kd_ ?_ | refine ka_ ?_ _)); refine blk_far ?_ NB184_200.out _; (with_reducible repeat (first | refine kn_ ?_ _ | refine kd_ ?_ | refine ka_ ?_ _)); refine blk_far ?_ NB184_200.out _; (with_reducible repeat (first | refine kn_ ?_ _ | refine kd_ ?_ | refine ka_ ?_ _)); exact BK184.out⟩, ⟨by (with_reducible repeat (first | refine kn_ ?_ _ | refine kd_ ?_ | refine ka_ ?_ _)); refine blk_put (cs := #[.string t194, .bool false]) ?_ 1 _ rfl; (with_reducible repeat (first | refine kn_ ?_ _ | refine kd_ ?_ | refine ka_ ?_ _)); refine blk_put (cs := #[.string (⟨#[]⟩ : ByteArray), .bool false]) ?_ 0 _ rfl; (with_reducible repeat (first | refine kn_ ?_ _ | refine kd_ ?_ | refine ka_ ?_ _)); exact BK200.out⟩, ⟨by repeat (first | (with_reducible first | exact HB.out | apply ba_ | apply bn_ | apply bd_ | refine bs_ ?_ GE184.out | refine bs_ ?_ GE200.out) | exact HB.out)⟩⟩
                  ·
                   rw [if_neg c36] at H
                   have c36b0 : (((rd_T46 t196 0).f1) != (decide ((wrap64 (x3_1 + 2)) > 512))) = false := by simpa using c36
                   (try (have c36b1 : decide (((rd_T46 t196 0).f1) = (decide ((wrap64 (x3_1 + 2)) > 512))) = true := by simpa using c36))
                   (try (have c36b2 : (((rd_T46 t196 0).f1) == (decide ((wrap64 (x3_1 + 2)) > 512))) = true := by simpa using c36))
                   (try (have c36b3 : (((rd_T46 t196 0).f1) = (decide (512 < (wrap64 (x3_1 + 2))))) = True := eq_true (by simpa using c36)))
                   clear c36
                   by_cases c38 : ((((rd_T46 t196 0).f0).toList == ([] : List UInt8)) != (decide ((wrap64 (x3_1 + 2)) > 512))) = true
                   ·
                    rw [if_pos c38] at H
                    have c38b0 : ((((rd_T46 t196 0).f0).toList == ([] : List UInt8)) != (decide ((wrap64 (x3_1 + 2)) > 512))) = true := c38
                    (try (have c38b1 : decide ((((rd_T46 t196 0).f0).toList == ([] : List UInt8)) = (decide ((wrap64 (x3_1 + 2)) > 512))) = false := by simpa using c38))
                    (try (have c38b2 : ((((rd_T46 t196 0).f0).toList == ([] : List UInt8)) == (decide ((wrap64 (x3_1 + 2)) > 512))) = false := by simpa using c38))
                    (try (have c38b3 : ¬ ((((rd_T46 t196 0).f0).toList == ([] : List UInt8)) = (decide ((wrap64 (x3_1 + 2)) > 512))) := by simpa using c38))
                    (try (have c38b4 : ((((rd_T46 t196 0).f0).toList).isEmpty = (decide (512 < (wrap64 (x3_1 + 2))))) = False := eq_false (by simpa using c38)))
                    clear c38
                    have H' := am_ H
                    clear H
                    go_wp2_with (first | ((with_reducible refine gate_callee (f := 11) rfl ?_); refine goesL_ (some 51) rfl rfl Try.func11 (by kernel_rfl) rfl #[.int .i64 t199] rfl (by (try simp only [m1_, m2_, m3_]); first | done | rfl | (simp only [m4_, m5_]; rfl)) ?_; (with_reducible refine (pouchlaw1_num.calls t199 t201 _ A32.out).mono ?_); rintro e w' ⟨rfl, ⟨nd, rfl⟩⟩; refine ⟨_, rfl, ?_⟩; obtain ⟨Ao39, co39, eo39⟩ := Kd.R_slice HO198.out; subst eo39; have p202 : 0 ≤ (0 : Int) := (by omega); have q202 : 0 < (t196.length : Int) := od_ (by first | (with_reducible assumption) | assumption); obtain ⟨ad202, e202, hx202_0, hx202_1⟩ := at_T46 (Kd.R_reads' HO198.out).2.2 0 p202 q202; cases e202; have qi202 : (0 < t196.length) = True := eq_true (by omega); (try rw [show ((0 : Int)).toNat = 0 from rfl] at hx202_0); (try rw [show 0 * 2 = 0 from rfl] at hx202_0); (try rw [Addr.add_zero'] at hx202_0); (try rw [show ((0 : Int)).toNat = 0 from rfl] at hx202_1); (try rw [show 0 * 2 = 0 from rfl] at hx202_1); (try rw [Addr.add_zero'] at hx202_1); have hn202_0 : ad202.block ≠ gb200 := Kd.own_blk (Kd.R_ne HO198.out BK200.out (by decide)); have hn202_1 : ad202.block ≠ gb200 := Kd.own_blk (Kd.R_ne HO198.out BK200.out (by decide)); replace hx202_0 := (cf_ (p := ⟨gb200, 0, none⟩) (by first | (rw [ab_]; exact hn202_0) | (show (Addr.add _ _).block ≠ _; rw [ab_]; exact hn202_0) | exact hn202_0) (.string t194)).trans hx202_0; replace hx202_1 := (cf_ (p := ⟨gb200, 0, none⟩) (by first | (rw [ab_]; exact hn202_0) | (show (Addr.add _ _).block ≠ _; rw [ab_]; exact hn202_0) | exact hn202_0) (.string t194)).trans hx202_1; replace hx202_0 := (cf_ (p := ⟨gb200, 1, none⟩) (by first | (rw [ab_]; exact hn202_1) | (show (Addr.add _ _).block ≠ _; rw [ab_]; exact hn202_1) | exact hn202_1) (.bool t195)).trans hx202_0; replace hx202_1 := (cf_ (p := ⟨gb200, 1, none⟩) (by first | (rw [ab_]; exact hn202_1) | (show (Addr.add _ _).block ≠ _; rw [ab_]; exact hn202_1) | exact hn202_1) (.bool t195)).trans hx202_1; clear hn202_0; clear hn202_1; replace p202 := eq_true p202; replace q202 := eq_true q202; have p203 : 0 ≤ (0 : Int) := (by omega); have q203 : 0 < (t196.length : Int) := od_ (by first | (with_reducible assumption) | assumption); obtain ⟨ad203, e203, hx203_0, hx203_1⟩ := at_T46 (Kd.R_reads' HO198.out).2.2 0 p203 q203; obtain rfl : ad202 = ad203 := (by injection e203); have qi203 : (0 < t196.length) = True := eq_true (by omega); (try rw [show ((0 : Int)).toNat = 0 from rfl] at hx203_0); (try rw [show 0 * 2 = 0 from rfl] at hx203_0); (try rw [Addr.add_zero'] at hx203_0); (try rw [show ((0 : Int)).toNat = 0 from rfl] at hx203_1); (try rw [show 0 * 2 = 0 from rfl] at hx203_1); (try rw [Addr.add_zero'] at hx203_1); have hn203_0 : ad202.block ≠ gb200 := Kd.own_blk (Kd.R_ne HO198.out BK200.out (by decide)); have hn203_1 : ad202.block ≠ gb200 := Kd.own_blk (Kd.R_ne HO198.out BK200.out (by decide)); replace hx203_0 := (cf_ (p := ⟨gb200, 0, none⟩) (by first | (rw [ab_]; exact hn203_0) | (show (Addr.add _ _).block ≠ _; rw [ab_]; exact hn203_0) | exact hn203_0) (.string t194)).trans hx203_0; replace hx203_1 := (cf_ (p := ⟨gb200, 0, none⟩) (by first | (rw [ab_]; exact hn203_0) | (show (Addr.add _ _).block ≠ _; rw [ab_]; exact hn203_0) | exact hn203_0) (.string t194)).trans hx203_1; replace hx203_0 := (cf_ (p := ⟨gb200, 1, none⟩) (by first | (rw [ab_]; exact hn203_1) | (show (Addr.add _ _).block ≠ _; rw [ab_]; exact hn203_1) | exact hn203_1) (.bool t195)).trans hx203_0; replace hx203_1 := (cf_ (p := ⟨gb200, 1, none⟩) (by first | (rw [ab_]; exact hn203_1) | (show (Addr.add _ _).block ≠ _; rw [ab_]; exact hn203_1) | exact hn203_1) (.bool t195)).trans hx203_1; clear hn203_0; clear hn203_1; replace p203 := eq_true p203; replace q203 := eq_true q203))
                    go_meet
                    case rel => exact ⟨_, (true), (by first | rfl | (simp; done) | (simp [*]; done)), H', ⟨by have := HK1.out; have := HK2.out; have := HJ13.out; first | omega | exact Nat.le_refl _⟩, ⟨by (with_reducible repeat (first | apply ra_ | apply rn_ | apply re_)); exact Kd.R_mono (Kd.R_far (p := ⟨gb200, 1, none⟩) (Kd.R_far (p := ⟨gb200, 0, none⟩) (Kd.R_types HO193.out BK200.out (by decide)) (fun _ hk => hk.2) (.string t194)) (fun _ hk => hk.2) (.bool t195)) (fun _ hk => trivial)⟩, ⟨by (with_reducible repeat (first | refine kn_ ?_ _ | refine kd_ ?_ | refine ka_ ?_ _)); refine blk_far ?_ NB184_200.out _; (with_reducible repeat (first | refine kn_ ?_ _ | refine kd_ ?_ | refine ka_ ?_ _)); refine blk_far ?_ NB184_200.out _; (with_reducible repeat (first | refine kn_ ?_ _ | refine kd_ ?_ | refine ka_ ?_ _)); exact BK184.out⟩, ⟨by (with_reducible repeat (first | refine kn_ ?_ _ | refine kd_ ?_ | refine ka_ ?_ _)); refine blk_put (cs := #[.string t194, .bool false]) ?_ 1 _ rfl; (with_reducible repeat (first | refine kn_ ?_ _ | refine kd_ ?_ | refine ka_ ?_ _)); refine blk_put (cs := #[.string (⟨#[]⟩ : ByteArray), .bool false]) ?_ 0 _ rfl; (with_reducible repeat (first | refine kn_ ?_ _ | refine kd_ ?_ | refine ka_ ?_ _)); exact BK200.out⟩, ⟨by repeat (first | (with_reducible first | exact HB.out | apply ba_ | apply bn_ | apply bd_ | refine bs_ ?_ GE184.out | refine bs_ ?_ GE200.out) | exact HB.out)⟩⟩
                   ·
                    rw [if_neg c38] at H
                    have c38b0 : ((((rd_T46 t196 0).f0).toList == ([] : List UInt8)) != (decide ((wrap64 (x3_1 + 2)) > 512))) = false := by simpa using c38
                    (try (have c38b1 : decide ((((rd_T46 t196 0).f0).toList == ([] : List UInt8)) = (decide ((wrap64 (x3_1 + 2)) > 512))) = true := by simpa using c38))
                    (try (have c38b2 : ((((rd_T46 t196 0).f0).toList == ([] : List UInt8)) == (decide ((wrap64 (x3_1 + 2)) > 512))) = true := by simpa using c38))
                    (try (have c38b3 : ((((rd_T46 t196 0).f0).toList).isEmpty = (decide (512 < (wrap64 (x3_1 + 2))))) = True := eq_true (by simpa using c38)))
                    clear c38
                    by_cases c40 : 1 < (t196.length : Int)
                    ·
                     rw [if_pos c40] at H
                     have c40b0 : decide (1 < (t196.length : Int)) = true := decide_eq_true c40
                     have c40b1 : decide (1 < t196.length) = true := decide_eq_true (by omega)
                     clear c40
                     by_cases c41 : (!((((rd_T46 t196 1).f0).toList) == ([110, 101, 120, 116] : List UInt8)) || (((rd_T46 t196 1).f1))) = true
                     ·
                      rw [if_pos c41] at H
                      have c41b0 : (!((((rd_T46 t196 1).f0).toList) == ([110, 101, 120, 116] : List UInt8)) || (((rd_T46 t196 1).f1))) = true := c41
                      clear c41
                      have H' := am_ H
                      clear H
                      go_wp2_with (first | ((with_reducible refine gate_callee (f := 11) rfl ?_); refine goesL_ (some 51) rfl rfl Try.func11 (by kernel_rfl) rfl #[.int .i64 t199] rfl (by (try simp only [m1_, m2_, m3_]); first | done | rfl | (simp only [m4_, m5_]; rfl)) ?_; (with_reducible refine (pouchlaw1_num.calls t199 t201 _ A32.out).mono ?_); rintro e w' ⟨rfl, ⟨nd, rfl⟩⟩; refine ⟨_, rfl, ?_⟩; obtain ⟨Ao42, co42, eo42⟩ := Kd.R_slice HO198.out; subst eo42; have p202 : 0 ≤ (0 : Int) := (by omega); have q202 : 0 < (t196.length : Int) := od_ (by first | (with_reducible assumption) | assumption); obtain ⟨ad202, e202, hx202_0, hx202_1⟩ := at_T46 (Kd.R_reads' HO198.out).2.2 0 p202 q202; cases e202; have qi202 : (0 < t196.length) = True := eq_true (by omega); (try rw [show ((0 : Int)).toNat = 0 from rfl] at hx202_0); (try rw [show 0 * 2 = 0 from rfl] at hx202_0); (try rw [Addr.add_zero'] at hx202_0); (try rw [show ((0 : Int)).toNat = 0 from rfl] at hx202_1); (try rw [show 0 * 2 = 0 from rfl] at hx202_1); (try rw [Addr.add_zero'] at hx202_1); have hn202_0 : ad202.block ≠ gb200 := Kd.own_blk (Kd.R_ne HO198.out BK200.out (by decide)); have hn202_1 : ad202.block ≠ gb200 := Kd.own_blk (Kd.R_ne HO198.out BK200.out (by decide)); replace hx202_0 := (cf_ (p := ⟨gb200, 0, none⟩) (by first | (rw [ab_]; exact hn202_0) | (show (Addr.add _ _).block ≠ _; rw [ab_]; exact hn202_0) | exact hn202_0) (.string t194)).trans hx202_0; replace hx202_1 := (cf_ (p := ⟨gb200, 0, none⟩) (by first | (rw [ab_]; exact hn202_0) | (show (Addr.add _ _).block ≠ _; rw [ab_]; exact hn202_0) | exact hn202_0) (.string t194)).trans hx202_1; replace hx202_0 := (cf_ (p := ⟨gb200, 1, none⟩) (by first | (rw [ab_]; exact hn202_1) | (show (Addr.add _ _).block ≠ _; rw [ab_]; exact hn202_1) | exact hn202_1) (.bool t195)).trans hx202_0; replace hx202_1 := (cf_ (p := ⟨gb200, 1, none⟩) (by first | (rw [ab_]; exact hn202_1) | (show (Addr.add _ _).block ≠ _; rw [ab_]; exact hn202_1) | exact hn202_1) (.bool t195)).trans hx202_1; clear hn202_0; clear hn202_1; replace p202 := eq_true p202; replace q202 := eq_true q202; have p203 : 0 ≤ (0 : Int) := (by omega); have q203 : 0 < (t196.length : Int) := od_ (by first | (with_reducible assumption) | assumption); obtain ⟨ad203, e203, hx203_0, hx203_1⟩ := at_T46 (Kd.R_reads' HO198.out).2.2 0 p203 q203; obtain rfl : ad202 = ad203 := (by injection e203); have qi203 : (0 < t196.length) = True := eq_true (by omega); (try rw [show ((0 : Int)).toNat = 0 from rfl] at hx203_0); (try rw [show 0 * 2 = 0 from rfl] at hx203_0); (try rw [Addr.add_zero'] at hx203_0); (try rw [show ((0 : Int)).toNat = 0 from rfl] at hx203_1); (try rw [show 0 * 2 = 0 from rfl] at hx203_1); (try rw [Addr.add_zero'] at hx203_1); have hn203_0 : ad202.block ≠ gb200 := Kd.own_blk (Kd.R_ne HO198.out BK200.out (by decide)); have hn203_1 : ad202.block ≠ gb200 := Kd.own_blk (Kd.R_ne HO198.out BK200.out (by decide)); replace hx203_0 := (cf_ (p := ⟨gb200, 0, none⟩) (by first | (rw [ab_]; exact hn203_0) | (show (Addr.add _ _).block ≠ _; rw [ab_]; exact hn203_0) | exact hn203_0) (.string t194)).trans hx203_0; replace hx203_1 := (cf_ (p := ⟨gb200, 0, none⟩) (by first | (rw [ab_]; exact hn203_0) | (show (Addr.add _ _).block ≠ _; rw [ab_]; exact hn203_0) | exact hn203_0) (.string t194)).trans hx203_1; replace hx203_0 := (cf_ (p := ⟨gb200, 1, none⟩) (by first | (rw [ab_]; exact hn203_1) | (show (Addr.add _ _).block ≠ _; rw [ab_]; exact hn203_1) | exact hn203_1) (.bool t195)).trans hx203_0; replace hx203_1 := (cf_ (p := ⟨gb200, 1, none⟩) (by first | (rw [ab_]; exact hn203_1) | (show (Addr.add _ _).block ≠ _; rw [ab_]; exact hn203_1) | exact hn203_1) (.bool t195)).trans hx203_1; clear hn203_0; clear hn203_1; replace p203 := eq_true p203; replace q203 := eq_true q203; have p204 : 0 ≤ (1 : Int) := (by omega); have q204 : 1 < (t196.length : Int) := od_ (by first | (with_reducible assumption) | assumption); obtain ⟨ad204, e204, hx204_0, hx204_1⟩ := at_T46 (Kd.R_reads' HO198.out).2.2 1 p204 q204; obtain rfl : ad202 = ad204 := (by injection e204); (try simp only [show (1 : Int).toNat = 1 from rfl, Nat.reduceMul, Nat.reduceEqDiff, Go.Addr.add, ↓reduceIte] at hx204_0); (try simp only [show (1 : Int).toNat = 1 from rfl, Nat.reduceMul, Nat.reduceEqDiff, Go.Addr.add, ↓reduceIte] at hx204_1); have qi204 : (1 < t196.length) = True := eq_true (by omega); (try rw [show ((1 : Int)).toNat = 1 from rfl] at hx204_0); (try rw [show 1 * 2 = 2 from rfl] at hx204_0); (try rw [show ((1 : Int)).toNat = 1 from rfl] at hx204_1); (try rw [show 1 * 2 = 2 from rfl] at hx204_1); have hn204_0 : ad202.block ≠ gb200 := Kd.own_blk (Kd.R_ne HO198.out BK200.out (by decide)); have hn204_1 : ad202.block ≠ gb200 := Kd.own_blk (Kd.R_ne HO198.out BK200.out (by decide)); replace hx204_0 := (cf_ (p := ⟨gb200, 0, none⟩) (by first | (rw [ab_]; exact hn204_0) | (show (Addr.add _ _).block ≠ _; rw [ab_]; exact hn204_0) | exact hn204_0) (.string t194)).trans hx204_0; replace hx204_1 := (cf_ (p := ⟨gb200, 0, none⟩) (by first | (rw [ab_]; exact hn204_0) | (show (Addr.add _ _).block ≠ _; rw [ab_]; exact hn204_0) | exact hn204_0) (.string t194)).trans hx204_1; replace hx204_0 := (cf_ (p := ⟨gb200, 1, none⟩) (by first | (rw [ab_]; exact hn204_1) | (show (Addr.add _ _).block ≠ _; rw [ab_]; exact hn204_1) | exact hn204_1) (.bool t195)).trans hx204_0; replace hx204_1 := (cf_ (p := ⟨gb200, 1, none⟩) (by first | (rw [ab_]; exact hn204_1) | (show (Addr.add _ _).block ≠ _; rw [ab_]; exact hn204_1) | exact hn204_1) (.bool t195)).trans hx204_1; clear hn204_0; clear hn204_1; replace p204 := eq_true p204; replace q204 := eq_true q204))
                      go_meet
                      case rel => exact ⟨_, (true), (by first | rfl | (simp; done) | (simp [*]; done)), H', ⟨by have := HK1.out; have := HK2.out; have := HJ13.out; first | omega | exact Nat.le_refl _⟩, ⟨by (with_reducible repeat (first | apply ra_ | apply rn_ | apply re_)); exact Kd.R_mono (Kd.R_far (p := ⟨gb200, 1, none⟩) (Kd.R_far (p := ⟨gb200, 0, none⟩) (Kd.R_types HO193.out BK200.out (by decide)) (fun _ hk => hk.2) (.string t194)) (fun _ hk => hk.2) (.bool t195)) (fun _ hk => trivial)⟩, ⟨by (with_reducible repeat (first | refine kn_ ?_ _ | refine kd_ ?_ | refine ka_ ?_ _)); refine blk_far ?_ NB184_200.out _; (with_reducible repeat (first | refine kn_ ?_ _ | refine kd_ ?_ | refine ka_ ?_ _)); refine blk_far ?_ NB184_200.out _; (with_reducible repeat (first | refine kn_ ?_ _ | refine kd_ ?_ | refine ka_ ?_ _)); exact BK184.out⟩, ⟨by (with_reducible repeat (first | refine kn_ ?_ _ | refine kd_ ?_ | refine ka_ ?_ _)); refine blk_put (cs := #[.string t194, .bool false]) ?_ 1 _ rfl; (with_reducible repeat (first | refine kn_ ?_ _ | refine kd_ ?_ | refine ka_ ?_ _)); refine blk_put (cs := #[.string (⟨#[]⟩ : ByteArray), .bool false]) ?_ 0 _ rfl; (with_reducible repeat (first | refine kn_ ?_ _ | refine kd_ ?_ | refine ka_ ?_ _)); exact BK200.out⟩, ⟨by repeat (first | (with_reducible first | exact HB.out | apply ba_ | apply bn_ | apply bd_ | refine bs_ ?_ GE184.out | refine bs_ ?_ GE200.out) | exact HB.out)⟩⟩
                     ·
                      rw [if_neg c41] at H
                      have c41b0 : (!((((rd_T46 t196 1).f0).toList) == ([110, 101, 120, 116] : List UInt8)) || (((rd_T46 t196 1).f1))) = false := by simpa using c41
                      clear c41
                      have H' := am_ H
                      clear H
                      go_wp2_with (first | ((with_reducible refine gate_callee (f := 11) rfl ?_); refine goesL_ (some 51) rfl rfl Try.func11 (by kernel_rfl) rfl #[.int .i64 t199] rfl (by (try simp only [m1_, m2_, m3_]); first | done | rfl | (simp only [m4_, m5_]; rfl)) ?_; (with_reducible refine (pouchlaw1_num.calls t199 t201 _ A32.out).mono ?_); rintro e w' ⟨rfl, ⟨nd, rfl⟩⟩; refine ⟨_, rfl, ?_⟩; obtain ⟨Ao43, co43, eo43⟩ := Kd.R_slice HO198.out; subst eo43; have p202 : 0 ≤ (0 : Int) := (by omega); have q202 : 0 < (t196.length : Int) := od_ (by first | (with_reducible assumption) | assumption); obtain ⟨ad202, e202, hx202_0, hx202_1⟩ := at_T46 (Kd.R_reads' HO198.out).2.2 0 p202 q202; cases e202; have qi202 : (0 < t196.length) = True := eq_true (by omega); (try rw [show ((0 : Int)).toNat = 0 from rfl] at hx202_0); (try rw [show 0 * 2 = 0 from rfl] at hx202_0); (try rw [Addr.add_zero'] at hx202_0); (try rw [show ((0 : Int)).toNat = 0 from rfl] at hx202_1); (try rw [show 0 * 2 = 0 from rfl] at hx202_1); (try rw [Addr.add_zero'] at hx202_1); have hn202_0 : ad202.block ≠ gb200 := Kd.own_blk (Kd.R_ne HO198.out BK200.out (by decide)); have hn202_1 : ad202.block ≠ gb200 := Kd.own_blk (Kd.R_ne HO198.out BK200.out (by decide)); replace hx202_0 := (cf_ (p := ⟨gb200, 0, none⟩) (by first | (rw [ab_]; exact hn202_0) | (show (Addr.add _ _).block ≠ _; rw [ab_]; exact hn202_0) | exact hn202_0) (.string t194)).trans hx202_0; replace hx202_1 := (cf_ (p := ⟨gb200, 0, none⟩) (by first | (rw [ab_]; exact hn202_0) | (show (Addr.add _ _).block ≠ _; rw [ab_]; exact hn202_0) | exact hn202_0) (.string t194)).trans hx202_1; replace hx202_0 := (cf_ (p := ⟨gb200, 1, none⟩) (by first | (rw [ab_]; exact hn202_1) | (show (Addr.add _ _).block ≠ _; rw [ab_]; exact hn202_1) | exact hn202_1) (.bool t195)).trans hx202_0; replace hx202_1 := (cf_ (p := ⟨gb200, 1, none⟩) (by first | (rw [ab_]; exact hn202_1) | (show (Addr.add _ _).block ≠ _; rw [ab_]; exact hn202_1) | exact hn202_1) (.bool t195)).trans hx202_1; clear hn202_0; clear hn202_1; replace p202 := eq_true p202; replace q202 := eq_true q202; have p203 : 0 ≤ (0 : Int) := (by omega); have q203 : 0 < (t196.length : Int) := od_ (by first | (with_reducible assumption) | assumption); obtain ⟨ad203, e203, hx203_0, hx203_1⟩ := at_T46 (Kd.R_reads' HO198.out).2.2 0 p203 q203; obtain rfl : ad202 = ad203 := (by injection e203); have qi203 : (0 < t196.length) = True := eq_true (by omega); (try rw [show ((0 : Int)).toNat = 0 from rfl] at hx203_0); (try rw [show 0 * 2 = 0 from rfl] at hx203_0); (try rw [Addr.add_zero'] at hx203_0); (try rw [show ((0 : Int)).toNat = 0 from rfl] at hx203_1); (try rw [show 0 * 2 = 0 from rfl] at hx203_1); (try rw [Addr.add_zero'] at hx203_1); have hn203_0 : ad202.block ≠ gb200 := Kd.own_blk (Kd.R_ne HO198.out BK200.out (by decide)); have hn203_1 : ad202.block ≠ gb200 := Kd.own_blk (Kd.R_ne HO198.out BK200.out (by decide)); replace hx203_0 := (cf_ (p := ⟨gb200, 0, none⟩) (by first | (rw [ab_]; exact hn203_0) | (show (Addr.add _ _).block ≠ _; rw [ab_]; exact hn203_0) | exact hn203_0) (.string t194)).trans hx203_0; replace hx203_1 := (cf_ (p := ⟨gb200, 0, none⟩) (by first | (rw [ab_]; exact hn203_0) | (show (Addr.add _ _).block ≠ _; rw [ab_]; exact hn203_0) | exact hn203_0) (.string t194)).trans hx203_1; replace hx203_0 := (cf_ (p := ⟨gb200, 1, none⟩) (by first | (rw [ab_]; exact hn203_1) | (show (Addr.add _ _).block ≠ _; rw [ab_]; exact hn203_1) | exact hn203_1) (.bool t195)).trans hx203_0; replace hx203_1 := (cf_ (p := ⟨gb200, 1, none⟩) (by first | (rw [ab_]; exact hn203_1) | (show (Addr.add _ _).block ≠ _; rw [ab_]; exact hn203_1) | exact hn203_1) (.bool t195)).trans hx203_1; clear hn203_0; clear hn203_1; replace p203 := eq_true p203; replace q203 := eq_true q203; have p204 : 0 ≤ (1 : Int) := (by omega); have q204 : 1 < (t196.length : Int) := od_ (by first | (with_reducible assumption) | assumption); obtain ⟨ad204, e204, hx204_0, hx204_1⟩ := at_T46 (Kd.R_reads' HO198.out).2.2 1 p204 q204; obtain rfl : ad202 = ad204 := (by injection e204); (try simp only [show (1 : Int).toNat = 1 from rfl, Nat.reduceMul, Nat.reduceEqDiff, Go.Addr.add, ↓reduceIte] at hx204_0); (try simp only [show (1 : Int).toNat = 1 from rfl, Nat.reduceMul, Nat.reduceEqDiff, Go.Addr.add, ↓reduceIte] at hx204_1); have qi204 : (1 < t196.length) = True := eq_true (by omega); (try rw [show ((1 : Int)).toNat = 1 from rfl] at hx204_0); (try rw [show 1 * 2 = 2 from rfl] at hx204_0); (try rw [show ((1 : Int)).toNat = 1 from rfl] at hx204_1); (try rw [show 1 * 2 = 2 from rfl] at hx204_1); have hn204_0 : ad202.block ≠ gb200 := Kd.own_blk (Kd.R_ne HO198.out BK200.out (by decide)); have hn204_1 : ad202.block ≠ gb200 := Kd.own_blk (Kd.R_ne HO198.out BK200.out (by decide)); replace hx204_0 := (cf_ (p := ⟨gb200, 0, none⟩) (by first | (rw [ab_]; exact hn204_0) | (show (Addr.add _ _).block ≠ _; rw [ab_]; exact hn204_0) | exact hn204_0) (.string t194)).trans hx204_0; replace hx204_1 := (cf_ (p := ⟨gb200, 0, none⟩) (by first | (rw [ab_]; exact hn204_0) | (show (Addr.add _ _).block ≠ _; rw [ab_]; exact hn204_0) | exact hn204_0) (.string t194)).trans hx204_1; replace hx204_0 := (cf_ (p := ⟨gb200, 1, none⟩) (by first | (rw [ab_]; exact hn204_1) | (show (Addr.add _ _).block ≠ _; rw [ab_]; exact hn204_1) | exact hn204_1) (.bool t195)).trans hx204_0; replace hx204_1 := (cf_ (p := ⟨gb200, 1, none⟩) (by first | (rw [ab_]; exact hn204_1) | (show (Addr.add _ _).block ≠ _; rw [ab_]; exact hn204_1) | exact hn204_1) (.bool t195)).trans hx204_1; clear hn204_0; clear hn204_1; replace p204 := eq_true p204; replace q204 := eq_true q204; have hnb44 := NB200_184.out; have hnc44 := NB184_200.out; have hcz45_0 : w29.cell? ⟨gb200, 0, none⟩ = some (.string (⟨#[]⟩ : ByteArray)) := (blk_cell BK200.out 0).trans rfl; have hcz45_1 : w29.cell? ⟨gb200, 1, none⟩ = some (.bool false) := (blk_cell BK200.out 1).trans rfl; have hfz45_0 := blk_frozen BK200.out 0; have hfz45_1 := blk_frozen BK200.out 1))
                      go_meet
                      case rel => exact ⟨_, ((!(t194.toList == ([] : List UInt8)) || (t195))), (by first | rfl | (simp; done) | (simp [*]; done)), H', ⟨by have := HK1.out; have := HK2.out; have := HJ13.out; first | omega | exact Nat.le_refl _⟩, ⟨by (with_reducible repeat (first | apply ra_ | apply rn_ | apply re_)); exact Kd.R_mono (Kd.R_far (p := ⟨gb200, 1, none⟩) (Kd.R_far (p := ⟨gb200, 0, none⟩) (Kd.R_types HO193.out BK200.out (by decide)) (fun _ hk => hk.2) (.string t194)) (fun _ hk => hk.2) (.bool t195)) (fun _ hk => trivial)⟩, ⟨by (with_reducible repeat (first | refine kn_ ?_ _ | refine kd_ ?_ | refine ka_ ?_ _)); refine blk_far ?_ NB184_200.out _; (with_reducible repeat (first | refine kn_ ?_ _ | refine kd_ ?_ | refine ka_ ?_ _)); refine blk_far ?_ NB184_200.out _; (with_reducible repeat (first | refine kn_ ?_ _ | refine kd_ ?_ | refine ka_ ?_ _)); exact BK184.out⟩, ⟨by (with_reducible repeat (first | refine kn_ ?_ _ | refine kd_ ?_ | refine ka_ ?_ _)); refine blk_put (cs := #[.string t194, .bool false]) ?_ 1 _ rfl; (with_reducible repeat (first | refine kn_ ?_ _ | refine kd_ ?_ | refine ka_ ?_ _)); refine blk_put (cs := #[.string (⟨#[]⟩ : ByteArray), .bool false]) ?_ 0 _ rfl; (with_reducible repeat (first | refine kn_ ?_ _ | refine kd_ ?_ | refine ka_ ?_ _)); exact BK200.out⟩, ⟨by repeat (first | (with_reducible first | exact HB.out | apply ba_ | apply bn_ | apply bd_ | refine bs_ ?_ GE184.out | refine bs_ ?_ GE200.out) | exact HB.out)⟩⟩
                    ·
                     rw [if_neg c40] at H
                     exact absurd H (by simp)
                 ·
                  rw [if_neg c35] at H
                  exact absurd H (by simp)
                ·
                 rw [if_neg c34] at H
                 have c34b0 : ((t196.length : Int) == 2) = false := beq_eq_false_iff_ne.mpr c34
                 have c34b1 : ((t196.length : Int) != 2) = true := bne_iff_ne.mpr c34
                 have H' := am_ H
                 clear H
                 go_wp2_with (first | ((with_reducible refine gate_callee (f := 11) rfl ?_); refine goesL_ (some 51) rfl rfl Try.func11 (by kernel_rfl) rfl #[.int .i64 t199] rfl (by (try simp only [m1_, m2_, m3_]); first | done | rfl | (simp only [m4_, m5_]; rfl)) ?_; (with_reducible refine (pouchlaw1_num.calls t199 t201 _ A32.out).mono ?_); rintro e w' ⟨rfl, ⟨nd, rfl⟩⟩; refine ⟨_, rfl, ?_⟩; obtain ⟨Ao46, co46, eo46⟩ := Kd.R_slice HO198.out; subst eo46))
                 go_meet
                 case rel => exact ⟨_, (true), (by first | rfl | (simp; done) | (simp [*]; done)), H', ⟨by have := HK1.out; have := HK2.out; have := HJ13.out; first | omega | exact Nat.le_refl _⟩, ⟨by (with_reducible repeat (first | apply ra_ | apply rn_ | apply re_)); exact Kd.R_mono (Kd.R_far (p := ⟨gb200, 1, none⟩) (Kd.R_far (p := ⟨gb200, 0, none⟩) (Kd.R_types HO193.out BK200.out (by decide)) (fun _ hk => hk.2) (.string t194)) (fun _ hk => hk.2) (.bool t195)) (fun _ hk => trivial)⟩, ⟨by (with_reducible repeat (first | refine kn_ ?_ _ | refine kd_ ?_ | refine ka_ ?_ _)); refine blk_far ?_ NB184_200.out _; (with_reducible repeat (first | refine kn_ ?_ _ | refine kd_ ?_ | refine ka_ ?_ _)); refine blk_far ?_ NB184_200.out _; (with_reducible repeat (first | refine kn_ ?_ _ | refine kd_ ?_ | refine ka_ ?_ _)); exact BK184.out⟩, ⟨by (with_reducible repeat (first | refine kn_ ?_ _ | refine kd_ ?_ | refine ka_ ?_ _)); refine blk_put (cs := #[.string t194, .bool false]) ?_ 1 _ rfl; (with_reducible repeat (first | refine kn_ ?_ _ | refine kd_ ?_ | refine ka_ ?_ _)); refine blk_put (cs := #[.string (⟨#[]⟩ : ByteArray), .bool false]) ?_ 0 _ rfl; (with_reducible repeat (first | refine kn_ ?_ _ | refine kd_ ?_ | refine ka_ ?_ _)); exact BK200.out⟩, ⟨by repeat (first | (with_reducible first | exact HB.out | apply ba_ | apply bn_ | apply bd_ | refine bs_ ?_ GE184.out | refine bs_ ?_ GE200.out) | exact HB.out)⟩⟩
               ·
                rw [if_neg c33] at H
                have c33b0 : (t201 == 0) = false := beq_eq_false_iff_ne.mpr c33
                have c33b1 : (t201 != 0) = true := bne_iff_ne.mpr c33
                (first | rw [c33b0] | (simp only [i64_w, i32_w]; rw [c33b0]) | skip)
                have H' := am_ H
                clear H
                go_wp2_with (first | ((with_reducible refine gate_callee (f := 11) rfl ?_); refine goesL_ (some 51) rfl rfl Try.func11 (by kernel_rfl) rfl #[.int .i64 t199] rfl (by (try simp only [m1_, m2_, m3_]); first | done | rfl | (simp only [m4_, m5_]; rfl)) ?_; (with_reducible refine (pouchlaw1_num.calls t199 t201 _ A32.out).mono ?_); rintro e w' ⟨rfl, ⟨nd, rfl⟩⟩; refine ⟨_, rfl, ?_⟩))
                go_meet
                case rel => exact ⟨_, (true), (by first | rfl | (simp; done) | (simp [*]; done)), H', ⟨by have := HK1.out; have := HK2.out; have := HJ13.out; first | omega | exact Nat.le_refl _⟩, ⟨by (with_reducible repeat (first | apply ra_ | apply rn_ | apply re_)); exact Kd.R_mono (Kd.R_far (p := ⟨gb200, 1, none⟩) (Kd.R_far (p := ⟨gb200, 0, none⟩) (Kd.R_types HO193.out BK200.out (by decide)) (fun _ hk => hk.2) (.string t194)) (fun _ hk => hk.2) (.bool t195)) (fun _ hk => trivial)⟩, ⟨by (with_reducible repeat (first | refine kn_ ?_ _ | refine kd_ ?_ | refine ka_ ?_ _)); refine blk_far ?_ NB184_200.out _; (with_reducible repeat (first | refine kn_ ?_ _ | refine kd_ ?_ | refine ka_ ?_ _)); refine blk_far ?_ NB184_200.out _; (with_reducible repeat (first | refine kn_ ?_ _ | refine kd_ ?_ | refine ka_ ?_ _)); exact BK184.out⟩, ⟨by (with_reducible repeat (first | refine kn_ ?_ _ | refine kd_ ?_ | refine ka_ ?_ _)); refine blk_put (cs := #[.string t194, .bool false]) ?_ 1 _ rfl; (with_reducible repeat (first | refine kn_ ?_ _ | refine kd_ ?_ | refine ka_ ?_ _)); refine blk_put (cs := #[.string (⟨#[]⟩ : ByteArray), .bool false]) ?_ 0 _ rfl; (with_reducible repeat (first | refine kn_ ?_ _ | refine kd_ ?_ | refine ka_ ?_ _)); exact BK200.out⟩, ⟨by repeat (first | (with_reducible first | exact HB.out | apply ba_ | apply bn_ | apply bd_ | refine bs_ ?_ GE184.out | refine bs_ ?_ GE200.out) | exact HB.out)⟩⟩
              case rest =>
               clear HC23
               try clear c1
               try clear p1
               try clear q1
               try clear hx1
               try clear hf1
               try clear c2
               try clear p2
               try clear q2
               try clear hx2
               try clear qi2
               try clear hf2
               try clear c3
               try clear c3b0
               try clear c4
               try clear c4b0
               try clear c4b1
               try clear c5
               try clear c5b0
               try clear c5b1
               try clear p6
               try clear c8
               try clear c8b0
               try clear c9
               try clear c9b0
               try clear c10
               try clear c10b0
               try clear c11
               try clear p11
               try clear q11
               try clear hx11
               try clear hf11
               try clear c16
               try clear c16b0
               try clear c16b1
               try clear c18
               try clear c18b0
               try clear c19
               try clear c19b0
               try clear p20
               try clear q20
               try clear hx20
               try clear qi20
               try clear hf20
               try clear c21
               try clear c30
               try clear c33
               try clear c33b0
               try clear c33b1
               try clear c34
               try clear c34b0
               try clear c34b1
               try clear c35
               try clear c35b0
               try clear c35b1
               try clear c36
               try clear c36b0
               try clear c36b1
               try clear c36b2
               try clear c38
               try clear c38b0
               try clear c38b1
               try clear c38b2
               try clear c40
               try clear c40b0
               try clear c40b1
               try clear c41
               try clear c41b0
               try clear c44
               try clear hcz15_0
               try clear hcz15_1
               try clear hcz31_0
               try clear hcz31_1
               try clear hcz45_0
               try clear hcz45_1
               try clear hfz15_0
               try clear hfz15_1
               try clear hfz31_0
               try clear hfz31_1
               try clear hfz45_0
               try clear hfz45_1
               try clear hx11_0
               try clear hx202_0
               try clear hx202_1
               try clear hx203_0
               try clear hx203_1
               try clear hx204_0
               try clear hx204_1
               try clear hx20_0
               try clear p1
               try clear p11
               try clear p2
               try clear p20
               try clear p202
               try clear p203
               try clear p204
               try clear p6
               try clear q1
               try clear q11
               try clear q20
               try clear q202
               try clear q203
               try clear q204
               obtain ⟨kq, x86_22, rfl, HA, HJ22, HO_7, BK184, BK200, HB⟩ := hcut
               cases kq with
               | zero => exact absurd HA.out (by simp [pouchlaw1_FrameLongs.j3])
               | succ kj22 =>
                have H := HA.out
                clear HA
                simp only [pouchlaw1_FrameLongs.j3] at H
                by_cases c47 : x86_22 = true
                ·
                 subst c47
                 have H1 : (some false) = some r := by rw [if_pos rfl] at H; exact H
                 clear H; have H := H1; clear H1
                 obtain rfl := Option.some.inj H
                 go_wp2
                 go_ret
                 exact ⟨by first | rfl | (simp [errW_none, errW_some] <;> rfl) | (simp only [← hji17]; first | rfl | (simp [errW_none, errW_some] <;> rfl)) | (simp [*, errW_none, errW_some] <;> rfl), by repeat (first | (with_reducible first | exact HB.out | apply ba_ | apply bn_ | apply bd_ | refine bs_ ?_ GE184.out | refine bs_ ?_ GE200.out) | exact HB.out)⟩
                ·
                 replace c47 := Bool.eq_false_iff.mpr c47
                 subst c47
                 have H1 : (if 0 ≤ (wrap64 (x3_1 + 1)) then (if (wrap64 (x3_1 + 1)) ≤ (y191.length : Int) then ((frame_Feed.f kj22 (⟨#[]⟩ : ByteArray) false (y191.take ((wrap64 (x3_1 + 1)) : Int).toNat)).bind fun bt209 => ((pouchlaw1_num.f bt209.2.2.2).bind fun t216 => (if t216 = 0 then (if (bt209.2.2.1.length : Int) = 0 then (if (bt209.2.1 != (decide ((wrap64 (x3_1 + 1)) ≥ 512))) = true then (some false) else (pouchlaw1_FrameLongs.l0 kj22 (wrap64 (x3_1 + 1)) l0_0 l0_1)) else (some false)) else (some false)))) else (none)) else (none)) = some r := by rw [if_neg (show ¬ (false = true) by decide)] at H; exact H
                 clear H; have H := H1; clear H1
                 obtain ⟨ji48, hji48⟩ : ∃ j_ : Int, (wrap64 (x3_1 + 1)) = j_ := ⟨_, rfl⟩
                 replace H : (if 0 ≤ (ji48) then (if (ji48) ≤ (y191.length : Int) then ((frame_Feed.f kj22 (⟨#[]⟩ : ByteArray) false (y191.take ((ji48) : Int).toNat)).bind fun bt209 => ((pouchlaw1_num.f bt209.2.2.2).bind fun t216 => (if t216 = 0 then (if (bt209.2.2.1.length : Int) = 0 then (if (bt209.2.1 != (decide ((ji48) ≥ 512))) = true then (some false) else (pouchlaw1_FrameLongs.l0 kj22 ji48 l0_0 l0_1)) else (some false)) else (some false)))) else (none)) else (none)) = some r := by first | (rw [hji48] at H; exact H) | (simp only [hji48] at H ⊢; exact H)
                 have hji48w : (IntKind.i64.wrap (x3_1 + 1)) = ji48 := (i64_w _).trans hji48
                 by_cases c49 : 0 ≤ (ji48)
                 ·
                  rw [if_pos c49] at H
                  have c49b0 := eq_true c49
                  have c49b1 : decide (0 ≤ (ji48)) = true := decide_eq_true c49
                  clear c49
                  by_cases c50 : (ji48) ≤ (y191.length : Int)
                  ·
                   rw [if_pos c50] at H
                   have c50b0 := eq_true c50
                   have c50b1 : decide ((ji48) ≤ (y191.length : Int)) = true := decide_eq_true c50
                   clear c50
                   obtain ⟨y205, hy205⟩ : ∃ y_ : List Int, y_ = (y191.take ((ji48) : Int).toNat) := ⟨_, rfl⟩
                   replace H : ((frame_Feed.f kj22 (⟨#[]⟩ : ByteArray) false y205).bind fun bt209 => ((pouchlaw1_num.f bt209.2.2.2).bind fun t216 => (if t216 = 0 then (if (bt209.2.2.1.length : Int) = 0 then (if (bt209.2.1 != (decide ((ji48) ≥ 512))) = true then (some false) else (pouchlaw1_FrameLongs.l0 kj22 ji48 l0_0 l0_1)) else (some false)) else (some false)))) = some r := by first | (rw [hy205]; with_reducible exact H) | (have H2_ := (Option.bind_some _ _).symm.trans H; rw [hy205]; with_reducible exact H2_) | (have H2_ := (Option.bind_some _ _).symm.trans H; with_reducible exact H2_) | with_reducible exact H | (rw [hy205]; exact H) | exact H
                   have Ny205 := am_ hy205
                   clear hy205
                   replace H := Option.bind_eq_some_iff.mp H
                   obtain ⟨⟨t209, t210, t211, t214⟩, A510, H⟩ := H
                   replace H : ((pouchlaw1_num.f t214).bind fun t216 => (if t216 = 0 then (if (t211.length : Int) = 0 then (if (t210 != (decide ((ji48) ≥ 512))) = true then (some false) else (pouchlaw1_FrameLongs.l0 kj22 ji48 l0_0 l0_1)) else (some false)) else (some false))) = some r := H
                   have A51 := am_ A510
                   clear A510
                   replace H := Option.bind_eq_some_iff.mp H
                   obtain ⟨t216, A520, H⟩ := H
                   replace H : (if t216 = 0 then (if (t211.length : Int) = 0 then (if (t210 != (decide ((ji48) ≥ 512))) = true then (some false) else (pouchlaw1_FrameLongs.l0 kj22 ji48 l0_0 l0_1)) else (some false)) else (some false)) = some r := H
                   have A52 := am_ A520
                   clear A520
                   by_cases c53 : t216 = 0
                   ·
                    rw [if_pos c53] at H
                    have c53b0 : (t216 == 0) = true := beq_iff_eq.mpr c53
                    have c53b1 : (t216 != 0) = false := bne_eq_false_iff_eq.mpr c53
                    clear c53
                    by_cases c54 : (t211.length : Int) = 0
                    ·
                     rw [if_pos c54] at H
                     have c54b0 : ((t211.length : Int) == 0) = true := beq_iff_eq.mpr c54
                     have c54b1 : ((t211.length : Int) != 0) = false := bne_eq_false_iff_eq.mpr c54
                     clear c54
                     by_cases c55 : (t210 != (decide ((ji48) ≥ 512))) = true
                     ·
                      rw [if_pos c55] at H
                      have c55b0 : (t210 != (decide ((ji48) ≥ 512))) = true := c55
                      (try (have c55b1 : decide (t210 = (decide ((ji48) ≥ 512))) = false := by simpa using c55))
                      (try (have c55b2 : (t210 == (decide ((ji48) ≥ 512))) = false := by simpa using c55))
                      (try (have c55b3 : ¬ (t210 = (decide ((ji48) ≥ 512))) := by simpa using c55))
                      (try (have c55b4 : (t210 = (decide (512 ≤ (ji48)))) = False := eq_false (by simpa using c55)))
                      clear c55
                      obtain rfl := Option.some.inj H
                      have q56 : ((ji48) : Int) ≤ ((y191.length : Int) : Int) := od_ (by first | (with_reducible assumption) | assumption)
                      obtain ⟨i056, hi056, _, hsz56, _⟩ := info_parts info5
                      have hroom56 : y191.length ≤ co27 := (Kd.R_reads' HO_7.out).2.1
                      have hC56 : Kd.C (Kd.int .u8) _ Ao27 y191.length y191 := (Kd.R_reads' HO_7.out).2.2
                      have hcut56 := cut_to (P := Try.prog) 26 5 .i64 Try.underlying26 hi056 Ao27 y191.length co27 (ji48) (od_ (by first | (with_reducible assumption) | assumption)) q56 hroom56
                      have hr56 := Kd.C_take (m := ((ji48) : Int).toNat) hC56 (by omega)
                      have hy56 : y205.length = ((ji48) : Int).toNat := (by rw [Ny205.out, m5_]; omega)
                      rw [← Ny205.out] at hr56
                      rw [← hy56] at hcut56
                      have HR208 := am_ hr56
                      have HC208 := am_ (show y205.length ≤ co27 from by omega)
                      clear hr56 hC56 hroom56 hi056 hsz56
                      have KY56 := am_ hy56
                      clear hy56
                      have KL56 := am_ (show ((ji48) : Int).toNat ≤ y191.length from by omega)
                      replace q56 := eq_true q56
                      go_wp2_with (first | ((with_reducible refine gate_callee (f := 9) rfl ?_); refine goesL_ (some 93) rfl rfl Try.func9 (by kernel_rfl) rfl #[.agg #[.string (⟨#[]⟩ : ByteArray), .bool false], .slice Ao27 y205.length co27] rfl (by (try simp only [m1_, m2_, m3_]); first | done | rfl | (simp only [m4_, m5_]; rfl)) ?_; (with_reducible refine (frame_Feed.calls kj22 (⟨#[]⟩ : ByteArray) false _ _ y205 t209 t210 t211 t214 _ ?side1 ?side2 ?side3 A51.out).mono ?_); (case side1 => repeat (first | exact (by repeat (first | (with_reducible exact HR208.out) | (with_reducible refine ca_ ?_ _) | (with_reducible refine cn_ ?_ _) | (with_reducible refine cd_ ?_) | exact HR208.out)) | (with_reducible refine ca_ ?_ _) | (with_reducible refine cn_ ?_ _) | (with_reducible refine cd_ ?_))); (case side2 => exact HC208.out); (case side3 => exact GrOk.below hG (by repeat (first | (with_reducible first | exact HB.out | apply ba_ | apply bn_ | apply bd_ | refine bs_ ?_ GE184.out | refine bs_ ?_ GE200.out) | exact HB.out))); rintro e w57 ⟨v212, rfl, ho0, hb⟩; refine ⟨_, rfl, ?_⟩; have n0_ := am_ (rb_ (by (with_reducible repeat (first | apply ra_ | apply rn_ | apply re_)); exact HO_7.out) hb); have n1_ := am_ (Kd.R_lower ho0 (bz_ (by repeat (first | (with_reducible first | exact HB.out | apply ba_ | apply bn_ | apply bd_ | refine bs_ ?_ GE184.out | refine bs_ ?_ GE200.out) | exact HB.out)))); have n2_ := am_ (bb_ (g := gb184) (o := .cells #[.slice A0_0 l0_0.length c0_0, .slice A0_1 l0_1.length c0_1] 44 (0, 0)) (by (with_reducible repeat (first | refine kn_ ?_ _ | refine kd_ ?_ | refine ka_ ?_ _)); exact BK184.out) hb); have n3_ := am_ (bb_ (g := gb200) (o := .cells #[.string t194, .bool t195] 25 (0, 0)) (by (with_reducible repeat (first | refine kn_ ?_ _ | refine kd_ ?_ | refine ka_ ?_ _)); exact BK200.out) hb); have n4_ := am_ (cb_ (by repeat (first | (with_reducible exact HR208.out) | (with_reducible refine ca_ ?_ _) | (with_reducible refine cn_ ?_ _) | (with_reducible refine cd_ ?_) | exact HR208.out)) hb); have n5_ := am_ (bt_ (by repeat (first | (with_reducible first | exact HB.out | apply ba_ | apply bn_ | apply bd_ | refine bs_ ?_ GE184.out | refine bs_ ?_ GE200.out) | exact HB.out)) hb); clear HO_7; clear BK184; clear BK200; clear HR208; clear HB; have HO_7 := n0_; have HO213 := n1_; have BK184 := n2_; have BK200 := n3_; have HR208 := n4_; have HB := n5_; clear n0_ n1_ n2_ n3_ n4_ n5_; (try clear hb); (try clear hb2); (try clear hk); (try clear hi); (try clear ho0)) | ((with_reducible refine gate_dst (N := 12) rfl ?_); (try (refine gate_guard (by rfl) ?_; dsimp only)); refine box_event ?hg (N := 12) ?hd (cs := #[.string (⟨#[]⟩ : ByteArray), .bool false]) (t := 25) ?hr ?_; (case hd => rfl); (case hg => rfl); (case hr => first | (go_simp; done) | (go_simp; rfl)); intro gb215 hg w58 hbox hb; have n0_ := am_ (rb_ (by (with_reducible repeat (first | apply ra_ | apply rn_ | apply re_)); exact HO_7.out) hb); have n1_ := am_ (rb_ (by (with_reducible repeat (first | apply ra_ | apply rn_ | apply re_)); exact HO213.out) hb); have n2_ := am_ (bb_ (g := gb184) (o := .cells #[.slice A0_0 l0_0.length c0_0, .slice A0_1 l0_1.length c0_1] 44 (0, 0)) (by (with_reducible repeat (first | refine kn_ ?_ _ | refine kd_ ?_ | refine ka_ ?_ _)); exact BK184.out) hb); have n3_ := am_ (bb_ (g := gb200) (o := .cells #[.string t194, .bool t195] 25 (0, 0)) (by (with_reducible repeat (first | refine kn_ ?_ _ | refine kd_ ?_ | refine ka_ ?_ _)); exact BK200.out) hb); have n4_ := am_ (cb_ (by repeat (first | (with_reducible exact HR208.out) | (with_reducible refine ca_ ?_ _) | (with_reducible refine cn_ ?_ _) | (with_reducible refine cd_ ?_) | exact HR208.out)) hb); have n5_ := am_ (bt_ (by repeat (first | (with_reducible first | exact HB.out | apply ba_ | apply bn_ | apply bd_ | refine bs_ ?_ GE184.out | refine bs_ ?_ GE200.out) | exact HB.out)) hb); have n6_ := am_ (hbox); have n7_ := am_ ((by rw [hg]; exact (bz_ (by repeat (first | (with_reducible first | exact HB.out | apply ba_ | apply bn_ | apply bd_ | refine bs_ ?_ GE184.out | refine bs_ ?_ GE200.out) | exact HB.out))) : w.heap.size ≤ gb215)); have n8_ := am_ ((by rw [hg]; exact (bz_ (by repeat (first | (with_reducible first | exact HB.out | apply ba_ | apply bn_ | apply bd_ | refine bs_ ?_ GE184.out | refine bs_ ?_ GE200.out) | exact HB.out))) : w.heap.size ≤ gb215)); have n9_ := am_ ((by rw [hg]; exact nl_ (blk_lt (g := gb184) (o := .cells #[.slice A0_0 l0_0.length c0_0, .slice A0_1 l0_1.length c0_1] 44 (0, 0)) (by (with_reducible repeat (first | refine kn_ ?_ _ | refine kd_ ?_ | refine ka_ ?_ _)); exact BK184.out)) : gb184 ≠ gb215)); have n10_ := am_ ((by rw [hg]; exact Nat.ne_of_gt (blk_lt (g := gb184) (o := .cells #[.slice A0_0 l0_0.length c0_0, .slice A0_1 l0_1.length c0_1] 44 (0, 0)) (by (with_reducible repeat (first | refine kn_ ?_ _ | refine kd_ ?_ | refine ka_ ?_ _)); exact BK184.out)) : gb215 ≠ gb184)); have n11_ := am_ ((by rw [hg]; exact nl_ (blk_lt (g := gb200) (o := .cells #[.string t194, .bool t195] 25 (0, 0)) (by (with_reducible repeat (first | refine kn_ ?_ _ | refine kd_ ?_ | refine ka_ ?_ _)); exact BK200.out)) : gb200 ≠ gb215)); have n12_ := am_ ((by rw [hg]; exact Nat.ne_of_gt (blk_lt (g := gb200) (o := .cells #[.string t194, .bool t195] 25 (0, 0)) (by (with_reducible repeat (first | refine kn_ ?_ _ | refine kd_ ?_ | refine ka_ ?_ _)); exact BK200.out)) : gb215 ≠ gb200)); clear HO_7; clear HO213; clear BK184; clear BK200; clear HR208; clear HB; have HO_7 := n0_; have HO213 := n1_; have BK184 := n2_; have BK200 := n3_; have HR208 := n4_; have HB := n5_; have BK215 := n6_; have GW215 := n7_; have GE215 := n8_; have NB184_215 := n9_; have NB215_184 := n10_; have NB200_215 := n11_; have NB215_200 := n12_; clear n0_ n1_ n2_ n3_ n4_ n5_ n6_ n7_ n8_ n9_ n10_ n11_ n12_; clear hb hbox hg; have hnb59 := NB215_184.out; have hnc59 := NB184_215.out; have hnb60 := NB215_200.out; have hnc60 := NB200_215.out; have hcz61_0 : w58.cell? ⟨gb215, 0, none⟩ = some (.string (⟨#[]⟩ : ByteArray)) := (blk_cell BK215.out 0).trans rfl; have hcz61_1 : w58.cell? ⟨gb215, 1, none⟩ = some (.bool false) := (blk_cell BK215.out 1).trans rfl; have hfz61_0 := blk_frozen BK215.out 0; have hfz61_1 := blk_frozen BK215.out 1) | ((with_reducible refine gate_callee (f := 11) rfl ?_); refine goesL_ (some 98) rfl rfl Try.func11 (by kernel_rfl) rfl #[.int .i64 t214] rfl (by (try simp only [m1_, m2_, m3_]); first | done | rfl | (simp only [m4_, m5_]; rfl)) ?_; (with_reducible refine (pouchlaw1_num.calls t214 t216 _ A52.out).mono ?_); rintro e w' ⟨rfl, ⟨nd, rfl⟩⟩; refine ⟨_, rfl, ?_⟩; obtain ⟨Ao62, co62, eo62⟩ := Kd.R_slice HO213.out; subst eo62))
                      go_ret
                      exact ⟨by first | rfl | (simp [errW_none, errW_some] <;> rfl) | (simp only [← hji17, ← hji48]; first | rfl | (simp [errW_none, errW_some] <;> rfl)) | (simp [*, errW_none, errW_some] <;> rfl), by repeat (first | (with_reducible first | exact HB.out | apply ba_ | apply bn_ | apply bd_ | refine bs_ ?_ GE184.out | refine bs_ ?_ GE200.out | refine bs_ ?_ GE215.out) | exact HB.out)⟩
                     ·
                      rw [if_neg c55] at H
                      have c55b0 : (t210 != (decide ((ji48) ≥ 512))) = false := by simpa using c55
                      (try (have c55b1 : decide (t210 = (decide ((ji48) ≥ 512))) = true := by simpa using c55))
                      (try (have c55b2 : (t210 == (decide ((ji48) ≥ 512))) = true := by simpa using c55))
                      (try (have c55b3 : (t210 = (decide (512 ≤ (ji48)))) = True := eq_true (by simpa using c55)))
                      clear c55
                      have H' := am_ H
                      clear H
                      have q63 : ((ji48) : Int) ≤ ((y191.length : Int) : Int) := od_ (by first | (with_reducible assumption) | assumption)
                      obtain ⟨i063, hi063, _, hsz63, _⟩ := info_parts info5
                      have hroom63 : y191.length ≤ co27 := (Kd.R_reads' HO_7.out).2.1
                      have hC63 : Kd.C (Kd.int .u8) _ Ao27 y191.length y191 := (Kd.R_reads' HO_7.out).2.2
                      have hcut63 := cut_to (P := Try.prog) 26 5 .i64 Try.underlying26 hi063 Ao27 y191.length co27 (ji48) (od_ (by first | (with_reducible assumption) | assumption)) q63 hroom63
                      have hr63 := Kd.C_take (m := ((ji48) : Int).toNat) hC63 (by omega)
                      have hy63 : y205.length = ((ji48) : Int).toNat := (by rw [Ny205.out, m5_]; omega)
                      rw [← Ny205.out] at hr63
                      rw [← hy63] at hcut63
                      have HR208 := am_ hr63
                      have HC208 := am_ (show y205.length ≤ co27 from by omega)
                      clear hr63 hC63 hroom63 hi063 hsz63
                      have KY63 := am_ hy63
                      clear hy63
                      have KL63 := am_ (show ((ji48) : Int).toNat ≤ y191.length from by omega)
                      replace q63 := eq_true q63
                      go_wp2_with (first | ((with_reducible refine gate_callee (f := 9) rfl ?_); refine goesL_ (some 93) rfl rfl Try.func9 (by kernel_rfl) rfl #[.agg #[.string (⟨#[]⟩ : ByteArray), .bool false], .slice Ao27 y205.length co27] rfl (by (try simp only [m1_, m2_, m3_]); first | done | rfl | (simp only [m4_, m5_]; rfl)) ?_; (with_reducible refine (frame_Feed.calls kj22 (⟨#[]⟩ : ByteArray) false _ _ y205 t209 t210 t211 t214 _ ?side1 ?side2 ?side3 A51.out).mono ?_); (case side1 => repeat (first | exact (by repeat (first | (with_reducible exact HR208.out) | (with_reducible refine ca_ ?_ _) | (with_reducible refine cn_ ?_ _) | (with_reducible refine cd_ ?_) | exact HR208.out)) | (with_reducible refine ca_ ?_ _) | (with_reducible refine cn_ ?_ _) | (with_reducible refine cd_ ?_))); (case side2 => exact HC208.out); (case side3 => exact GrOk.below hG (by repeat (first | (with_reducible first | exact HB.out | apply ba_ | apply bn_ | apply bd_ | refine bs_ ?_ GE184.out | refine bs_ ?_ GE200.out) | exact HB.out))); rintro e w64 ⟨v212, rfl, ho0, hb⟩; refine ⟨_, rfl, ?_⟩; have n0_ := am_ (rb_ (by (with_reducible repeat (first | apply ra_ | apply rn_ | apply re_)); exact HO_7.out) hb); have n1_ := am_ (Kd.R_lower ho0 (bz_ (by repeat (first | (with_reducible first | exact HB.out | apply ba_ | apply bn_ | apply bd_ | refine bs_ ?_ GE184.out | refine bs_ ?_ GE200.out) | exact HB.out)))); have n2_ := am_ (bb_ (g := gb184) (o := .cells #[.slice A0_0 l0_0.length c0_0, .slice A0_1 l0_1.length c0_1] 44 (0, 0)) (by (with_reducible repeat (first | refine kn_ ?_ _ | refine kd_ ?_ | refine ka_ ?_ _)); exact BK184.out) hb); have n3_ := am_ (bb_ (g := gb200) (o := .cells #[.string t194, .bool t195] 25 (0, 0)) (by (with_reducible repeat (first | refine kn_ ?_ _ | refine kd_ ?_ | refine ka_ ?_ _)); exact BK200.out) hb); have n4_ := am_ (cb_ (by repeat (first | (with_reducible exact HR208.out) | (with_reducible refine ca_ ?_ _) | (with_reducible refine cn_ ?_ _) | (with_reducible refine cd_ ?_) | exact HR208.out)) hb); have n5_ := am_ (bt_ (by repeat (first | (with_reducible first | exact HB.out | apply ba_ | apply bn_ | apply bd_ | refine bs_ ?_ GE184.out | refine bs_ ?_ GE200.out) | exact HB.out)) hb); clear HO_7; clear BK184; clear BK200; clear HR208; clear HB; have HO_7 := n0_; have HO213 := n1_; have BK184 := n2_; have BK200 := n3_; have HR208 := n4_; have HB := n5_; clear n0_ n1_ n2_ n3_ n4_ n5_; (try clear hb); (try clear hb2); (try clear hk); (try clear hi); (try clear ho0)) | ((with_reducible refine gate_dst (N := 12) rfl ?_); (try (refine gate_guard (by rfl) ?_; dsimp only)); refine box_event ?hg (N := 12) ?hd (cs := #[.string (⟨#[]⟩ : ByteArray), .bool false]) (t := 25) ?hr ?_; (case hd => rfl); (case hg => rfl); (case hr => first | (go_simp; done) | (go_simp; rfl)); intro gb215 hg w65 hbox hb; have n0_ := am_ (rb_ (by (with_reducible repeat (first | apply ra_ | apply rn_ | apply re_)); exact HO_7.out) hb); have n1_ := am_ (rb_ (by (with_reducible repeat (first | apply ra_ | apply rn_ | apply re_)); exact HO213.out) hb); have n2_ := am_ (bb_ (g := gb184) (o := .cells #[.slice A0_0 l0_0.length c0_0, .slice A0_1 l0_1.length c0_1] 44 (0, 0)) (by (with_reducible repeat (first | refine kn_ ?_ _ | refine kd_ ?_ | refine ka_ ?_ _)); exact BK184.out) hb); have n3_ := am_ (bb_ (g := gb200) (o := .cells #[.string t194, .bool t195] 25 (0, 0)) (by (with_reducible repeat (first | refine kn_ ?_ _ | refine kd_ ?_ | refine ka_ ?_ _)); exact BK200.out) hb); have n4_ := am_ (cb_ (by repeat (first | (with_reducible exact HR208.out) | (with_reducible refine ca_ ?_ _) | (with_reducible refine cn_ ?_ _) | (with_reducible refine cd_ ?_) | exact HR208.out)) hb); have n5_ := am_ (bt_ (by repeat (first | (with_reducible first | exact HB.out | apply ba_ | apply bn_ | apply bd_ | refine bs_ ?_ GE184.out | refine bs_ ?_ GE200.out) | exact HB.out)) hb); have n6_ := am_ (hbox); have n7_ := am_ ((by rw [hg]; exact (bz_ (by repeat (first | (with_reducible first | exact HB.out | apply ba_ | apply bn_ | apply bd_ | refine bs_ ?_ GE184.out | refine bs_ ?_ GE200.out) | exact HB.out))) : w.heap.size ≤ gb215)); have n8_ := am_ ((by rw [hg]; exact (bz_ (by repeat (first | (with_reducible first | exact HB.out | apply ba_ | apply bn_ | apply bd_ | refine bs_ ?_ GE184.out | refine bs_ ?_ GE200.out) | exact HB.out))) : w.heap.size ≤ gb215)); have n9_ := am_ ((by rw [hg]; exact nl_ (blk_lt (g := gb184) (o := .cells #[.slice A0_0 l0_0.length c0_0, .slice A0_1 l0_1.length c0_1] 44 (0, 0)) (by (with_reducible repeat (first | refine kn_ ?_ _ | refine kd_ ?_ | refine ka_ ?_ _)); exact BK184.out)) : gb184 ≠ gb215)); have n10_ := am_ ((by rw [hg]; exact Nat.ne_of_gt (blk_lt (g := gb184) (o := .cells #[.slice A0_0 l0_0.length c0_0, .slice A0_1 l0_1.length c0_1] 44 (0, 0)) (by (with_reducible repeat (first | refine kn_ ?_ _ | refine kd_ ?_ | refine ka_ ?_ _)); exact BK184.out)) : gb215 ≠ gb184)); have n11_ := am_ ((by rw [hg]; exact nl_ (blk_lt (g := gb200) (o := .cells #[.string t194, .bool t195] 25 (0, 0)) (by (with_reducible repeat (first | refine kn_ ?_ _ | refine kd_ ?_ | refine ka_ ?_ _)); exact BK200.out)) : gb200 ≠ gb215)); have n12_ := am_ ((by rw [hg]; exact Nat.ne_of_gt (blk_lt (g := gb200) (o := .cells #[.string t194, .bool t195] 25 (0, 0)) (by (with_reducible repeat (first | refine kn_ ?_ _ | refine kd_ ?_ | refine ka_ ?_ _)); exact BK200.out)) : gb215 ≠ gb200)); clear HO_7; clear HO213; clear BK184; clear BK200; clear HR208; clear HB; have HO_7 := n0_; have HO213 := n1_; have BK184 := n2_; have BK200 := n3_; have HR208 := n4_; have HB := n5_; have BK215 := n6_; have GW215 := n7_; have GE215 := n8_; have NB184_215 := n9_; have NB215_184 := n10_; have NB200_215 := n11_; have NB215_200 := n12_; clear n0_ n1_ n2_ n3_ n4_ n5_ n6_ n7_ n8_ n9_ n10_ n11_ n12_; clear hb hbox hg; have hnb66 := NB215_184.out; have hnc66 := NB184_215.out; have hnb67 := NB215_200.out; have hnc67 := NB200_215.out; have hcz68_0 : w65.cell? ⟨gb215, 0, none⟩ = some (.string (⟨#[]⟩ : ByteArray)) := (blk_cell BK215.out 0).trans rfl; have hcz68_1 : w65.cell? ⟨gb215, 1, none⟩ = some (.bool false) := (blk_cell BK215.out 1).trans rfl; have hfz68_0 := blk_frozen BK215.out 0; have hfz68_1 := blk_frozen BK215.out 1) | ((with_reducible refine gate_callee (f := 11) rfl ?_); refine goesL_ (some 98) rfl rfl Try.func11 (by kernel_rfl) rfl #[.int .i64 t214] rfl (by (try simp only [m1_, m2_, m3_]); first | done | rfl | (simp only [m4_, m5_]; rfl)) ?_; (with_reducible refine (pouchlaw1_num.calls t214 t216 _ A52.out).mono ?_); rintro e w' ⟨rfl, ⟨nd, rfl⟩⟩; refine ⟨_, rfl, ?_⟩; obtain ⟨Ao69, co69, eo69⟩ := Kd.R_slice HO213.out; subst eo69))
                      go_roundg kj22
                      case measure => have := HK1.out; have := HK2.out; have := HJ13.out; have := HJ22.out; omega
                      case rel => exact ⟨(ji48), (by first | rfl | (simp; done) | (simp only [← hji48] <;> (first | rfl | simp)) | (simp [*]; done)), H', ⟨by have := HK1.out; have := HK2.out; have := HJ13.out; have := HJ22.out; omega⟩, ⟨by (with_reducible repeat (first | refine kn_ ?_ _ | refine kd_ ?_ | refine ka_ ?_ _)); refine blk_far ?_ NB184_215.out _; (with_reducible repeat (first | refine kn_ ?_ _ | refine kd_ ?_ | refine ka_ ?_ _)); refine blk_far ?_ NB184_215.out _; (with_reducible repeat (first | refine kn_ ?_ _ | refine kd_ ?_ | refine ka_ ?_ _)); exact BK184.out⟩, ⟨by repeat (first | (with_reducible first | exact HB.out | apply ba_ | apply bn_ | apply bd_ | refine bs_ ?_ GE184.out | refine bs_ ?_ GE200.out | refine bs_ ?_ GE215.out) | exact HB.out)⟩⟩
                    ·
                     rw [if_neg c54] at H
                     have c54b0 : ((t211.length : Int) == 0) = false := beq_eq_false_iff_ne.mpr c54
                     have c54b1 : ((t211.length : Int) != 0) = true := bne_iff_ne.mpr c54
                     have c54b2 : ¬ (t211 = []) := fun h_ => c54 (by rw [h_]; rfl)
                     obtain rfl := Option.some.inj H
                     have q70 : ((ji48) : Int) ≤ ((y191.length : Int) : Int) := od_ (by first | (with_reducible assumption) | assumption)
                     obtain ⟨i070, hi070, _, hsz70, _⟩ := info_parts info5
                     have hroom70 : y191.length ≤ co27 := (Kd.R_reads' HO_7.out).2.1
                     have hC70 : Kd.C (Kd.int .u8) _ Ao27 y191.length y191 := (Kd.R_reads' HO_7.out).2.2
                     have hcut70 := cut_to (P := Try.prog) 26 5 .i64 Try.underlying26 hi070 Ao27 y191.length co27 (ji48) (od_ (by first | (with_reducible assumption) | assumption)) q70 hroom70
                     have hr70 := Kd.C_take (m := ((ji48) : Int).toNat) hC70 (by omega)
                     have hy70 : y205.length = ((ji48) : Int).toNat := (by rw [Ny205.out, m5_]; omega)
                     rw [← Ny205.out] at hr70
                     rw [← hy70] at hcut70
                     have HR208 := am_ hr70
                     have HC208 := am_ (show y205.length ≤ co27 from by omega)
                     clear hr70 hC70 hroom70 hi070 hsz70
                     have KY70 := am_ hy70
                     clear hy70
                     have KL70 := am_ (show ((ji48) : Int).toNat ≤ y191.length from by omega)
                     replace q70 := eq_true q70
                     go_wp2_with (first | ((with_reducible refine gate_callee (f := 9) rfl ?_); refine goesL_ (some 93) rfl rfl Try.func9 (by kernel_rfl) rfl #[.agg #[.string (⟨#[]⟩ : ByteArray), .bool false], .slice Ao27 y205.length co27] rfl (by (try simp only [m1_, m2_, m3_]); first | done | rfl | (simp only [m4_, m5_]; rfl)) ?_; (with_reducible refine (frame_Feed.calls kj22 (⟨#[]⟩ : ByteArray) false _ _ y205 t209 t210 t211 t214 _ ?side1 ?side2 ?side3 A51.out).mono ?_); (case side1 => repeat (first | exact (by repeat (first | (with_reducible exact HR208.out) | (with_reducible refine ca_ ?_ _) | (with_reducible refine cn_ ?_ _) | (with_reducible refine cd_ ?_) | exact HR208.out)) | (with_reducible refine ca_ ?_ _) | (with_reducible refine cn_ ?_ _) | (with_reducible refine cd_ ?_))); (case side2 => exact HC208.out); (case side3 => exact GrOk.below hG (by repeat (first | (with_reducible first | exact HB.out | apply ba_ | apply bn_ | apply bd_ | refine bs_ ?_ GE184.out | refine bs_ ?_ GE200.out) | exact HB.out))); rintro e w71 ⟨v212, rfl, ho0, hb⟩; refine ⟨_, rfl, ?_⟩; have n0_ := am_ (rb_ (by (with_reducible repeat (first | apply ra_ | apply rn_ | apply re_)); exact HO_7.out) hb); have n1_ := am_ (Kd.R_lower ho0 (bz_ (by repeat (first | (with_reducible first | exact HB.out | apply ba_ | apply bn_ | apply bd_ | refine bs_ ?_ GE184.out | refine bs_ ?_ GE200.out) | exact HB.out)))); have n2_ := am_ (bb_ (g := gb184) (o := .cells #[.slice A0_0 l0_0.length c0_0, .slice A0_1 l0_1.length c0_1] 44 (0, 0)) (by (with_reducible repeat (first | refine kn_ ?_ _ | refine kd_ ?_ | refine ka_ ?_ _)); exact BK184.out) hb); have n3_ := am_ (bb_ (g := gb200) (o := .cells #[.string t194, .bool t195] 25 (0, 0)) (by (with_reducible repeat (first | refine kn_ ?_ _ | refine kd_ ?_ | refine ka_ ?_ _)); exact BK200.out) hb); have n4_ := am_ (cb_ (by repeat (first | (with_reducible exact HR208.out) | (with_reducible refine ca_ ?_ _) | (with_reducible refine cn_ ?_ _) | (with_reducible refine cd_ ?_) | exact HR208.out)) hb); have n5_ := am_ (bt_ (by repeat (first | (with_reducible first | exact HB.out | apply ba_ | apply bn_ | apply bd_ | refine bs_ ?_ GE184.out | refine bs_ ?_ GE200.out) | exact HB.out)) hb); clear HO_7; clear BK184; clear BK200; clear HR208; clear HB; have HO_7 := n0_; have HO213 := n1_; have BK184 := n2_; have BK200 := n3_; have HR208 := n4_; have HB := n5_; clear n0_ n1_ n2_ n3_ n4_ n5_; (try clear hb); (try clear hb2); (try clear hk); (try clear hi); (try clear ho0)) | ((with_reducible refine gate_dst (N := 12) rfl ?_); (try (refine gate_guard (by rfl) ?_; dsimp only)); refine box_event ?hg (N := 12) ?hd (cs := #[.string (⟨#[]⟩ : ByteArray), .bool false]) (t := 25) ?hr ?_; (case hd => rfl); (case hg => rfl); (case hr => first | (go_simp; done) | (go_simp; rfl)); intro gb215 hg w72 hbox hb; have n0_ := am_ (rb_ (by (with_reducible repeat (first | apply ra_ | apply rn_ | apply re_)); exact HO_7.out) hb); have n1_ := am_ (rb_ (by (with_reducible repeat (first | apply ra_ | apply rn_ | apply re_)); exact HO213.out) hb); have n2_ := am_ (bb_ (g := gb184) (o := .cells #[.slice A0_0 l0_0.length c0_0, .slice A0_1 l0_1.length c0_1] 44 (0, 0)) (by (with_reducible repeat (first | refine kn_ ?_ _ | refine kd_ ?_ | refine ka_ ?_ _)); exact BK184.out) hb); have n3_ := am_ (bb_ (g := gb200) (o := .cells #[.string t194, .bool t195] 25 (0, 0)) (by (with_reducible repeat (first | refine kn_ ?_ _ | refine kd_ ?_ | refine ka_ ?_ _)); exact BK200.out) hb); have n4_ := am_ (cb_ (by repeat (first | (with_reducible exact HR208.out) | (with_reducible refine ca_ ?_ _) | (with_reducible refine cn_ ?_ _) | (with_reducible refine cd_ ?_) | exact HR208.out)) hb); have n5_ := am_ (bt_ (by repeat (first | (with_reducible first | exact HB.out | apply ba_ | apply bn_ | apply bd_ | refine bs_ ?_ GE184.out | refine bs_ ?_ GE200.out) | exact HB.out)) hb); have n6_ := am_ (hbox); have n7_ := am_ ((by rw [hg]; exact (bz_ (by repeat (first | (with_reducible first | exact HB.out | apply ba_ | apply bn_ | apply bd_ | refine bs_ ?_ GE184.out | refine bs_ ?_ GE200.out) | exact HB.out))) : w.heap.size ≤ gb215)); have n8_ := am_ ((by rw [hg]; exact (bz_ (by repeat (first | (with_reducible first | exact HB.out | apply ba_ | apply bn_ | apply bd_ | refine bs_ ?_ GE184.out | refine bs_ ?_ GE200.out) | exact HB.out))) : w.heap.size ≤ gb215)); have n9_ := am_ ((by rw [hg]; exact nl_ (blk_lt (g := gb184) (o := .cells #[.slice A0_0 l0_0.length c0_0, .slice A0_1 l0_1.length c0_1] 44 (0, 0)) (by (with_reducible repeat (first | refine kn_ ?_ _ | refine kd_ ?_ | refine ka_ ?_ _)); exact BK184.out)) : gb184 ≠ gb215)); have n10_ := am_ ((by rw [hg]; exact Nat.ne_of_gt (blk_lt (g := gb184) (o := .cells #[.slice A0_0 l0_0.length c0_0, .slice A0_1 l0_1.length c0_1] 44 (0, 0)) (by (with_reducible repeat (first | refine kn_ ?_ _ | refine kd_ ?_ | refine ka_ ?_ _)); exact BK184.out)) : gb215 ≠ gb184)); have n11_ := am_ ((by rw [hg]; exact nl_ (blk_lt (g := gb200) (o := .cells #[.string t194, .bool t195] 25 (0, 0)) (by (with_reducible repeat (first | refine kn_ ?_ _ | refine kd_ ?_ | refine ka_ ?_ _)); exact BK200.out)) : gb200 ≠ gb215)); have n12_ := am_ ((by rw [hg]; exact Nat.ne_of_gt (blk_lt (g := gb200) (o := .cells #[.string t194, .bool t195] 25 (0, 0)) (by (with_reducible repeat (first | refine kn_ ?_ _ | refine kd_ ?_ | refine ka_ ?_ _)); exact BK200.out)) : gb215 ≠ gb200)); clear HO_7; clear HO213; clear BK184; clear BK200; clear HR208; clear HB; have HO_7 := n0_; have HO213 := n1_; have BK184 := n2_; have BK200 := n3_; have HR208 := n4_; have HB := n5_; have BK215 := n6_; have GW215 := n7_; have GE215 := n8_; have NB184_215 := n9_; have NB215_184 := n10_; have NB200_215 := n11_; have NB215_200 := n12_; clear n0_ n1_ n2_ n3_ n4_ n5_ n6_ n7_ n8_ n9_ n10_ n11_ n12_; clear hb hbox hg; have hnb73 := NB215_184.out; have hnc73 := NB184_215.out; have hnb74 := NB215_200.out; have hnc74 := NB200_215.out; have hcz75_0 : w72.cell? ⟨gb215, 0, none⟩ = some (.string (⟨#[]⟩ : ByteArray)) := (blk_cell BK215.out 0).trans rfl; have hcz75_1 : w72.cell? ⟨gb215, 1, none⟩ = some (.bool false) := (blk_cell BK215.out 1).trans rfl; have hfz75_0 := blk_frozen BK215.out 0; have hfz75_1 := blk_frozen BK215.out 1) | ((with_reducible refine gate_callee (f := 11) rfl ?_); refine goesL_ (some 98) rfl rfl Try.func11 (by kernel_rfl) rfl #[.int .i64 t214] rfl (by (try simp only [m1_, m2_, m3_]); first | done | rfl | (simp only [m4_, m5_]; rfl)) ?_; (with_reducible refine (pouchlaw1_num.calls t214 t216 _ A52.out).mono ?_); rintro e w' ⟨rfl, ⟨nd, rfl⟩⟩; refine ⟨_, rfl, ?_⟩; obtain ⟨Ao76, co76, eo76⟩ := Kd.R_slice HO213.out; subst eo76))
                     go_ret
                     exact ⟨by first | rfl | (simp [errW_none, errW_some] <;> rfl) | (simp only [← hji17, ← hji48]; first | rfl | (simp [errW_none, errW_some] <;> rfl)) | (simp [*, errW_none, errW_some] <;> rfl), by repeat (first | (with_reducible first | exact HB.out | apply ba_ | apply bn_ | apply bd_ | refine bs_ ?_ GE184.out | refine bs_ ?_ GE200.out | refine bs_ ?_ GE215.out) | exact HB.out)⟩
                   ·
                    rw [if_neg c53] at H
                    have c53b0 : (t216 == 0) = false := beq_eq_false_iff_ne.mpr c53
                    have c53b1 : (t216 != 0) = true := bne_iff_ne.mpr c53
                    obtain rfl := Option.some.inj H
                    have q77 : ((ji48) : Int) ≤ ((y191.length : Int) : Int) := od_ (by first | (with_reducible assumption) | assumption)
                    obtain ⟨i077, hi077, _, hsz77, _⟩ := info_parts info5
                    have hroom77 : y191.length ≤ co27 := (Kd.R_reads' HO_7.out).2.1
                    have hC77 : Kd.C (Kd.int .u8) _ Ao27 y191.length y191 := (Kd.R_reads' HO_7.out).2.2
                    have hcut77 := cut_to (P := Try.prog) 26 5 .i64 Try.underlying26 hi077 Ao27 y191.length co27 (ji48) (od_ (by first | (with_reducible assumption) | assumption)) q77 hroom77
                    have hr77 := Kd.C_take (m := ((ji48) : Int).toNat) hC77 (by omega)
                    have hy77 : y205.length = ((ji48) : Int).toNat := (by rw [Ny205.out, m5_]; omega)
                    rw [← Ny205.out] at hr77
                    rw [← hy77] at hcut77
                    have HR208 := am_ hr77
                    have HC208 := am_ (show y205.length ≤ co27 from by omega)
                    clear hr77 hC77 hroom77 hi077 hsz77
                    have KY77 := am_ hy77
                    clear hy77
                    have KL77 := am_ (show ((ji48) : Int).toNat ≤ y191.length from by omega)
                    replace q77 := eq_true q77
                    go_wp2_with (first | ((with_reducible refine gate_callee (f := 9) rfl ?_); refine goesL_ (some 93) rfl rfl Try.func9 (by kernel_rfl) rfl #[.agg #[.string (⟨#[]⟩ : ByteArray), .bool false], .slice Ao27 y205.length co27] rfl (by (try simp only [m1_, m2_, m3_]); first | done | rfl | (simp only [m4_, m5_]; rfl)) ?_; (with_reducible refine (frame_Feed.calls kj22 (⟨#[]⟩ : ByteArray) false _ _ y205 t209 t210 t211 t214 _ ?side1 ?side2 ?side3 A51.out).mono ?_); (case side1 => repeat (first | exact (by repeat (first | (with_reducible exact HR208.out) | (with_reducible refine ca_ ?_ _) | (with_reducible refine cn_ ?_ _) | (with_reducible refine cd_ ?_) | exact HR208.out)) | (with_reducible refine ca_ ?_ _) | (with_reducible refine cn_ ?_ _) | (with_reducible refine cd_ ?_))); (case side2 => exact HC208.out); (case side3 => exact GrOk.below hG (by repeat (first | (with_reducible first | exact HB.out | apply ba_ | apply bn_ | apply bd_ | refine bs_ ?_ GE184.out | refine bs_ ?_ GE200.out) | exact HB.out))); rintro e w78 ⟨v212, rfl, ho0, hb⟩; refine ⟨_, rfl, ?_⟩; have n0_ := am_ (rb_ (by (with_reducible repeat (first | apply ra_ | apply rn_ | apply re_)); exact HO_7.out) hb); have n1_ := am_ (Kd.R_lower ho0 (bz_ (by repeat (first | (with_reducible first | exact HB.out | apply ba_ | apply bn_ | apply bd_ | refine bs_ ?_ GE184.out | refine bs_ ?_ GE200.out) | exact HB.out)))); have n2_ := am_ (bb_ (g := gb184) (o := .cells #[.slice A0_0 l0_0.length c0_0, .slice A0_1 l0_1.length c0_1] 44 (0, 0)) (by (with_reducible repeat (first | refine kn_ ?_ _ | refine kd_ ?_ | refine ka_ ?_ _)); exact BK184.out) hb); have n3_ := am_ (bb_ (g := gb200) (o := .cells #[.string t194, .bool t195] 25 (0, 0)) (by (with_reducible repeat (first | refine kn_ ?_ _ | refine kd_ ?_ | refine ka_ ?_ _)); exact BK200.out) hb); have n4_ := am_ (cb_ (by repeat (first | (with_reducible exact HR208.out) | (with_reducible refine ca_ ?_ _) | (with_reducible refine cn_ ?_ _) | (with_reducible refine cd_ ?_) | exact HR208.out)) hb); have n5_ := am_ (bt_ (by repeat (first | (with_reducible first | exact HB.out | apply ba_ | apply bn_ | apply bd_ | refine bs_ ?_ GE184.out | refine bs_ ?_ GE200.out) | exact HB.out)) hb); clear HO_7; clear BK184; clear BK200; clear HR208; clear HB; have HO_7 := n0_; have HO213 := n1_; have BK184 := n2_; have BK200 := n3_; have HR208 := n4_; have HB := n5_; clear n0_ n1_ n2_ n3_ n4_ n5_; (try clear hb); (try clear hb2); (try clear hk); (try clear hi); (try clear ho0)) | ((with_reducible refine gate_dst (N := 12) rfl ?_); (try (refine gate_guard (by rfl) ?_; dsimp only)); refine box_event ?hg (N := 12) ?hd (cs := #[.string (⟨#[]⟩ : ByteArray), .bool false]) (t := 25) ?hr ?_; (case hd => rfl); (case hg => rfl); (case hr => first | (go_simp; done) | (go_simp; rfl)); intro gb215 hg w79 hbox hb; have n0_ := am_ (rb_ (by (with_reducible repeat (first | apply ra_ | apply rn_ | apply re_)); exact HO_7.out) hb); have n1_ := am_ (rb_ (by (with_reducible repeat (first | apply ra_ | apply rn_ | apply re_)); exact HO213.out) hb); have n2_ := am_ (bb_ (g := gb184) (o := .cells #[.slice A0_0 l0_0.length c0_0, .slice A0_1 l0_1.length c0_1] 44 (0, 0)) (by (with_reducible repeat (first | refine kn_ ?_ _ | refine kd_ ?_ | refine ka_ ?_ _)); exact BK184.out) hb); have n3_ := am_ (bb_ (g := gb200) (o := .cells #[.string t194, .bool t195] 25 (0, 0)) (by (with_reducible repeat (first | refine kn_ ?_ _ | refine kd_ ?_ | refine ka_ ?_ _)); exact BK200.out) hb); have n4_ := am_ (cb_ (by repeat (first | (with_reducible exact HR208.out) | (with_reducible refine ca_ ?_ _) | (with_reducible refine cn_ ?_ _) | (with_reducible refine cd_ ?_) | exact HR208.out)) hb); have n5_ := am_ (bt_ (by repeat (first | (with_reducible first | exact HB.out | apply ba_ | apply bn_ | apply bd_ | refine bs_ ?_ GE184.out | refine bs_ ?_ GE200.out) | exact HB.out)) hb); have n6_ := am_ (hbox); have n7_ := am_ ((by rw [hg]; exact (bz_ (by repeat (first | (with_reducible first | exact HB.out | apply ba_ | apply bn_ | apply bd_ | refine bs_ ?_ GE184.out | refine bs_ ?_ GE200.out) | exact HB.out))) : w.heap.size ≤ gb215)); have n8_ := am_ ((by rw [hg]; exact (bz_ (by repeat (first | (with_reducible first | exact HB.out | apply ba_ | apply bn_ | apply bd_ | refine bs_ ?_ GE184.out | refine bs_ ?_ GE200.out) | exact HB.out))) : w.heap.size ≤ gb215)); have n9_ := am_ ((by rw [hg]; exact nl_ (blk_lt (g := gb184) (o := .cells #[.slice A0_0 l0_0.length c0_0, .slice A0_1 l0_1.length c0_1] 44 (0, 0)) (by (with_reducible repeat (first | refine kn_ ?_ _ | refine kd_ ?_ | refine ka_ ?_ _)); exact BK184.out)) : gb184 ≠ gb215)); have n10_ := am_ ((by rw [hg]; exact Nat.ne_of_gt (blk_lt (g := gb184) (o := .cells #[.slice A0_0 l0_0.length c0_0, .slice A0_1 l0_1.length c0_1] 44 (0, 0)) (by (with_reducible repeat (first | refine kn_ ?_ _ | refine kd_ ?_ | refine ka_ ?_ _)); exact BK184.out)) : gb215 ≠ gb184)); have n11_ := am_ ((by rw [hg]; exact nl_ (blk_lt (g := gb200) (o := .cells #[.string t194, .bool t195] 25 (0, 0)) (by (with_reducible repeat (first | refine kn_ ?_ _ | refine kd_ ?_ | refine ka_ ?_ _)); exact BK200.out)) : gb200 ≠ gb215)); have n12_ := am_ ((by rw [hg]; exact Nat.ne_of_gt (blk_lt (g := gb200) (o := .cells #[.string t194, .bool t195] 25 (0, 0)) (by (with_reducible repeat (first | refine kn_ ?_ _ | refine kd_ ?_ | refine ka_ ?_ _)); exact BK200.out)) : gb215 ≠ gb200)); clear HO_7; clear HO213; clear BK184; clear BK200; clear HR208; clear HB; have HO_7 := n0_; have HO213 := n1_; have BK184 := n2_; have BK200 := n3_; have HR208 := n4_; have HB := n5_; have BK215 := n6_; have GW215 := n7_; have GE215 := n8_; have NB184_215 := n9_; have NB215_184 := n10_; have NB200_215 := n11_; have NB215_200 := n12_; clear n0_ n1_ n2_ n3_ n4_ n5_ n6_ n7_ n8_ n9_ n10_ n11_ n12_; clear hb hbox hg; have hnb80 := NB215_184.out; have hnc80 := NB184_215.out; have hnb81 := NB215_200.out; have hnc81 := NB200_215.out; have hcz82_0 : w79.cell? ⟨gb215, 0, none⟩ = some (.string (⟨#[]⟩ : ByteArray)) := (blk_cell BK215.out 0).trans rfl; have hcz82_1 : w79.cell? ⟨gb215, 1, none⟩ = some (.bool false) := (blk_cell BK215.out 1).trans rfl; have hfz82_0 := blk_frozen BK215.out 0; have hfz82_1 := blk_frozen BK215.out 1) | ((with_reducible refine gate_callee (f := 11) rfl ?_); refine goesL_ (some 98) rfl rfl Try.func11 (by kernel_rfl) rfl #[.int .i64 t214] rfl (by (try simp only [m1_, m2_, m3_]); first | done | rfl | (simp only [m4_, m5_]; rfl)) ?_; (with_reducible refine (pouchlaw1_num.calls t214 t216 _ A52.out).mono ?_); rintro e w' ⟨rfl, ⟨nd, rfl⟩⟩; refine ⟨_, rfl, ?_⟩))
                    go_ret
                    exact ⟨by first | rfl | (simp [errW_none, errW_some] <;> rfl) | (simp only [← hji17, ← hji48]; first | rfl | (simp [errW_none, errW_some] <;> rfl)) | (simp [*, errW_none, errW_some] <;> rfl), by repeat (first | (with_reducible first | exact HB.out | apply ba_ | apply bn_ | apply bd_ | refine bs_ ?_ GE184.out | refine bs_ ?_ GE200.out | refine bs_ ?_ GE215.out) | exact HB.out)⟩
                  ·
                   rw [if_neg c50] at H
                   exact absurd H (by simp)
                 ·
                  rw [if_neg c49] at H
                  exact absurd H (by simp)
             ·
              rw [if_neg c21] at H
              exact absurd H (by simp)
            ·
             rw [if_neg c19] at H
             exact absurd H (by simp)
           ·
            rw [if_neg c18] at H
            exact absurd H (by simp)
     ·
      rw [if_neg c5] at H
      exact absurd H (by simp)
    ·
     rw [if_neg c4] at H
     exact absurd H (by simp)
   ·
    rw [if_neg c3] at H
    have c3b0 : decide (x3_1 ≤ 515) = false := decide_eq_false c3
    clear c3
    replace H := Option.bind_eq_some_iff.mp H
    obtain ⟨t185, A830, H⟩ := H
    replace H : (some t185) = some r := H
    have A83 := am_ A830
    clear A830
    obtain rfl := Option.some.inj H
    have hcz84_0 : wr.cell? ⟨gb184, 0, none⟩ = some (.slice A0_0 l0_0.length c0_0) := (blk_cell BK184.out 0).trans rfl
    have hcz84_1 : wr.cell? ⟨gb184, 1, none⟩ = some (.slice A0_1 l0_1.length c0_1) := (blk_cell BK184.out 1).trans rfl
    have hfz84_0 := blk_frozen BK184.out 0
    have hfz84_1 := blk_frozen BK184.out 1
    go_wp2_with (first | (go_at_call 15; (with_reducible refine (pouchlaw1_wakes.calls  t185 _ ?side1 A83.out).mono ?_); (case side1 => exact GrOk.below hG (by repeat (first | (with_reducible first | exact HB.out | apply ba_ | apply bn_ | apply bd_ | refine bs_ ?_ GE184.out) | exact HB.out))); rintro e w85 ⟨rfl, hb⟩; have n0_ := am_ (bb_ (g := gb184) (o := .cells #[.slice A0_0 l0_0.length c0_0, .slice A0_1 l0_1.length c0_1] 44 (0, 0)) (by (with_reducible repeat (first | refine kn_ ?_ _ | refine kd_ ?_ | refine ka_ ?_ _)); exact BK184.out) hb); have n1_ := am_ (bt_ (by repeat (first | (with_reducible first | exact HB.out | apply ba_ | apply bn_ | apply bd_ | refine bs_ ?_ GE184.out) | exact HB.out)) hb); clear BK184; clear HB; have BK184 := n0_; have HB := n1_; clear n0_ n1_; (try clear hb); (try clear hb2); (try clear hk); (try clear hi)))
    go_ret
    exact ⟨by first | rfl | (simp [errW_none, errW_some] <;> rfl) | (simp [*, errW_none, errW_some] <;> rfl), by repeat (first | (with_reducible first | exact HB.out | apply ba_ | apply bn_ | apply bd_ | refine bs_ ?_ GE184.out) | exact HB.out)⟩

/-! ### frame_Check: function 16 -/
def frame_Check.f (a0_0 : ByteArray) (a0_1 : Bool) : Option (Int) := (frame_May.f a0_0 a0_1).bind fun t218 => (if t218 = true then (some 0) else (some 1))
set_option maxHeartbeats 8000000 in
set_option maxRecDepth 100000 in
theorem frame_Check.calls (a0_0 : ByteArray) (a0_1 : Bool) (r : Int) (w : World) (hG : GrOk w) (h : frame_Check.f a0_0 a0_1 = some r) :
  Calls Try.prog 16 #[.agg #[.string a0_0, .bool a0_1]] w fun e w' => e = .returned (.int .i64 r) ∧ Below w.heap.size w w' := by
 have hu25 := Try.underlying25
 have HB := am_ (Below.refl w.heap.size w)
 have H : ((frame_May.f a0_0 a0_1).bind fun t218 => (if t218 = true then (some 0) else (some 1))) = some r := h
 clear h
 replace H := Option.bind_eq_some_iff.mp H
 obtain ⟨t218, A20, H⟩ := H
 replace H : (if t218 = true then (some 0) else (some 1)) = some r := H
 have A2 := am_ A20
 clear A20
 by_cases c3 : t218 = true
 ·
  subst c3
  have H1 : (some 0) = some r := by rw [if_pos rfl] at H; exact H
  clear H; have H := H1; clear H1
  obtain rfl := Option.some.inj H
  go_enter Try.func16, Try.ntmps16
  go_wp2_with (first | ((with_reducible refine gate_dst (N := 1) rfl ?_); refine box_event ?hg (N := 1) ?hd (cs := #[.string a0_0, .bool a0_1]) (t := 25) ?hr ?_; (case hd => rfl); (case hg => rfl); (case hr => first | (go_simp; done) | (go_simp; rfl)); intro gb217 hg w4 hbox hb; have n0_ := am_ (bt_ (by repeat (first | (with_reducible first | exact HB.out | apply ba_ | apply bn_ | apply bd_) | exact HB.out)) hb); have n1_ := am_ (hbox); have n2_ := am_ ((by rw [hg]; exact (bz_ (by repeat (first | (with_reducible first | exact HB.out | apply ba_ | apply bn_ | apply bd_) | exact HB.out))) : w.heap.size ≤ gb217)); have n3_ := am_ ((by rw [hg]; exact (bz_ (by repeat (first | (with_reducible first | exact HB.out | apply ba_ | apply bn_ | apply bd_) | exact HB.out))) : w.heap.size ≤ gb217)); clear HB; have HB := n0_; have BK217 := n1_; have GW217 := n2_; have GE217 := n3_; clear n0_ n1_ n2_ n3_; clear hb hbox hg; have hcz5_0 : w4.cell? ⟨gb217, 0, none⟩ = some (.string a0_0) := (blk_cell BK217.out 0).trans rfl; have hcz5_1 : w4.cell? ⟨gb217, 1, none⟩ = some (.bool a0_1) := (blk_cell BK217.out 1).trans rfl; have hfz5_0 := blk_frozen BK217.out 0; have hfz5_1 := blk_frozen BK217.out 1) | ((with_reducible refine gate_callee (f := 18) rfl ?_); refine goesL_ (some 4) rfl rfl Try.func18 (by kernel_rfl) rfl #[.agg #[.string a0_0, .bool a0_1]] rfl (by (try simp only [m1_, m2_, m3_]); first | done | rfl | (simp only [m4_, m5_]; rfl)) ?_; (with_reducible refine (frame_May.calls a0_0 a0_1 true _ ?side1 A2.out).mono ?_); (case side1 => exact GrOk.below hG (by repeat (first | (with_reducible first | exact HB.out | apply ba_ | apply bn_ | apply bd_ | refine bs_ ?_ GE217.out) | exact HB.out))); rintro e w6 ⟨rfl, hb⟩; refine ⟨_, rfl, ?_⟩; have n0_ := am_ (bb_ (g := gb217) (o := .cells #[.string a0_0, .bool a0_1] 25 (0, 0)) (by (with_reducible repeat (first | refine kn_ ?_ _ | refine kd_ ?_ | refine ka_ ?_ _)); exact BK217.out) hb); have n1_ := am_ (bt_ (by repeat (first | (with_reducible first | exact HB.out | apply ba_ | apply bn_ | apply bd_ | refine bs_ ?_ GE217.out) | exact HB.out)) hb); clear BK217; clear HB; have BK217 := n0_; have HB := n1_; clear n0_ n1_; (try clear hb); (try clear hb2); (try clear hk); (try clear hi)))
  go_ret
  exact ⟨by first | rfl | (simp [errW_none, errW_some] <;> rfl) | (simp [*, errW_none, errW_some] <;> rfl), by repeat (first | (with_reducible first | exact HB.out | apply ba_ | apply bn_ | apply bd_ | refine bs_ ?_ GE217.out) | exact HB.out)⟩
 ·
  replace c3 := Bool.eq_false_iff.mpr c3
  subst c3
  have H1 : (some 1) = some r := by rw [if_neg (show ¬ (false = true) by decide)] at H; exact H
  clear H; have H := H1; clear H1
  obtain rfl := Option.some.inj H
  go_enter Try.func16, Try.ntmps16
  go_wp2_with (first | ((with_reducible refine gate_dst (N := 1) rfl ?_); refine box_event ?hg (N := 1) ?hd (cs := #[.string a0_0, .bool a0_1]) (t := 25) ?hr ?_; (case hd => rfl); (case hg => rfl); (case hr => first | (go_simp; done) | (go_simp; rfl)); intro gb217 hg w7 hbox hb; have n0_ := am_ (bt_ (by repeat (first | (with_reducible first | exact HB.out | apply ba_ | apply bn_ | apply bd_) | exact HB.out)) hb); have n1_ := am_ (hbox); have n2_ := am_ ((by rw [hg]; exact (bz_ (by repeat (first | (with_reducible first | exact HB.out | apply ba_ | apply bn_ | apply bd_) | exact HB.out))) : w.heap.size ≤ gb217)); have n3_ := am_ ((by rw [hg]; exact (bz_ (by repeat (first | (with_reducible first | exact HB.out | apply ba_ | apply bn_ | apply bd_) | exact HB.out))) : w.heap.size ≤ gb217)); clear HB; have HB := n0_; have BK217 := n1_; have GW217 := n2_; have GE217 := n3_; clear n0_ n1_ n2_ n3_; clear hb hbox hg; have hcz8_0 : w7.cell? ⟨gb217, 0, none⟩ = some (.string a0_0) := (blk_cell BK217.out 0).trans rfl; have hcz8_1 : w7.cell? ⟨gb217, 1, none⟩ = some (.bool a0_1) := (blk_cell BK217.out 1).trans rfl; have hfz8_0 := blk_frozen BK217.out 0; have hfz8_1 := blk_frozen BK217.out 1) | ((with_reducible refine gate_callee (f := 18) rfl ?_); refine goesL_ (some 4) rfl rfl Try.func18 (by kernel_rfl) rfl #[.agg #[.string a0_0, .bool a0_1]] rfl (by (try simp only [m1_, m2_, m3_]); first | done | rfl | (simp only [m4_, m5_]; rfl)) ?_; (with_reducible refine (frame_May.calls a0_0 a0_1 false _ ?side1 A2.out).mono ?_); (case side1 => exact GrOk.below hG (by repeat (first | (with_reducible first | exact HB.out | apply ba_ | apply bn_ | apply bd_ | refine bs_ ?_ GE217.out) | exact HB.out))); rintro e w9 ⟨rfl, hb⟩; refine ⟨_, rfl, ?_⟩; have n0_ := am_ (bb_ (g := gb217) (o := .cells #[.string a0_0, .bool a0_1] 25 (0, 0)) (by (with_reducible repeat (first | refine kn_ ?_ _ | refine kd_ ?_ | refine ka_ ?_ _)); exact BK217.out) hb); have n1_ := am_ (bt_ (by repeat (first | (with_reducible first | exact HB.out | apply ba_ | apply bn_ | apply bd_ | refine bs_ ?_ GE217.out) | exact HB.out)) hb); clear BK217; clear HB; have BK217 := n0_; have HB := n1_; clear n0_ n1_; (try clear hb); (try clear hb2); (try clear hk); (try clear hi)))
  go_ret
  exact ⟨by first | rfl | (simp [errW_none, errW_some] <;> rfl) | (simp [*, errW_none, errW_some] <;> rfl), by repeat (first | (with_reducible first | exact HB.out | apply ba_ | apply bn_ | apply bd_ | refine bs_ ?_ GE217.out) | exact HB.out)⟩

end Go.Proofs.Ytcaibcefgfolbaa.PFr
