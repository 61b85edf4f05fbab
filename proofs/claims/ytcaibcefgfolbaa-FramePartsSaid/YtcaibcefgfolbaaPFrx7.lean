-- Written for this claim by a program: the kit's print.py from a scratch copy, turned by wip/tools/ghostprint.py
import Derived.Test.YtcaibcefgfolbaaPFrx0
import Derived.Test.YtcaibcefgfolbaaPFrx3
import Derived.Test.YtcaibcefgfolbaaPFrx4
import Derived.Test.YtcaibcefgfolbaaPFrx6
import Derived.Test.YtcaibcefgfolbaaWakes
namespace Go.Proofs.Ytcaibcefgfolbaa.PFr
open Go.RowKit Go.Proofs.YtcaibcefgfolbaaW.PrintWords Go.Proofs.YtcaibcefgfolbaaW.PrintLast Go.Proofs.YtcaibcefgfolbaaW.PrintMore
attribute [local go_sem] max2_int min2_int max_two min_two max_three min_three max_four min_four   -- for this text's walks alone
set_option linter.unusedVariables false
set_option linter.unusedSimpArgs false

/-! ### pouchlaw1_FrameChecks: function 5 -/
mutual
def pouchlaw1_FrameChecks.l0 : Nat → List (S28) → Int → Option (Bool)
 | 0, _, _ => none
 | k + 1, x0, x3 => if x3 < (x0.length : Int) then (pouchlaw1_FrameChecks.j1 k x0 x3 (decide (x3 < 12))) else (pouchlaw1_FrameChecks.j1 k x0 x3 false)
def pouchlaw1_FrameChecks.j1 : Nat → List (S28) → Int → Bool → Option (Bool)
 | 0, _, _, _ => none
 | k + 1, x0, x3, x12 => if x12 = true then (if 0 ≤ x3 then (if x3 < (x0.length : Int) then ((pouchlaw1_heavy.f ((rd_T28 x0 x3).f0.f0) ((rd_T28 x0 x3).f0.f1) ((rd_T28 x0 x3).f1)).bind fun t221 => (if t221 = true then (some true) else ((frame_Check.f ((rd_T28 x0 x3).f0.f0) ((rd_T28 x0 x3).f0.f1)).bind fun t223 => ((pouchlaw1_num.f t223).bind fun t224 => ((pouchref1_Framer.f k ((rd_T28 x0 x3).f0.f0) ((rd_T28 x0 x3).f0.f1)).bind fun t226 => (if ((t224 == 0) != t226) = true then (some false) else (if t224 = 0 then (pouchlaw1_FrameChecks.l0 k x0 (wrap64 (x3 + 1))) else (if t224 = 1 then (pouchlaw1_FrameChecks.l0 k x0 (wrap64 (x3 + 1))) else (some false))))))))) else (none)) else (none)) else ((pouchlaw1_wakes.f).bind fun t219 => (some t219))
end
def pouchlaw1_FrameChecks.f (k : Nat) (l0 : List (S28)) : Option (Bool) := pouchlaw1_FrameChecks.l0 k l0 0
theorem pouchlaw1_FrameChecks.mono_l : ∀ k, (∀ y0 y1, LeO (pouchlaw1_FrameChecks.l0 k y0 y1) (pouchlaw1_FrameChecks.l0 (k + 1) y0 y1)) ∧ (∀ y0 y1 y2, LeO (pouchlaw1_FrameChecks.j1 k y0 y1 y2) (pouchlaw1_FrameChecks.j1 (k + 1) y0 y1 y2))
 | 0 => ⟨fun _ _ r h => by simp [pouchlaw1_FrameChecks.l0] at h, fun _ _ _ r h => by simp [pouchlaw1_FrameChecks.j1] at h⟩
 | k + 1 => by
  obtain ⟨ih0, ih1⟩ := pouchlaw1_FrameChecks.mono_l k
  refine ⟨?_, ?_⟩
  ·
   intro y0 y1
   unfold pouchlaw1_FrameChecks.l0
   repeat' first
   | (with_reducible exact ih0 _ _)
   | (with_reducible exact ih1 _ _ _)
   | (with_reducible exact pouchref1_Framer.mono _ _ _)
   | (with_reducible exact LeO.refl _)
   | (with_reducible exact LeO.none _)
   | (with_reducible refine LeO.ite ?_ ?_)
   | (with_reducible refine LeO.bind ?_ (fun _ => ?_))
   | exact ih0 _ _
   | exact ih1 _ _ _
   | exact pouchref1_Framer.mono _ _ _
   | exact LeO.none _
   | refine LeO.ite ?_ ?_
   | refine LeO.bind ?_ (fun _ => ?_)
  ·
   intro y0 y1 y2
   unfold pouchlaw1_FrameChecks.j1
   repeat' first
   | (with_reducible exact ih0 _ _)
   | (with_reducible exact ih1 _ _ _)
   | (with_reducible exact pouchref1_Framer.mono _ _ _)
   | (with_reducible exact LeO.refl _)
   | (with_reducible exact LeO.none _)
   | (with_reducible refine LeO.ite ?_ ?_)
   | (with_reducible refine LeO.bind ?_ (fun _ => ?_))
   | exact ih0 _ _
   | exact ih1 _ _ _
   | exact pouchref1_Framer.mono _ _ _
   | exact LeO.none _
   | refine LeO.ite ?_ ?_
   | refine LeO.bind ?_ (fun _ => ?_)
theorem pouchlaw1_FrameChecks.mono : ∀ a0 k, LeO (pouchlaw1_FrameChecks.f k a0) (pouchlaw1_FrameChecks.f (k + 1) a0) := by
 intro a0 k
 obtain ⟨ih0, ih1⟩ := pouchlaw1_FrameChecks.mono_l k
 unfold pouchlaw1_FrameChecks.f
 repeat' first
   | (with_reducible exact ih0 _ _)
   | (with_reducible exact ih1 _ _ _)
   | (with_reducible exact pouchref1_Framer.mono _ _ _)
   | (with_reducible exact LeO.refl _)
   | (with_reducible exact LeO.none _)
   | (with_reducible refine LeO.ite ?_ ?_)
   | (with_reducible refine LeO.bind ?_ (fun _ => ?_))
   | exact ih0 _ _
   | exact ih1 _ _ _
   | exact pouchref1_Framer.mono _ _ _
   | exact LeO.none _
   | refine LeO.ite ?_ ?_
   | refine LeO.bind ?_ (fun _ => ?_)
set_option maxHeartbeats 8000000 in
set_option maxRecDepth 100000 in
theorem pouchlaw1_FrameChecks.calls (k : Nat) (A0 : Option Addr) (c0 : Nat) (l0 : List (S28)) (r : Bool) (w : World) (hr0 : Kd.C k28 w A0 l0.length l0) (hc0 : l0.length ≤ c0) (hG : GrOk w) (h : pouchlaw1_FrameChecks.f k l0 = some r) :
  Calls Try.prog 5 #[.slice A0 l0.length c0] w fun e w' => e = .returned (.bool r) ∧ Below w.heap.size w w' := by
 have hu28 := Try.underlying28
 have hu25 := Try.underlying25
 have HR0 := am_ hr0
 have HC0 := am_ hc0
 clear hr0 hc0
 have HB := am_ (Below.refl w.heap.size w)
 have H : (pouchlaw1_FrameChecks.l0 k l0 0) = some r := h
 clear h
 have H' := am_ H
 clear H
 go_enter Try.func5, Try.ntmps5
 go_wp2
 go_loopg [3] k (fun kq v3 w' => ∃ (x3_1 : Int), v3 = .int .i64 x3_1 ∧ Aside0 (pouchlaw1_FrameChecks.l0 kq l0 x3_1 = some r) ∧ Aside0 (kq ≤ k) ∧ Aside0 (Below w.heap.size w w'))
 case atStart => exact ⟨(0), (by first | rfl | (simp; done) | (simp [*]; done)), H', ⟨Nat.le_refl _⟩, ⟨by repeat (first | (with_reducible first | exact HB.out | apply ba_ | apply bn_ | apply bd_) | exact HB.out)⟩⟩
 case round =>
  clear H'
  obtain ⟨x3_1, rfl, HA, HK1, HB⟩ := hrel
  cases gk with
  | zero => exact absurd HA.out (by simp [pouchlaw1_FrameChecks.l0])
  | succ k1 =>
   have H := HA.out
   clear HA
   simp only [pouchlaw1_FrameChecks.l0] at H
   have HC2 := am_ H
   clear H
   go_upto_region 2 with (fail)
   go_cut [12] (fun v12 wc => ∃ (kq : Nat) (x12_1 : Bool), v12 = .bool x12_1 ∧ Aside0 (pouchlaw1_FrameChecks.j1 kq l0 x3_1 x12_1 = some r) ∧ Aside0 (kq ≤ k1) ∧ Aside0 (Below w.heap.size w wc))
   case first =>
    have H := HC2.out
    clear HC2
    by_cases c3 : x3_1 < (l0.length : Int)
    ·
     rw [if_pos c3] at H
     have c3b0 : decide (x3_1 < (l0.length : Int)) = true := decide_eq_true c3
     clear c3
     (first | rw [c3b0] | (simp only [i64_w, i32_w]; rw [c3b0]) | skip)
     have H' := am_ H
     clear H
     go_wp2
     go_meet
     case rel => exact ⟨_, (decide (x3_1 < 12)), (by first | rfl | (simp; done) | (simp [*]; done)), H', ⟨by have := HK1.out; first | omega | exact Nat.le_refl _⟩, ⟨by repeat (first | (with_reducible first | exact HB.out | apply ba_ | apply bn_ | apply bd_) | exact HB.out)⟩⟩
    ·
     rw [if_neg c3] at H
     have c3b0 : decide (x3_1 < (l0.length : Int)) = false := decide_eq_false c3
     clear c3
     (first | rw [c3b0] | (simp only [i64_w, i32_w]; rw [c3b0]) | skip)
     have H' := am_ H
     clear H
     go_wp2
     go_meet
     case rel => exact ⟨_, (false), (by first | rfl | (simp; done) | (simp [*]; done)), H', ⟨by have := HK1.out; first | omega | exact Nat.le_refl _⟩, ⟨by repeat (first | (with_reducible first | exact HB.out | apply ba_ | apply bn_ | apply bd_) | exact HB.out)⟩⟩
   case rest =>
    clear HC2
    try clear p2
    try clear c3
    try clear c3b0
    obtain ⟨kq, x12_1, rfl, HA, HJ1, HB⟩ := hcut
    cases kq with
    | zero => exact absurd HA.out (by simp [pouchlaw1_FrameChecks.j1])
    | succ kj1 =>
     have H := HA.out
     clear HA
     simp only [pouchlaw1_FrameChecks.j1] at H
     by_cases c4 : x12_1 = true
     ·
      subst c4
      have H1 : (if 0 ≤ x3_1 then (if x3_1 < (l0.length : Int) then ((pouchlaw1_heavy.f ((rd_T28 l0 x3_1).f0.f0) ((rd_T28 l0 x3_1).f0.f1) ((rd_T28 l0 x3_1).f1)).bind fun t221 => (if t221 = true then (some true) else ((frame_Check.f ((rd_T28 l0 x3_1).f0.f0) ((rd_T28 l0 x3_1).f0.f1)).bind fun t223 => ((pouchlaw1_num.f t223).bind fun t224 => ((pouchref1_Framer.f kj1 ((rd_T28 l0 x3_1).f0.f0) ((rd_T28 l0 x3_1).f0.f1)).bind fun t226 => (if ((t224 == 0) != t226) = true then (some false) else (if t224 = 0 then (pouchlaw1_FrameChecks.l0 kj1 l0 (wrap64 (x3_1 + 1))) else (if t224 = 1 then (pouchlaw1_FrameChecks.l0 kj1 l0 (wrap64 (x3_1 + 1))) else (some false))))))))) else (none)) else (none)) = some r := by rw [if_pos rfl] at H; exact H
      clear H; have H := H1; clear H1
      by_cases c5 : 0 ≤ x3_1
      ·
       rw [if_pos c5] at H
       have c5b0 : decide (0 ≤ x3_1) = true := decide_eq_true c5
       clear c5
       by_cases c6 : x3_1 < (l0.length : Int)
       ·
        rw [if_pos c6] at H
        have c6b0 : decide (x3_1 < (l0.length : Int)) = true := decide_eq_true c6
        clear c6
        replace H := Option.bind_eq_some_iff.mp H
        obtain ⟨t221, A70, H⟩ := H
        replace H : (if t221 = true then (some true) else ((frame_Check.f ((rd_T28 l0 x3_1).f0.f0) ((rd_T28 l0 x3_1).f0.f1)).bind fun t223 => ((pouchlaw1_num.f t223).bind fun t224 => ((pouchref1_Framer.f kj1 ((rd_T28 l0 x3_1).f0.f0) ((rd_T28 l0 x3_1).f0.f1)).bind fun t226 => (if ((t224 == 0) != t226) = true then (some false) else (if t224 = 0 then (pouchlaw1_FrameChecks.l0 kj1 l0 (wrap64 (x3_1 + 1))) else (if t224 = 1 then (pouchlaw1_FrameChecks.l0 kj1 l0 (wrap64 (x3_1 + 1))) else (some false)))))))) = some r := H
        have A7 := am_ A70
        clear A70
        by_cases c8 : t221 = true
        ·
         subst c8
         have H1 : (some true) = some r := by rw [if_pos rfl] at H; exact H
         clear H; have H := H1; clear H1
         obtain rfl := Option.some.inj H
         have p220 : 0 ≤ (x3_1 : Int) := od_ (by first | (with_reducible assumption) | assumption)
         have q220 : x3_1 < (l0.length : Int) := od_ (by first | (with_reducible assumption) | assumption)
         obtain ⟨ad220, A220_2, c220_2, e220, hx220_0, hx220_1, hx220_2, hl220_2, hi220_2⟩ := at_T28 HR0.out x3_1 p220 q220
         cases e220
         replace hx220_0 := (HB.out.cell (bl_ w _ hx220_0)).trans hx220_0
         replace hx220_1 := (HB.out.cell (bl_ w _ hx220_1)).trans hx220_1
         replace hx220_2 := (HB.out.cell (bl_ w _ hx220_2)).trans hx220_2
         have HR220_2 := am_ hi220_2
         have HC220_2 := am_ hl220_2
         clear hi220_2 hl220_2
         replace p220 := eq_true p220
         replace q220 := eq_true q220
         go_wp2_with (first | ((with_reducible refine gate_callee (f := 7) rfl ?_); refine goesL_ (some 19) rfl rfl Try.func7 (by kernel_rfl) rfl #[.agg #[.string ((rd_T28 l0 x3_1).f0.f0), .bool ((rd_T28 l0 x3_1).f0.f1), .slice A220_2 ((rd_T28 l0 x3_1).f1).length c220_2]] rfl (by (try simp only [m1_, m2_, m3_]); first | done | rfl | (simp only [m4_, m5_]; rfl)) ?_; (with_reducible refine (pouchlaw1_heavy.calls ((rd_T28 l0 x3_1).f0.f0) ((rd_T28 l0 x3_1).f0.f1) _ _ ((rd_T28 l0 x3_1).f1) true _ ?side1 ?side2 A7.out).mono ?_); (case side1 => repeat (first | exact (cb_ HR220_2.out HB.out) | (with_reducible refine ca_ ?_ _) | (with_reducible refine cn_ ?_ _) | (with_reducible refine cd_ ?_))); (case side2 => exact HC220_2.out); rintro e w9 ⟨rfl, hb⟩; refine ⟨_, rfl, ?_⟩; have n0_ := am_ (bt_ (by repeat (first | (with_reducible first | exact HB.out | apply ba_ | apply bn_ | apply bd_) | exact HB.out)) hb); clear HB; have HB := n0_; clear n0_; (try clear hb); (try clear hb2); (try clear hk); (try clear hi)))
         go_ret
         exact ⟨by first | rfl | (simp [errW_none, errW_some] <;> rfl) | (simp [*, errW_none, errW_some] <;> rfl), by repeat (first | (with_reducible first | exact HB.out | apply ba_ | apply bn_ | apply bd_) | exact HB.out)⟩
        ·
         replace c8 := Bool.eq_false_iff.mpr c8
         subst c8
         have H1 : ((frame_Check.f ((rd_T28 l0 x3_1).f0.f0) ((rd_T28 l0 x3_1).f0.f1)).bind fun t223 => ((pouchlaw1_num.f t223).bind fun t224 => ((pouchref1_Framer.f kj1 ((rd_T28 l0 x3_1).f0.f0) ((rd_T28 l0 x3_1).f0.f1)).bind fun t226 => (if ((t224 == 0) != t226) = true then (some false) else (if t224 = 0 then (pouchlaw1_FrameChecks.l0 kj1 l0 (wrap64 (x3_1 + 1))) else (if t224 = 1 then (pouchlaw1_FrameChecks.l0 kj1 l0 (wrap64 (x3_1 + 1))) else (some false))))))) = some r := by rw [if_neg (show ¬ (false = true) by decide)] at H; exact H
         clear H; have H := H1; clear H1
         replace H := Option.bind_eq_some_iff.mp H
         obtain ⟨t223, A100, H⟩ := H
         replace H : ((pouchlaw1_num.f t223).bind fun t224 => ((pouchref1_Framer.f kj1 ((rd_T28 l0 x3_1).f0.f0) ((rd_T28 l0 x3_1).f0.f1)).bind fun t226 => (if ((t224 == 0) != t226) = true then (some false) else (if t224 = 0 then (pouchlaw1_FrameChecks.l0 kj1 l0 (wrap64 (x3_1 + 1))) else (if t224 = 1 then (pouchlaw1_FrameChecks.l0 kj1 l0 (wrap64 (x3_1 + 1))) else (some false)))))) = some r := H
         have A10 := am_ A100
         clear A100
         replace H := Option.bind_eq_some_iff.mp H
         obtain ⟨t224, A110, H⟩ := H
         replace H : ((pouchref1_Framer.f kj1 ((rd_T28 l0 x3_1).f0.f0) ((rd_T28 l0 x3_1).f0.f1)).bind fun t226 => (if ((t224 == 0) != t226) = true then (some false) else (if t224 = 0 then (pouchlaw1_FrameChecks.l0 kj1 l0 (wrap64 (x3_1 + 1))) else (if t224 = 1 then (pouchlaw1_FrameChecks.l0 kj1 l0 (wrap64 (x3_1 + 1))) else (some false))))) = some r := H
         have A11 := am_ A110
         clear A110
         replace H := Option.bind_eq_some_iff.mp H
         obtain ⟨t226, A120, H⟩ := H
         replace H : (if ((t224 == 0) != t226) = true then (some false) else (if t224 = 0 then (pouchlaw1_FrameChecks.l0 kj1 l0 (wrap64 (x3_1 + 1))) else (if t224 = 1 then (pouchlaw1_FrameChecks.l0 kj1 l0 (wrap64 (x3_1 + 1))) else (some false)))) = some r := H
         have A12 := am_ A120
         clear A120
         by_cases c13 : ((t224 == 0) != t226) = true
         ·
          rw [if_pos c13] at H
          have c13b0 : ((t224 == 0) != t226) = true := c13
          (try (have c13b1 : decide ((t224 == 0) = t226) = false := by simpa using c13))
          (try (have c13b2 : ((t224 == 0) == t226) = false := by simpa using c13))
          (try (have c13b3 : ¬ ((t224 == 0) = t226) := by simpa using c13))
          clear c13
          obtain rfl := Option.some.inj H
          have p220 : 0 ≤ (x3_1 : Int) := od_ (by first | (with_reducible assumption) | assumption)
          have q220 : x3_1 < (l0.length : Int) := od_ (by first | (with_reducible assumption) | assumption)
          obtain ⟨ad220, A220_2, c220_2, e220, hx220_0, hx220_1, hx220_2, hl220_2, hi220_2⟩ := at_T28 HR0.out x3_1 p220 q220
          cases e220
          replace hx220_0 := (HB.out.cell (bl_ w _ hx220_0)).trans hx220_0
          replace hx220_1 := (HB.out.cell (bl_ w _ hx220_1)).trans hx220_1
          replace hx220_2 := (HB.out.cell (bl_ w _ hx220_2)).trans hx220_2
          have HR220_2 := am_ hi220_2
          have HC220_2 := am_ hl220_2
          clear hi220_2 hl220_2
          replace p220 := eq_true p220
          replace q220 := eq_true q220
          go_wp2_with (first | ((with_reducible refine gate_callee (f := 7) rfl ?_); refine goesL_ (some 19) rfl rfl Try.func7 (by kernel_rfl) rfl #[.agg #[.string ((rd_T28 l0 x3_1).f0.f0), .bool ((rd_T28 l0 x3_1).f0.f1), .slice A220_2 ((rd_T28 l0 x3_1).f1).length c220_2]] rfl (by (try simp only [m1_, m2_, m3_]); first | done | rfl | (simp only [m4_, m5_]; rfl)) ?_; (with_reducible refine (pouchlaw1_heavy.calls ((rd_T28 l0 x3_1).f0.f0) ((rd_T28 l0 x3_1).f0.f1) _ _ ((rd_T28 l0 x3_1).f1) false _ ?side1 ?side2 A7.out).mono ?_); (case side1 => repeat (first | exact (cb_ HR220_2.out HB.out) | (with_reducible refine ca_ ?_ _) | (with_reducible refine cn_ ?_ _) | (with_reducible refine cd_ ?_))); (case side2 => exact HC220_2.out); rintro e w14 ⟨rfl, hb⟩; refine ⟨_, rfl, ?_⟩; have n0_ := am_ (bt_ (by repeat (first | (with_reducible first | exact HB.out | apply ba_ | apply bn_ | apply bd_) | exact HB.out)) hb); clear HB; have HB := n0_; clear n0_; (try clear hb); (try clear hb2); (try clear hk); (try clear hi); have p222 : 0 ≤ (x3_1 : Int) := od_ (by first | (with_reducible assumption) | assumption); have q222 : x3_1 < (l0.length : Int) := od_ (by first | (with_reducible assumption) | assumption); obtain ⟨ad222, A222_2, c222_2, e222, hx222_0, hx222_1, hx222_2, hl222_2, hi222_2⟩ := at_T28 HR0.out x3_1 p222 q222; obtain rfl : ad220 = ad222 := (by injection e222); replace hx222_0 := (HB.out.cell (bl_ w _ hx222_0)).trans hx222_0; replace hx222_1 := (HB.out.cell (bl_ w _ hx222_1)).trans hx222_1; replace hx222_2 := (HB.out.cell (bl_ w _ hx222_2)).trans hx222_2; have HR222_2 := am_ hi222_2; have HC222_2 := am_ hl222_2; clear hi222_2 hl222_2; replace p222 := eq_true p222; replace q222 := eq_true q222) | ((with_reducible refine gate_callee (f := 16) rfl ?_); refine goesL_ (some 25) rfl rfl Try.func16 (by kernel_rfl) rfl #[.agg #[.string ((rd_T28 l0 x3_1).f0.f0), .bool ((rd_T28 l0 x3_1).f0.f1)]] rfl (by (try simp only [m1_, m2_, m3_]); first | done | rfl | (simp only [m4_, m5_]; rfl)) ?_; (with_reducible refine (frame_Check.calls ((rd_T28 l0 x3_1).f0.f0) ((rd_T28 l0 x3_1).f0.f1) t223 _ ?side1 A10.out).mono ?_); (case side1 => exact GrOk.below hG (by repeat (first | (with_reducible first | exact HB.out | apply ba_ | apply bn_ | apply bd_) | exact HB.out))); rintro e w15 ⟨rfl, hb⟩; refine ⟨_, rfl, ?_⟩; have n0_ := am_ (bt_ (by repeat (first | (with_reducible first | exact HB.out | apply ba_ | apply bn_ | apply bd_) | exact HB.out)) hb); clear HB; have HB := n0_; clear n0_; (try clear hb); (try clear hb2); (try clear hk); (try clear hi)) | ((with_reducible refine gate_callee (f := 11) rfl ?_); refine goesL_ (some 26) rfl rfl Try.func11 (by kernel_rfl) rfl #[.int .i64 t223] rfl (by (try simp only [m1_, m2_, m3_]); first | done | rfl | (simp only [m4_, m5_]; rfl)) ?_; (with_reducible refine (pouchlaw1_num.calls t223 t224 _ A11.out).mono ?_); rintro e w' ⟨rfl, ⟨nd, rfl⟩⟩; refine ⟨_, rfl, ?_⟩; have p225 : 0 ≤ (x3_1 : Int) := od_ (by first | (with_reducible assumption) | assumption); have q225 : x3_1 < (l0.length : Int) := od_ (by first | (with_reducible assumption) | assumption); obtain ⟨ad225, A225_2, c225_2, e225, hx225_0, hx225_1, hx225_2, hl225_2, hi225_2⟩ := at_T28 HR0.out x3_1 p225 q225; obtain rfl : ad220 = ad225 := (by injection e225); replace hx225_0 := (HB.out.cell (bl_ w _ hx225_0)).trans hx225_0; replace hx225_1 := (HB.out.cell (bl_ w _ hx225_1)).trans hx225_1; replace hx225_2 := (HB.out.cell (bl_ w _ hx225_2)).trans hx225_2; have HR225_2 := am_ hi225_2; have HC225_2 := am_ hl225_2; clear hi225_2 hl225_2; replace p225 := eq_true p225; replace q225 := eq_true q225) | ((with_reducible refine gate_callee (f := 10) rfl ?_); refine goesL_ (some 34) rfl rfl Try.func10 (by kernel_rfl) rfl #[.agg #[.string ((rd_T28 l0 x3_1).f0.f0), .bool ((rd_T28 l0 x3_1).f0.f1)]] rfl (by (try simp only [m1_, m2_, m3_]); first | done | rfl | (simp only [m4_, m5_]; rfl)) ?_; (with_reducible refine (pouchref1_Framer.calls kj1 ((rd_T28 l0 x3_1).f0.f0) ((rd_T28 l0 x3_1).f0.f1) t226 _ A12.out).mono ?_); rintro e w16 ⟨rfl, hb⟩; refine ⟨_, rfl, ?_⟩; have n0_ := am_ (bt_ (by repeat (first | (with_reducible first | exact HB.out | apply ba_ | apply bn_ | apply bd_) | exact HB.out)) hb); clear HB; have HB := n0_; clear n0_; (try clear hb); (try clear hb2); (try clear hk); (try clear hi)))
          go_ret
          exact ⟨by first | rfl | (simp [errW_none, errW_some] <;> rfl) | (simp [*, errW_none, errW_some] <;> rfl), by repeat (first | (with_reducible first | exact HB.out | apply ba_ | apply bn_ | apply bd_) | exact HB.out)⟩
         ·
          rw [if_neg c13] at H
          have c13b0 : ((t224 == 0) != t226) = false := by simpa using c13
          (try (have c13b1 : decide ((t224 == 0) = t226) = true := by simpa using c13))
          (try (have c13b2 : ((t224 == 0) == t226) = true := by simpa using c13))
          clear c13
          by_cases c17 : t224 = 0
          ·
           rw [if_pos c17] at H
           have c17b0 : (t224 == 0) = true := beq_iff_eq.mpr c17
           have c17b1 : (t224 != 0) = false := bne_eq_false_iff_eq.mpr c17
           (try (have c13b0kc17 : t226 = true := by simpa [c17b0] using c13b0))
           clear c17
           have H' := am_ H
           clear H
           have p220 : 0 ≤ (x3_1 : Int) := od_ (by first | (with_reducible assumption) | assumption)
           have q220 : x3_1 < (l0.length : Int) := od_ (by first | (with_reducible assumption) | assumption)
           obtain ⟨ad220, A220_2, c220_2, e220, hx220_0, hx220_1, hx220_2, hl220_2, hi220_2⟩ := at_T28 HR0.out x3_1 p220 q220
           cases e220
           replace hx220_0 := (HB.out.cell (bl_ w _ hx220_0)).trans hx220_0
           replace hx220_1 := (HB.out.cell (bl_ w _ hx220_1)).trans hx220_1
           replace hx220_2 := (HB.out.cell (bl_ w _ hx220_2)).trans hx220_2
           have HR220_2 := am_ hi220_2
           have HC220_2 := am_ hl220_2
           clear hi220_2 hl220_2
           replace p220 := eq_true p220
           replace q220 := eq_true q220
           go_wp2_with (first | ((with_reducible refine gate_callee (f := 7) rfl ?_); refine goesL_ (some 19) rfl rfl Try.func7 (by kernel_rfl) rfl #[.agg #[.string ((rd_T28 l0 x3_1).f0.f0), .bool ((rd_T28 l0 x3_1).f0.f1), .slice A220_2 ((rd_T28 l0 x3_1).f1).length c220_2]] rfl (by (try simp only [m1_, m2_, m3_]); first | done | rfl | (simp only [m4_, m5_]; rfl)) ?_; (with_reducible refine (pouchlaw1_heavy.calls ((rd_T28 l0 x3_1).f0.f0) ((rd_T28 l0 x3_1).f0.f1) _ _ ((rd_T28 l0 x3_1).f1) false _ ?side1 ?side2 A7.out).mono ?_); (case side1 => repeat (first | exact (cb_ HR220_2.out HB.out) | (with_reducible refine ca_ ?_ _) | (with_reducible refine cn_ ?_ _) | (with_reducible refine cd_ ?_))); (case side2 => exact HC220_2.out); rintro e w18 ⟨rfl, hb⟩; refine ⟨_, rfl, ?_⟩; have n0_ := am_ (bt_ (by repeat (first | (with_reducible first | exact HB.out | apply ba_ | apply bn_ | apply bd_) | exact HB.out)) hb); clear HB; have HB := n0_; clear n0_; (try clear hb); (try clear hb2); (try clear hk); (try clear hi); have p222 : 0 ≤ (x3_1 : Int) := od_ (by first | (with_reducible assumption) | assumption); have q222 : x3_1 < (l0.length : Int) := od_ (by first | (with_reducible assumption) | assumption); obtain ⟨ad222, A222_2, c222_2, e222, hx222_0, hx222_1, hx222_2, hl222_2, hi222_2⟩ := at_T28 HR0.out x3_1 p222 q222; obtain rfl : ad220 = ad222 := (by injection e222); replace hx222_0 := (HB.out.cell (bl_ w _ hx222_0)).trans hx222_0; replace hx222_1 := (HB.out.cell (bl_ w _ hx222_1)).trans hx222_1; replace hx222_2 := (HB.out.cell (bl_ w _ hx222_2)).trans hx222_2; have HR222_2 := am_ hi222_2; have HC222_2 := am_ hl222_2; clear hi222_2 hl222_2; replace p222 := eq_true p222; replace q222 := eq_true q222) | ((with_reducible refine gate_callee (f := 16) rfl ?_); refine goesL_ (some 25) rfl rfl Try.func16 (by kernel_rfl) rfl #[.agg #[.string ((rd_T28 l0 x3_1).f0.f0), .bool ((rd_T28 l0 x3_1).f0.f1)]] rfl (by (try simp only [m1_, m2_, m3_]); first | done | rfl | (simp only [m4_, m5_]; rfl)) ?_; (with_reducible refine (frame_Check.calls ((rd_T28 l0 x3_1).f0.f0) ((rd_T28 l0 x3_1).f0.f1) t223 _ ?side1 A10.out).mono ?_); (case side1 => exact GrOk.below hG (by repeat (first | (with_reducible first | exact HB.out | apply ba_ | apply bn_ | apply bd_) | exact HB.out))); rintro e w19 ⟨rfl, hb⟩; refine ⟨_, rfl, ?_⟩; have n0_ := am_ (bt_ (by repeat (first | (with_reducible first | exact HB.out | apply ba_ | apply bn_ | apply bd_) | exact HB.out)) hb); clear HB; have HB := n0_; clear n0_; (try clear hb); (try clear hb2); (try clear hk); (try clear hi)) | ((with_reducible refine gate_callee (f := 11) rfl ?_); refine goesL_ (some 26) rfl rfl Try.func11 (by kernel_rfl) rfl #[.int .i64 t223] rfl (by (try simp only [m1_, m2_, m3_]); first | done | rfl | (simp only [m4_, m5_]; rfl)) ?_; (with_reducible refine (pouchlaw1_num.calls t223 t224 _ A11.out).mono ?_); rintro e w' ⟨rfl, ⟨nd, rfl⟩⟩; refine ⟨_, rfl, ?_⟩; have p225 : 0 ≤ (x3_1 : Int) := od_ (by first | (with_reducible assumption) | assumption); have q225 : x3_1 < (l0.length : Int) := od_ (by first | (with_reducible assumption) | assumption); obtain ⟨ad225, A225_2, c225_2, e225, hx225_0, hx225_1, hx225_2, hl225_2, hi225_2⟩ := at_T28 HR0.out x3_1 p225 q225; obtain rfl : ad220 = ad225 := (by injection e225); replace hx225_0 := (HB.out.cell (bl_ w _ hx225_0)).trans hx225_0; replace hx225_1 := (HB.out.cell (bl_ w _ hx225_1)).trans hx225_1; replace hx225_2 := (HB.out.cell (bl_ w _ hx225_2)).trans hx225_2; have HR225_2 := am_ hi225_2; have HC225_2 := am_ hl225_2; clear hi225_2 hl225_2; replace p225 := eq_true p225; replace q225 := eq_true q225) | ((with_reducible refine gate_callee (f := 10) rfl ?_); refine goesL_ (some 34) rfl rfl Try.func10 (by kernel_rfl) rfl #[.agg #[.string ((rd_T28 l0 x3_1).f0.f0), .bool ((rd_T28 l0 x3_1).f0.f1)]] rfl (by (try simp only [m1_, m2_, m3_]); first | done | rfl | (simp only [m4_, m5_]; rfl)) ?_; (with_reducible refine (pouchref1_Framer.calls kj1 ((rd_T28 l0 x3_1).f0.f0) ((rd_T28 l0 x3_1).f0.f1) t226 _ A12.out).mono ?_); rintro e w20 ⟨rfl, hb⟩; refine ⟨_, rfl, ?_⟩; have n0_ := am_ (bt_ (by repeat (first | (with_reducible first | exact HB.out | apply ba_ | apply bn_ | apply bd_) | exact HB.out)) hb); clear HB; have HB := n0_; clear n0_; (try clear hb); (try clear hb2); (try clear hk); (try clear hi)))
           go_roundg kj1
           case measure => have := HK1.out; have := HJ1.out; omega
           case rel => exact ⟨(wrap64 (x3_1 + 1)), (by first | rfl | (simp; done) | (simp [*]; done)), H', ⟨by have := HK1.out; have := HJ1.out; omega⟩, ⟨by repeat (first | (with_reducible first | exact HB.out | apply ba_ | apply bn_ | apply bd_) | exact HB.out)⟩⟩
          ·
           rw [if_neg c17] at H
           have c17b0 : (t224 == 0) = false := beq_eq_false_iff_ne.mpr c17
           have c17b1 : (t224 != 0) = true := bne_iff_ne.mpr c17
           (try (have c13b0kc17 : t226 = false := by simpa [c17b0] using c13b0))
           by_cases c21 : t224 = 1
           ·
            rw [if_pos c21] at H
            have c21b0 : (t224 == 1) = true := beq_iff_eq.mpr c21
            have c21b1 : (t224 != 1) = false := bne_eq_false_iff_eq.mpr c21
            clear c21
            have H' := am_ H
            clear H
            have p220 : 0 ≤ (x3_1 : Int) := od_ (by first | (with_reducible assumption) | assumption)
            have q220 : x3_1 < (l0.length : Int) := od_ (by first | (with_reducible assumption) | assumption)
            obtain ⟨ad220, A220_2, c220_2, e220, hx220_0, hx220_1, hx220_2, hl220_2, hi220_2⟩ := at_T28 HR0.out x3_1 p220 q220
            cases e220
            replace hx220_0 := (HB.out.cell (bl_ w _ hx220_0)).trans hx220_0
            replace hx220_1 := (HB.out.cell (bl_ w _ hx220_1)).trans hx220_1
            replace hx220_2 := (HB.out.cell (bl_ w _ hx220_2)).trans hx220_2
            have HR220_2 := am_ hi220_2
            have HC220_2 := am_ hl220_2
            clear hi220_2 hl220_2
            replace p220 := eq_true p220
            replace q220 := eq_true q220
            go_wp2_with (first | ((with_reducible refine gate_callee (f := 7) rfl ?_); refine goesL_ (some 19) rfl rfl Try.func7 (by kernel_rfl) rfl #[.agg #[.string ((rd_T28 l0 x3_1).f0.f0), .bool ((rd_T28 l0 x3_1).f0.f1), .slice A220_2 ((rd_T28 l0 x3_1).f1).length c220_2]] rfl (by (try simp only [m1_, m2_, m3_]); first | done | rfl | (simp only [m4_, m5_]; rfl)) ?_; (with_reducible refine (pouchlaw1_heavy.calls ((rd_T28 l0 x3_1).f0.f0) ((rd_T28 l0 x3_1).f0.f1) _ _ ((rd_T28 l0 x3_1).f1) false _ ?side1 ?side2 A7.out).mono ?_); (case side1 => repeat (first | exact (cb_ HR220_2.out HB.out) | (with_reducible refine ca_ ?_ _) | (with_reducible refine cn_ ?_ _) | (with_reducible refine cd_ ?_))); (case side2 => exact HC220_2.out); rintro e w22 ⟨rfl, hb⟩; refine ⟨_, rfl, ?_⟩; have n0_ := am_ (bt_ (by repeat (first | (with_reducible first | exact HB.out | apply ba_ | apply bn_ | apply bd_) | exact HB.out)) hb); clear HB; have HB := n0_; clear n0_; (try clear hb); (try clear hb2); (try clear hk); (try clear hi); have p222 : 0 ≤ (x3_1 : Int) := od_ (by first | (with_reducible assumption) | assumption); have q222 : x3_1 < (l0.length : Int) := od_ (by first | (with_reducible assumption) | assumption); obtain ⟨ad222, A222_2, c222_2, e222, hx222_0, hx222_1, hx222_2, hl222_2, hi222_2⟩ := at_T28 HR0.out x3_1 p222 q222; obtain rfl : ad220 = ad222 := (by injection e222); replace hx222_0 := (HB.out.cell (bl_ w _ hx222_0)).trans hx222_0; replace hx222_1 := (HB.out.cell (bl_ w _ hx222_1)).trans hx222_1; replace hx222_2 := (HB.out.cell (bl_ w _ hx222_2)).trans hx222_2; have HR222_2 := am_ hi222_2; have HC222_2 := am_ hl222_2; clear hi222_2 hl222_2; replace p222 := eq_true p222; replace q222 := eq_true q222) | ((with_reducible refine gate_callee (f := 16) rfl ?_); refine goesL_ (some 25) rfl rfl Try.func16 (by kernel_rfl) rfl #[.agg #[.string ((rd_T28 l0 x3_1).f0.f0), .bool ((rd_T28 l0 x3_1).f0.f1)]] rfl (by (try simp only [m1_, m2_, m3_]); first | done | rfl | (simp only [m4_, m5_]; rfl)) ?_; (with_reducible refine (frame_Check.calls ((rd_T28 l0 x3_1).f0.f0) ((rd_T28 l0 x3_1).f0.f1) t223 _ ?side1 A10.out).mono ?_); (case side1 => exact GrOk.below hG (by repeat (first | (with_reducible first | exact HB.out | apply ba_ | apply bn_ | apply bd_) | exact HB.out))); rintro e w23 ⟨rfl, hb⟩; refine ⟨_, rfl, ?_⟩; have n0_ := am_ (bt_ (by repeat (first | (with_reducible first | exact HB.out | apply ba_ | apply bn_ | apply bd_) | exact HB.out)) hb); clear HB; have HB := n0_; clear n0_; (try clear hb); (try clear hb2); (try clear hk); (try clear hi)) | ((with_reducible refine gate_callee (f := 11) rfl ?_); refine goesL_ (some 26) rfl rfl Try.func11 (by kernel_rfl) rfl #[.int .i64 t223] rfl (by (try simp only [m1_, m2_, m3_]); first | done | rfl | (simp only [m4_, m5_]; rfl)) ?_; (with_reducible refine (pouchlaw1_num.calls t223 t224 _ A11.out).mono ?_); rintro e w' ⟨rfl, ⟨nd, rfl⟩⟩; refine ⟨_, rfl, ?_⟩; have p225 : 0 ≤ (x3_1 : Int) := od_ (by first | (with_reducible assumption) | assumption); have q225 : x3_1 < (l0.length : Int) := od_ (by first | (with_reducible assumption) | assumption); obtain ⟨ad225, A225_2, c225_2, e225, hx225_0, hx225_1, hx225_2, hl225_2, hi225_2⟩ := at_T28 HR0.out x3_1 p225 q225; obtain rfl : ad220 = ad225 := (by injection e225); replace hx225_0 := (HB.out.cell (bl_ w _ hx225_0)).trans hx225_0; replace hx225_1 := (HB.out.cell (bl_ w _ hx225_1)).trans hx225_1; replace hx225_2 := (HB.out.cell (bl_ w _ hx225_2)).trans hx225_2; have HR225_2 := am_ hi225_2; have HC225_2 := am_ hl225_2; clear hi225_2 hl225_2; replace p225 := eq_true p225; replace q225 := eq_true q225) | ((with_reducible refine gate_callee (f := 10) rfl ?_); refine goesL_ (some 34) rfl rfl Try.func10 (by kernel_rfl) rfl #[.agg #[.string ((rd_T28 l0 x3_1).f0.f0), .bool ((rd_T28 l0 x3_1).f0.f1)]] rfl (by (try simp only [m1_, m2_, m3_]); first | done | rfl | (simp only [m4_, m5_]; rfl)) ?_; (with_reducible refine (pouchref1_Framer.calls kj1 ((rd_T28 l0 x3_1).f0.f0) ((rd_T28 l0 x3_1).f0.f1) t226 _ A12.out).mono ?_); rintro e w24 ⟨rfl, hb⟩; refine ⟨_, rfl, ?_⟩; have n0_ := am_ (bt_ (by repeat (first | (with_reducible first | exact HB.out | apply ba_ | apply bn_ | apply bd_) | exact HB.out)) hb); clear HB; have HB := n0_; clear n0_; (try clear hb); (try clear hb2); (try clear hk); (try clear hi)))
            go_roundg kj1
            case measure => have := HK1.out; have := HJ1.out; omega
            case rel => exact ⟨(wrap64 (x3_1 + 1)), (by first | rfl | (simp; done) | (simp [*]; done)), H', ⟨by have := HK1.out; have := HJ1.out; omega⟩, ⟨by repeat (first | (with_reducible first | exact HB.out | apply ba_ | apply bn_ | apply bd_) | exact HB.out)⟩⟩
           ·
            rw [if_neg c21] at H
            have c21b0 : (t224 == 1) = false := beq_eq_false_iff_ne.mpr c21
            have c21b1 : (t224 != 1) = true := bne_iff_ne.mpr c21
            obtain rfl := Option.some.inj H
            have p220 : 0 ≤ (x3_1 : Int) := od_ (by first | (with_reducible assumption) | assumption)
            have q220 : x3_1 < (l0.length : Int) := od_ (by first | (with_reducible assumption) | assumption)
            obtain ⟨ad220, A220_2, c220_2, e220, hx220_0, hx220_1, hx220_2, hl220_2, hi220_2⟩ := at_T28 HR0.out x3_1 p220 q220
            cases e220
            replace hx220_0 := (HB.out.cell (bl_ w _ hx220_0)).trans hx220_0
            replace hx220_1 := (HB.out.cell (bl_ w _ hx220_1)).trans hx220_1
            replace hx220_2 := (HB.out.cell (bl_ w _ hx220_2)).trans hx220_2
            have HR220_2 := am_ hi220_2
            have HC220_2 := am_ hl220_2
            clear hi220_2 hl220_2
            replace p220 := eq_true p220
            replace q220 := eq_true q220
            go_wp2_with (first | ((with_reducible refine gate_callee (f := 7) rfl ?_); refine goesL_ (some 19) rfl rfl Try.func7 (by kernel_rfl) rfl #[.agg #[.string ((rd_T28 l0 x3_1).f0.f0), .bool ((rd_T28 l0 x3_1).f0.f1), .slice A220_2 ((rd_T28 l0 x3_1).f1).length c220_2]] rfl (by (try simp only [m1_, m2_, m3_]); first | done | rfl | (simp only [m4_, m5_]; rfl)) ?_; (with_reducible refine (pouchlaw1_heavy.calls ((rd_T28 l0 x3_1).f0.f0) ((rd_T28 l0 x3_1).f0.f1) _ _ ((rd_T28 l0 x3_1).f1) false _ ?side1 ?side2 A7.out).mono ?_); (case side1 => repeat (first | exact (cb_ HR220_2.out HB.out) | (with_reducible refine ca_ ?_ _) | (with_reducible refine cn_ ?_ _) | (with_reducible refine cd_ ?_))); (case side2 => exact HC220_2.out); rintro e w25 ⟨rfl, hb⟩; refine ⟨_, rfl, ?_⟩; have n0_ := am_ (bt_ (by repeat (first | (with_reducible first | exact HB.out | apply ba_ | apply bn_ | apply bd_) | exact HB.out)) hb); clear HB; have HB := n0_; clear n0_; (try clear hb); (try clear hb2); (try clear hk); (try clear hi); have p222 : 0 ≤ (x3_1 : Int) := od_ (by first | (with_reducible assumption) | assumption); have q222 : x3_1 < (l0.length : Int) := od_ (by first | (with_reducible assumption) | assumption); obtain ⟨ad222, A222_2, c222_2, e222, hx222_0, hx222_1, hx222_2, hl222_2, hi222_2⟩ := at_T28 HR0.out x3_1 p222 q222; obtain rfl : ad220 = ad222 := (by injection e222); replace hx222_0 := (HB.out.cell (bl_ w _ hx222_0)).trans hx222_0; replace hx222_1 := (HB.out.cell (bl_ w _ hx222_1)).trans hx222_1; replace hx222_2 := (HB.out.cell (bl_ w _ hx222_2)).trans hx222_2; have HR222_2 := am_ hi222_2; have HC222_2 := am_ hl222_2; clear hi222_2 hl222_2; replace p222 := eq_true p222; replace q222 := eq_true q222) | ((with_reducible refine gate_callee (f := 16) rfl ?_); refine goesL_ (some 25) rfl rfl Try.func16 (by kernel_rfl) rfl #[.agg #[.string ((rd_T28 l0 x3_1).f0.f0), .bool ((rd_T28 l0 x3_1).f0.f1)]] rfl (by (try simp only [m1_, m2_, m3_]); first | done | rfl | (simp only [m4_, m5_]; rfl)) ?_; (with_reducible refine (frame_Check.calls ((rd_T28 l0 x3_1).f0.f0) ((rd_T28 l0 x3_1).f0.f1) t223 _ ?side1 A10.out).mono ?_); (case side1 => exact GrOk.below hG (by repeat (first | (with_reducible first | exact HB.out | apply ba_ | apply bn_ | apply bd_) | exact HB.out))); rintro e w26 ⟨rfl, hb⟩; refine ⟨_, rfl, ?_⟩; have n0_ := am_ (bt_ (by repeat (first | (with_reducible first | exact HB.out | apply ba_ | apply bn_ | apply bd_) | exact HB.out)) hb); clear HB; have HB := n0_; clear n0_; (try clear hb); (try clear hb2); (try clear hk); (try clear hi)) | ((with_reducible refine gate_callee (f := 11) rfl ?_); refine goesL_ (some 26) rfl rfl Try.func11 (by kernel_rfl) rfl #[.int .i64 t223] rfl (by (try simp only [m1_, m2_, m3_]); first | done | rfl | (simp only [m4_, m5_]; rfl)) ?_; (with_reducible refine (pouchlaw1_num.calls t223 t224 _ A11.out).mono ?_); rintro e w' ⟨rfl, ⟨nd, rfl⟩⟩; refine ⟨_, rfl, ?_⟩; have p225 : 0 ≤ (x3_1 : Int) := od_ (by first | (with_reducible assumption) | assumption); have q225 : x3_1 < (l0.length : Int) := od_ (by first | (with_reducible assumption) | assumption); obtain ⟨ad225, A225_2, c225_2, e225, hx225_0, hx225_1, hx225_2, hl225_2, hi225_2⟩ := at_T28 HR0.out x3_1 p225 q225; obtain rfl : ad220 = ad225 := (by injection e225); replace hx225_0 := (HB.out.cell (bl_ w _ hx225_0)).trans hx225_0; replace hx225_1 := (HB.out.cell (bl_ w _ hx225_1)).trans hx225_1; replace hx225_2 := (HB.out.cell (bl_ w _ hx225_2)).trans hx225_2; have HR225_2 := am_ hi225_2; have HC225_2 := am_ hl225_2; clear hi225_2 hl225_2; replace p225 := eq_true p225; replace q225 := eq_true q225) | ((with_reducible refine gate_callee (f := 10) rfl ?_); refine goesL_ (some 34) rfl rfl Try.func10 (by kernel_rfl) rfl #[.agg #[.string ((rd_T28 l0 x3_1).f0.f0), .bool ((rd_T28 l0 x3_1).f0.f1)]] rfl (by (try simp only [m1_, m2_, m3_]); first | done | rfl | (simp only [m4_, m5_]; rfl)) ?_; (with_reducible refine (pouchref1_Framer.calls kj1 ((rd_T28 l0 x3_1).f0.f0) ((rd_T28 l0 x3_1).f0.f1) t226 _ A12.out).mono ?_); rintro e w27 ⟨rfl, hb⟩; refine ⟨_, rfl, ?_⟩; have n0_ := am_ (bt_ (by repeat (first | (with_reducible first | exact HB.out | apply ba_ | apply bn_ | apply bd_) | exact HB.out)) hb); clear HB; have HB := n0_; clear n0_; (try clear hb); (try clear hb2); (try clear hk); (try clear hi)))
            go_ret
            exact ⟨by first | rfl | (simp [errW_none, errW_some] <;> rfl) | (simp [*, errW_none, errW_some] <;> rfl), by repeat (first | (with_reducible first | exact HB.out | apply ba_ | apply bn_ | apply bd_) | exact HB.out)⟩
       ·
        rw [if_neg c6] at H
        exact absurd H (by simp)
      ·
       rw [if_neg c5] at H
       exact absurd H (by simp)
     ·
      replace c4 := Bool.eq_false_iff.mpr c4
      subst c4
      have H1 : ((pouchlaw1_wakes.f).bind fun t219 => (some t219)) = some r := by rw [if_neg (show ¬ (false = true) by decide)] at H; exact H
      clear H; have H := H1; clear H1
      replace H := Option.bind_eq_some_iff.mp H
      obtain ⟨t219, A280, H⟩ := H
      replace H : (some t219) = some r := H
      have A28 := am_ A280
      clear A280
      obtain rfl := Option.some.inj H
      go_wp2_with (first | ((with_reducible refine gate_callee (f := 15) rfl ?_); refine goesL_ (some 44) rfl rfl Try.func15 (by kernel_rfl) rfl #[] rfl (by (try simp only [m1_, m2_, m3_]); first | done | rfl | (simp only [m4_, m5_]; rfl)) ?_; (with_reducible refine (pouchlaw1_wakes.calls  t219 _ ?side1 A28.out).mono ?_); (case side1 => exact GrOk.below hG (by repeat (first | (with_reducible first | exact HB.out | apply ba_ | apply bn_ | apply bd_) | exact HB.out))); rintro e w29 ⟨rfl, hb⟩; refine ⟨_, rfl, ?_⟩; have n0_ := am_ (bt_ (by repeat (first | (with_reducible first | exact HB.out | apply ba_ | apply bn_ | apply bd_) | exact HB.out)) hb); clear HB; have HB := n0_; clear n0_; (try clear hb); (try clear hb2); (try clear hk); (try clear hi)))
      go_ret
      exact ⟨by first | rfl | (simp [errW_none, errW_some] <;> rfl) | (simp [*, errW_none, errW_some] <;> rfl), by repeat (first | (with_reducible first | exact HB.out | apply ba_ | apply bn_ | apply bd_) | exact HB.out)⟩

/-! ### pouchlaw0_Within: function 17 -/
def pouchlaw0_Within.f (a0 : Int) (a1 : Int) : Option (Int) := if (IntKind.u64.wrap (a1)) = 0 then (none) else (some (wrap64 (Int.tmod (IntKind.u64.wrap (a0)) (IntKind.u64.wrap (a1)))))
set_option maxHeartbeats 8000000 in
set_option maxRecDepth 100000 in
theorem pouchlaw0_Within.calls (a0 : Int) (a1 : Int) (r : Int) (w : World) (h : pouchlaw0_Within.f a0 a1 = some r) :
  Calls Try.prog 17 #[.int .i64 a0, .int .i64 a1] w fun e w' => e = .returned (.int .i64 r) ∧ Drawn0 w w' := by
 have H : (if (IntKind.u64.wrap (a1)) = 0 then (none) else (some (wrap64 (Int.tmod (IntKind.u64.wrap (a0)) (IntKind.u64.wrap (a1)))))) = some r := h
 clear h
 by_cases c3 : (IntKind.u64.wrap (a1)) = 0
 ·
  rw [if_pos c3] at H
  exact absurd H (by simp)
 ·
  rw [if_neg c3] at H
  have c3b0 : ((IntKind.u64.wrap (a1)) == 0) = false := beq_eq_false_iff_ne.mpr c3
  have c3b1 : ((IntKind.u64.wrap (a1)) != 0) = true := bne_iff_ne.mpr c3
  obtain rfl := Option.some.inj H
  go_enter Try.func17, Try.ntmps17
  go_wp2
  go_ret
  exact ⟨by first | rfl | (simp; done) | (simp [*]; done), by repeat (first | exact Drawn0.refl _ | apply Drawn0.step)⟩

end Go.Proofs.Ytcaibcefgfolbaa.PFr
