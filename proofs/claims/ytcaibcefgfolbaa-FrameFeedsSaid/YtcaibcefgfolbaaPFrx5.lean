-- Written for this claim by a program: the kit's print.py from a scratch copy, turned by wip/tools/ghostprint.py
import Derived.Test.YtcaibcefgfolbaaPFrx0
import Derived.Test.YtcaibcefgfolbaaPFrx1
import Derived.Test.YtcaibcefgfolbaaPFrx3
import Derived.Test.YtcaibcefgfolbaaPFrx4
import Derived.Test.YtcaibcefgfolbaaWakes
import Derived.Test.YtcaibcefgfolbaaPFrx5a
namespace Go.Proofs.Ytcaibcefgfolbaa.PFr
open Go.RowKit Go.Proofs.YtcaibcefgfolbaaW.PrintWords Go.Proofs.YtcaibcefgfolbaaW.PrintLast Go.Proofs.YtcaibcefgfolbaaW.PrintMore
attribute [local go_sem] max2_int min2_int max_two min_two max_three min_three max_four min_four   -- for this text's walks alone
set_option linter.unusedVariables false
set_option linter.unusedSimpArgs false
attribute [local go_sem high] eqA25
set_option maxHeartbeats 8000000 in
set_option maxRecDepth 100000 in
theorem pouchlaw1_FrameFeeds.calls (k : Nat) (A0 : Option Addr) (c0 : Nat) (l0 : List (S28)) (r : Bool) (w : World) (hr0 : Kd.C k28 w A0 l0.length l0) (hc0 : l0.length ≤ c0) (hG : GrOk w) (h : pouchlaw1_FrameFeeds.f k l0 = some r) :
  Calls Try.prog 3 #[.slice A0 l0.length c0] w fun e w' => e = .returned (.bool r) ∧ Below w.heap.size w w' := by
 have hu28 := Try.underlying28
 have hu25 := Try.underlying25
 have HR0 := am_ hr0
 have HC0 := am_ hc0
 clear hr0 hc0
 have HB := am_ (Below.refl w.heap.size w)
 have H : (pouchlaw1_FrameFeeds.l0 k l0 0) = some r := h
 clear h
 have H' := am_ H
 clear H
 go_enter Try.func3, Try.ntmps3
 go_wp2
 go_loopg [3] k (fun kq v3 w' => ∃ (x3_1 : Int), v3 = .int .i64 x3_1 ∧ Aside0 (pouchlaw1_FrameFeeds.l0 kq l0 x3_1 = some r) ∧ Aside0 (kq ≤ k) ∧ Aside0 (Below w.heap.size w w'))
 case atStart => exact ⟨(0), (by first | rfl | (simp; done) | (simp [*]; done)), H', ⟨Nat.le_refl _⟩, ⟨by repeat (first | (with_reducible first | exact HB.out | apply ba_ | apply bn_ | apply bd_) | exact HB.out)⟩⟩
 case round =>
  clear H'
  obtain ⟨x3_1, rfl, HA, HK1, HB⟩ := hrel
  cases gk with
  | zero => exact absurd HA.out (by simp [pouchlaw1_FrameFeeds.l0])
  | succ k1 =>
   have H := HA.out
   clear HA
   simp only [pouchlaw1_FrameFeeds.l0] at H
   have HC2 := am_ H
   clear H
   go_upto_region 2 with (fail)
   go_cut [17] (fun v17 wc => ∃ (kq : Nat) (x17_1 : Bool), v17 = .bool x17_1 ∧ Aside0 (pouchlaw1_FrameFeeds.j1 kq l0 x3_1 x17_1 = some r) ∧ Aside0 (kq ≤ k1) ∧ Aside0 (Below w.heap.size w wc))
   case first =>
    have H := HC2.out
    clear HC2
    by_cases c3 : x3_1 < (l0.length : Int)
    ·
     rw [if_pos c3] at H
     have c3b0 : decide (x3_1 < (l0.length : Int)) = true := decide_eq_true c3
     clear c3
     (first | rw [c3b0] | (simp only [i64_w, i32_w]; rw [c3b0]) | skip)
     have H' := am_ H
     clear H
     go_wp2
     go_meet
     case rel => exact ⟨_, (decide (x3_1 < 12)), (by first | rfl | (simp; done) | (simp [*]; done)), H', ⟨by have := HK1.out; first | omega | exact Nat.le_refl _⟩, ⟨by repeat (first | (with_reducible first | exact HB.out | apply ba_ | apply bn_ | apply bd_) | exact HB.out)⟩⟩
    ·
     rw [if_neg c3] at H
     have c3b0 : decide (x3_1 < (l0.length : Int)) = false := decide_eq_false c3
     clear c3
     (first | rw [c3b0] | (simp only [i64_w, i32_w]; rw [c3b0]) | skip)
     have H' := am_ H
     clear H
     go_wp2
     go_meet
     case rel => exact ⟨_, (false), (by first | rfl | (simp; done) | (simp [*]; done)), H', ⟨by have := HK1.out; first | omega | exact Nat.le_refl _⟩, ⟨by repeat (first | (with_reducible first | exact HB.out | apply ba_ | apply bn_ | apply bd_) | exact HB.out)⟩⟩
   case rest =>
    clear HC2
    try clear p2
    try clear c3
    try clear c3b0
    obtain ⟨kq, x17_1, rfl, HA, HJ1, HB⟩ := hcut
    cases kq with
    | zero => exact absurd HA.out (by simp [pouchlaw1_FrameFeeds.j1])
    | succ kj1 =>
     have H := HA.out
     clear HA
     simp only [pouchlaw1_FrameFeeds.j1] at H
     by_cases c4 : x17_1 = true
     ·
      subst c4
      have H1 : (if 0 ≤ x3_1 then (if x3_1 < (l0.length : Int) then ((pouchlaw1_heavy.f ((rd_T28 l0 x3_1).f0.f0) ((rd_T28 l0 x3_1).f0.f1) ((rd_T28 l0 x3_1).f1)).bind fun t156 => (if t156 = true then (some true) else ((pouchref0_CopyBytes.f kj1 ((rd_T28 l0 x3_1).f1)).bind fun t158 => ((frame_Feed.f kj1 ((rd_T28 l0 x3_1).f0.f0) ((rd_T28 l0 x3_1).f0.f1) t158).bind fun bt162 => ((pouchref1_Framer.f kj1 ((rd_T28 l0 x3_1).f0.f0) ((rd_T28 l0 x3_1).f0.f1)).bind fun t170 => (if t170 = true then ((pouchref1_Feed.f kj1 ((rd_T28 l0 x3_1).f0.f0) ((rd_T28 l0 x3_1).f0.f1) ((rd_T28 l0 x3_1).f1)).bind fun bt174 => ((pouchlaw1_num.f bt162.2.2.2).bind fun t180 => (if t180 = 0 then (if (!(bt162.1.toList == bt174.1.toList) || (!(bt162.2.1 == bt174.2.1))) = true then (some false) else ((pouchref0_EqLines.f kj1 bt162.2.2.1 bt174.2.2).bind fun t181 => (if t181 = true then ((pouchref0_EqBytes.f kj1 t158 ((rd_T28 l0 x3_1).f1)).bind fun t183 => (if t183 = true then (pouchlaw1_FrameFeeds.l0 kj1 l0 (wrap64 (x3_1 + 1))) else (some false))) else (some false)))) else (some false)))) else ((pouchlaw1_num.f bt162.2.2.2).bind fun t171 => (if t171 = 1 then (if (bt162.2.2.1.length : Int) > 0 then (some false) else (pouchlaw1_FrameFeeds.l0 kj1 l0 (wrap64 (x3_1 + 1)))) else (some false))))))))) else (none)) else (none)) = some r := by rw [if_pos rfl] at H; exact H
      clear H; have H := H1; clear H1
      by_cases c5 : 0 ≤ x3_1
      ·
       rw [if_pos c5] at H
       have c5b0 : decide (0 ≤ x3_1) = true := decide_eq_true c5
       clear c5
       by_cases c6 : x3_1 < (l0.length : Int)
       ·
        rw [if_pos c6] at H
        have c6b0 : decide (x3_1 < (l0.length : Int)) = true := decide_eq_true c6
        clear c6
        replace H := Option.bind_eq_some_iff.mp H
        obtain ⟨t156, A70, H⟩ := H
        replace H : (if t156 = true then (some true) else ((pouchref0_CopyBytes.f kj1 ((rd_T28 l0 x3_1).f1)).bind fun t158 => ((frame_Feed.f kj1 ((rd_T28 l0 x3_1).f0.f0) ((rd_T28 l0 x3_1).f0.f1) t158).bind fun bt162 => ((pouchref1_Framer.f kj1 ((rd_T28 l0 x3_1).f0.f0) ((rd_T28 l0 x3_1).f0.f1)).bind fun t170 => (if t170 = true then ((pouchref1_Feed.f kj1 ((rd_T28 l0 x3_1).f0.f0) ((rd_T28 l0 x3_1).f0.f1) ((rd_T28 l0 x3_1).f1)).bind fun bt174 => ((pouchlaw1_num.f bt162.2.2.2).bind fun t180 => (if t180 = 0 then (if (!(bt162.1.toList == bt174.1.toList) || (!(bt162.2.1 == bt174.2.1))) = true then (some false) else ((pouchref0_EqLines.f kj1 bt162.2.2.1 bt174.2.2).bind fun t181 => (if t181 = true then ((pouchref0_EqBytes.f kj1 t158 ((rd_T28 l0 x3_1).f1)).bind fun t183 => (if t183 = true then (pouchlaw1_FrameFeeds.l0 kj1 l0 (wrap64 (x3_1 + 1))) else (some false))) else (some false)))) else (some false)))) else ((pouchlaw1_num.f bt162.2.2.2).bind fun t171 => (if t171 = 1 then (if (bt162.2.2.1.length : Int) > 0 then (some false) else (pouchlaw1_FrameFeeds.l0 kj1 l0 (wrap64 (x3_1 + 1)))) else (some false)))))))) = some r := H
        have A7 := am_ A70
        clear A70
        by_cases c8 : t156 = true
        ·
         subst c8
         have H1 : (some true) = some r := by rw [if_pos rfl] at H; exact H
         clear H; have H := H1; clear H1
         obtain rfl := Option.some.inj H
         have p155 : 0 ≤ (x3_1 : Int) := od_ (by first | (with_reducible assumption) | assumption)
         have q155 : x3_1 < (l0.length : Int) := od_ (by first | (with_reducible assumption) | assumption)
         obtain ⟨ad155, A155_2, c155_2, e155, hx155_0, hx155_1, hx155_2, hl155_2, hi155_2⟩ := at_T28 HR0.out x3_1 p155 q155
         cases e155
         replace hx155_0 := (HB.out.cell (bl_ w _ hx155_0)).trans hx155_0
         replace hx155_1 := (HB.out.cell (bl_ w _ hx155_1)).trans hx155_1
         replace hx155_2 := (HB.out.cell (bl_ w _ hx155_2)).trans hx155_2
         have HR155_2 := am_ hi155_2
         have HC155_2 := am_ hl155_2
         clear hi155_2 hl155_2
         replace p155 := eq_true p155
         replace q155 := eq_true q155
         go_wp2_with (first | ((with_reducible refine gate_callee (f := 7) rfl ?_); refine goesL_ (some 24) rfl rfl Try.func7 (by kernel_rfl) rfl #[.agg #[.string ((rd_T28 l0 x3_1).f0.f0), .bool ((rd_T28 l0 x3_1).f0.f1), .slice A155_2 ((rd_T28 l0 x3_1).f1).length c155_2]] rfl (by (try simp only [m1_, m2_, m3_]); first | done | rfl | (simp only [m4_, m5_]; rfl)) ?_; (with_reducible refine (pouchlaw1_heavy.calls ((rd_T28 l0 x3_1).f0.f0) ((rd_T28 l0 x3_1).f0.f1) _ _ ((rd_T28 l0 x3_1).f1) true _ ?side1 ?side2 A7.out).mono ?_); (case side1 => repeat (first | exact (cb_ HR155_2.out HB.out) | (with_reducible refine ca_ ?_ _) | (with_reducible refine cn_ ?_ _) | (with_reducible refine cd_ ?_))); (case side2 => exact HC155_2.out); rintro e w9 ⟨rfl, hb⟩; refine ⟨_, rfl, ?_⟩; have n0_ := am_ (bt_ (by repeat (first | (with_reducible first | exact HB.out | apply ba_ | apply bn_ | apply bd_) | exact HB.out)) hb); clear HB; have HB := n0_; clear n0_; (try clear hb); (try clear hb2); (try clear hk); (try clear hi)))
         go_ret
         exact ⟨by first | rfl | (simp [errW_none, errW_some] <;> rfl) | (simp [*, errW_none, errW_some] <;> rfl), by repeat (first | (with_reducible first | exact HB.out | apply ba_ | apply bn_ | apply bd_) | exact HB.out)⟩
        ·
         replace c8 := Bool.eq_false_iff.mpr c8
         subst c8
         have H1 : ((pouchref0_CopyBytes.f kj1 ((rd_T28 l0 x3_1).f1)).bind fun t158 => ((frame_Feed.f kj1 ((rd_T28 l0 x3_1).f0.f0) ((rd_T28 l0 x3_1).f0.f1) t158).bind fun bt162 => ((pouchref1_Framer.f kj1 ((rd_T28 l0 x3_1).f0.f0) ((rd_T28 l0 x3_1).f0.f1)).bind fun t170 => (if t170 = true then ((pouchref1_Feed.f kj1 ((rd_T28 l0 x3_1).f0.f0) ((rd_T28 l0 x3_1).f0.f1) ((rd_T28 l0 x3_1).f1)).bind fun bt174 => ((pouchlaw1_num.f bt162.2.2.2).bind fun t180 => (if t180 = 0 then (if (!(bt162.1.toList == bt174.1.toList) || (!(bt162.2.1 == bt174.2.1))) = true then (some false) else ((pouchref0_EqLines.f kj1 bt162.2.2.1 bt174.2.2).bind fun t181 => (if t181 = true then ((pouchref0_EqBytes.f kj1 t158 ((rd_T28 l0 x3_1).f1)).bind fun t183 => (if t183 = true then (pouchlaw1_FrameFeeds.l0 kj1 l0 (wrap64 (x3_1 + 1))) else (some false))) else (some false)))) else (some false)))) else ((pouchlaw1_num.f bt162.2.2.2).bind fun t171 => (if t171 = 1 then (if (bt162.2.2.1.length : Int) > 0 then (some false) else (pouchlaw1_FrameFeeds.l0 kj1 l0 (wrap64 (x3_1 + 1)))) else (some false))))))) = some r := by rw [if_neg (show ¬ (false = true) by decide)] at H; exact H
         clear H; have H := H1; clear H1
         replace H := Option.bind_eq_some_iff.mp H
         obtain ⟨t158, A100, H⟩ := H
         replace H : ((frame_Feed.f kj1 ((rd_T28 l0 x3_1).f0.f0) ((rd_T28 l0 x3_1).f0.f1) t158).bind fun bt162 => ((pouchref1_Framer.f kj1 ((rd_T28 l0 x3_1).f0.f0) ((rd_T28 l0 x3_1).f0.f1)).bind fun t170 => (if t170 = true then ((pouchref1_Feed.f kj1 ((rd_T28 l0 x3_1).f0.f0) ((rd_T28 l0 x3_1).f0.f1) ((rd_T28 l0 x3_1).f1)).bind fun bt174 => ((pouchlaw1_num.f bt162.2.2.2).bind fun t180 => (if t180 = 0 then (if (!(bt162.1.toList == bt174.1.toList) || (!(bt162.2.1 == bt174.2.1))) = true then (some false) else ((pouchref0_EqLines.f kj1 bt162.2.2.1 bt174.2.2).bind fun t181 => (if t181 = true then ((pouchref0_EqBytes.f kj1 t158 ((rd_T28 l0 x3_1).f1)).bind fun t183 => (if t183 = true then (pouchlaw1_FrameFeeds.l0 kj1 l0 (wrap64 (x3_1 + 1))) else (some false))) else (some false)))) else (some false)))) else ((pouchlaw1_num.f bt162.2.2.2).bind fun t171 => (if t171 = 1 then (if (bt162.2.2.1.length : Int) > 0 then (some false) else (pouchlaw1_FrameFeeds.l0 kj1 l0 (wrap64 (x3_1 + 1)))) else (some false)))))) = some r := H
         have A10 := am_ A100
         clear A100
         replace H := Option.bind_eq_some_iff.mp H
         obtain ⟨⟨t162, t163, t164, t167⟩, A110, H⟩ := H
         replace H : ((pouchref1_Framer.f kj1 ((rd_T28 l0 x3_1).f0.f0) ((rd_T28 l0 x3_1).f0.f1)).bind fun t170 => (if t170 = true then ((pouchref1_Feed.f kj1 ((rd_T28 l0 x3_1).f0.f0) ((rd_T28 l0 x3_1).f0.f1) ((rd_T28 l0 x3_1).f1)).bind fun bt174 => ((pouchlaw1_num.f t167).bind fun t180 => (if t180 = 0 then (if (!(t162.toList == bt174.1.toList) || (!(t163 == bt174.2.1))) = true then (some false) else ((pouchref0_EqLines.f kj1 t164 bt174.2.2).bind fun t181 => (if t181 = true then ((pouchref0_EqBytes.f kj1 t158 ((rd_T28 l0 x3_1).f1)).bind fun t183 => (if t183 = true then (pouchlaw1_FrameFeeds.l0 kj1 l0 (wrap64 (x3_1 + 1))) else (some false))) else (some false)))) else (some false)))) else ((pouchlaw1_num.f t167).bind fun t171 => (if t171 = 1 then (if (t164.length : Int) > 0 then (some false) else (pouchlaw1_FrameFeeds.l0 kj1 l0 (wrap64 (x3_1 + 1)))) else (some false))))) = some r := H
         have A11 := am_ A110
         clear A110
         replace H := Option.bind_eq_some_iff.mp H
         obtain ⟨t170, A120, H⟩ := H
         replace H : (if t170 = true then ((pouchref1_Feed.f kj1 ((rd_T28 l0 x3_1).f0.f0) ((rd_T28 l0 x3_1).f0.f1) ((rd_T28 l0 x3_1).f1)).bind fun bt174 => ((pouchlaw1_num.f t167).bind fun t180 => (if t180 = 0 then (if (!(t162.toList == bt174.1.toList) || (!(t163 == bt174.2.1))) = true then (some false) else ((pouchref0_EqLines.f kj1 t164 bt174.2.2).bind fun t181 => (if t181 = true then ((pouchref0_EqBytes.f kj1 t158 ((rd_T28 l0 x3_1).f1)).bind fun t183 => (if t183 = true then (pouchlaw1_FrameFeeds.l0 kj1 l0 (wrap64 (x3_1 + 1))) else (some false))) else (some false)))) else (some false)))) else ((pouchlaw1_num.f t167).bind fun t171 => (if t171 = 1 then (if (t164.length : Int) > 0 then (some false) else (pouchlaw1_FrameFeeds.l0 kj1 l0 (wrap64 (x3_1 + 1)))) else (some false)))) = some r := H
         have A12 := am_ A120
         clear A120
         by_cases c13 : t170 = true
         ·
          subst c13
          have H1 : ((pouchref1_Feed.f kj1 ((rd_T28 l0 x3_1).f0.f0) ((rd_T28 l0 x3_1).f0.f1) ((rd_T28 l0 x3_1).f1)).bind fun bt174 => ((pouchlaw1_num.f t167).bind fun t180 => (if t180 = 0 then (if (!(t162.toList == bt174.1.toList) || (!(t163 == bt174.2.1))) = true then (some false) else ((pouchref0_EqLines.f kj1 t164 bt174.2.2).bind fun t181 => (if t181 = true then ((pouchref0_EqBytes.f kj1 t158 ((rd_T28 l0 x3_1).f1)).bind fun t183 => (if t183 = true then (pouchlaw1_FrameFeeds.l0 kj1 l0 (wrap64 (x3_1 + 1))) else (some false))) else (some false)))) else (some false)))) = some r := by rw [if_pos rfl] at H; exact H
          clear H; have H := H1; clear H1
          replace H := Option.bind_eq_some_iff.mp H
          obtain ⟨⟨t174, t175, t176⟩, A140, H⟩ := H
          replace H : ((pouchlaw1_num.f t167).bind fun t180 => (if t180 = 0 then (if (!(t162.toList == t174.toList) || (!(t163 == t175))) = true then (some false) else ((pouchref0_EqLines.f kj1 t164 t176).bind fun t181 => (if t181 = true then ((pouchref0_EqBytes.f kj1 t158 ((rd_T28 l0 x3_1).f1)).bind fun t183 => (if t183 = true then (pouchlaw1_FrameFeeds.l0 kj1 l0 (wrap64 (x3_1 + 1))) else (some false))) else (some false)))) else (some false))) = some r := H
          have A14 := am_ A140
          clear A140
          replace H := Option.bind_eq_some_iff.mp H
          obtain ⟨t180, A150, H⟩ := H
          replace H : (if t180 = 0 then (if (!(t162.toList == t174.toList) || (!(t163 == t175))) = true then (some false) else ((pouchref0_EqLines.f kj1 t164 t176).bind fun t181 => (if t181 = true then ((pouchref0_EqBytes.f kj1 t158 ((rd_T28 l0 x3_1).f1)).bind fun t183 => (if t183 = true then (pouchlaw1_FrameFeeds.l0 kj1 l0 (wrap64 (x3_1 + 1))) else (some false))) else (some false)))) else (some false)) = some r := H
          have A15 := am_ A150
          clear A150
          by_cases c16 : t180 = 0
          ·
           rw [if_pos c16] at H
           have c16b0 : (t180 == 0) = true := beq_iff_eq.mpr c16
           have c16b1 : (t180 != 0) = false := bne_eq_false_iff_eq.mpr c16
           clear c16
           by_cases c17 : (!(t162.toList == t174.toList) || (!(t163 == t175))) = true
           ·
            rw [if_pos c17] at H
            have c17b0 : (!(t162.toList == t174.toList) || (!(t163 == t175))) = true := c17
            clear c17
            obtain rfl := Option.some.inj H
            have p155 : 0 ≤ (x3_1 : Int) := od_ (by first | (with_reducible assumption) | assumption)
            have q155 : x3_1 < (l0.length : Int) := od_ (by first | (with_reducible assumption) | assumption)
            obtain ⟨ad155, A155_2, c155_2, e155, hx155_0, hx155_1, hx155_2, hl155_2, hi155_2⟩ := at_T28 HR0.out x3_1 p155 q155
            cases e155
            replace hx155_0 := (HB.out.cell (bl_ w _ hx155_0)).trans hx155_0
            replace hx155_1 := (HB.out.cell (bl_ w _ hx155_1)).trans hx155_1
            replace hx155_2 := (HB.out.cell (bl_ w _ hx155_2)).trans hx155_2
            have HR155_2 := am_ hi155_2
            have HC155_2 := am_ hl155_2
            clear hi155_2 hl155_2
            replace p155 := eq_true p155
            replace q155 := eq_true q155
            try go_wp2_with (first | ((with_reducible refine gate_callee (f := 7) rfl ?_); refine goesL_ (some 24) rfl rfl Try.func7 (by kernel_rfl) rfl #[.agg #[.string ((rd_T28 l0 x3_1).f0.f0), .bool ((rd_T28 l0 x3_1).f0.f1), .slice A155_2 ((rd_T28 l0 x3_1).f1).length c155_2]] rfl (by (try simp only [m1_, m2_, m3_]); first | done | rfl | (simp only [m4_, m5_]; rfl)) ?_; (with_reducible refine (pouchlaw1_heavy.calls ((rd_T28 l0 x3_1).f0.f0) ((rd_T28 l0 x3_1).f0.f1) _ _ ((rd_T28 l0 x3_1).f1) false _ ?side1 ?side2 A7.out).mono ?_); (case side1 => repeat (first | exact (cb_ HR155_2.out HB.out) | (with_reducible refine ca_ ?_ _) | (with_reducible refine cn_ ?_ _) | (with_reducible refine cd_ ?_))); (case side2 => exact HC155_2.out); rintro e w18 ⟨rfl, hb⟩; refine ⟨_, rfl, ?_⟩; have n0_ := am_ (bt_ (by repeat (first | (with_reducible first | exact HB.out | apply ba_ | apply bn_ | apply bd_) | exact HB.out)) hb); clear HB; have HB := n0_; clear n0_; (try clear hb); (try clear hb2); (try clear hk); (try clear hi); have p157 : 0 ≤ (x3_1 : Int) := od_ (by first | (with_reducible assumption) | assumption); have q157 : x3_1 < (l0.length : Int) := od_ (by first | (with_reducible assumption) | assumption); obtain ⟨ad157, A157_2, c157_2, e157, hx157_0, hx157_1, hx157_2, hl157_2, hi157_2⟩ := at_T28 HR0.out x3_1 p157 q157; obtain rfl : ad155 = ad157 := (by injection e157); replace hx157_0 := (HB.out.cell (bl_ w _ hx157_0)).trans hx157_0; replace hx157_1 := (HB.out.cell (bl_ w _ hx157_1)).trans hx157_1; replace hx157_2 := (HB.out.cell (bl_ w _ hx157_2)).trans hx157_2; have HR157_2 := am_ hi157_2; have HC157_2 := am_ hl157_2; clear hi157_2 hl157_2; replace p157 := eq_true p157; replace q157 := eq_true q157) | ((with_reducible refine gate_callee (f := 8) rfl ?_); refine goesL_ (some 30) rfl rfl Try.func8 (by kernel_rfl) rfl #[.slice A157_2 ((rd_T28 l0 x3_1).f1).length c157_2] rfl (by (try simp only [m1_, m2_, m3_]); first | done | rfl | (simp only [m4_, m5_]; rfl)) ?_; (with_reducible refine (pouchref0_CopyBytes.calls kj1 _ _ ((rd_T28 l0 x3_1).f1) t158 _ ?side1 ?side2 A10.out).mono ?_); (case side1 => repeat (first | exact (cb_ HR157_2.out HB.out) | (with_reducible refine ca_ ?_ _) | (with_reducible refine cn_ ?_ _) | (with_reducible refine cd_ ?_))); (case side2 => exact HC157_2.out); rintro e w19 ⟨v159, rfl, ho0, hb⟩; refine ⟨_, rfl, ?_⟩; have n0_ := am_ (Kd.R_lower ho0 (bz_ (by repeat (first | (with_reducible first | exact HB.out | apply ba_ | apply bn_ | apply bd_) | exact HB.out)))); have n1_ := am_ (bt_ (by repeat (first | (with_reducible first | exact HB.out | apply ba_ | apply bn_ | apply bd_) | exact HB.out)) hb); clear HB; have HO160 := n0_; have HB := n1_; clear n0_ n1_; (try clear hb); (try clear hb2); (try clear hk); (try clear hi); (try clear ho0); have p161 : 0 ≤ (x3_1 : Int) := od_ (by first | (with_reducible assumption) | assumption); have q161 : x3_1 < (l0.length : Int) := od_ (by first | (with_reducible assumption) | assumption); obtain ⟨ad161, A161_2, c161_2, e161, hx161_0, hx161_1, hx161_2, hl161_2, hi161_2⟩ := at_T28 HR0.out x3_1 p161 q161; obtain rfl : ad155 = ad161 := (by injection e161); replace hx161_0 := (HB.out.cell (bl_ w _ hx161_0)).trans hx161_0; replace hx161_1 := (HB.out.cell (bl_ w _ hx161_1)).trans hx161_1; replace hx161_2 := (HB.out.cell (bl_ w _ hx161_2)).trans hx161_2; have HR161_2 := am_ hi161_2; have HC161_2 := am_ hl161_2; clear hi161_2 hl161_2; replace p161 := eq_true p161; replace q161 := eq_true q161; obtain ⟨Ao20, co20, eo20⟩ := Kd.R_slice HO160.out; subst eo20) | ((with_reducible refine gate_callee (f := 9) rfl ?_); refine goesL_ (some 38) rfl rfl Try.func9 (by kernel_rfl) rfl #[.agg #[.string ((rd_T28 l0 x3_1).f0.f0), .bool ((rd_T28 l0 x3_1).f0.f1)], .slice Ao20 t158.length co20] rfl (by (try simp only [m1_, m2_, m3_]); first | done | rfl | (simp only [m4_, m5_]; rfl)) ?_; (with_reducible refine (frame_Feed.calls kj1 ((rd_T28 l0 x3_1).f0.f0) ((rd_T28 l0 x3_1).f0.f1) _ _ t158 t162 t163 t164 t167 _ ?side1 ?side2 ?side3 A11.out).mono ?_); (case side1 => repeat (first | exact (Kd.R_reads' HO160.out).2.2 | (with_reducible refine ca_ ?_ _) | (with_reducible refine cn_ ?_ _) | (with_reducible refine cd_ ?_))); (case side2 => exact (Kd.R_reads' HO160.out).2.1); (case side3 => exact GrOk.below hG (by repeat (first | (with_reducible first | exact HB.out | apply ba_ | apply bn_ | apply bd_) | exact HB.out))); rintro e w21 ⟨v165, rfl, ho0, hb⟩; refine ⟨_, rfl, ?_⟩; have n0_ := am_ (rb_ (by (with_reducible repeat (first | apply ra_ | apply rn_ | apply re_)); exact HO160.out) hb); have n1_ := am_ (Kd.R_lower ho0 (bz_ (by repeat (first | (with_reducible first | exact HB.out | apply ba_ | apply bn_ | apply bd_) | exact HB.out)))); have n2_ := am_ (bt_ (by repeat (first | (with_reducible first | exact HB.out | apply ba_ | apply bn_ | apply bd_) | exact HB.out)) hb); clear HO160; clear HB; have HO160 := n0_; have HO166 := n1_; have HB := n2_; clear n0_ n1_ n2_; (try clear hb); (try clear hb2); (try clear hk); (try clear hi); (try clear ho0)) | ((with_reducible refine gate_dst (N := 5) rfl ?_); (try (refine gate_guard (by rfl) ?_; dsimp only)); refine box_event ?hg (N := 5) ?hd (cs := #[.string (⟨#[]⟩ : ByteArray), .bool false]) (t := 25) ?hr ?_; (case hd => rfl); (case hg => rfl); (case hr => first | (go_simp; done) | (go_simp; rfl)); intro gb168 hg w22 hbox hb; have n0_ := am_ (rb_ (by (with_reducible repeat (first | apply ra_ | apply rn_ | apply re_)); exact HO160.out) hb); have n1_ := am_ (rb_ (by (with_reducible repeat (first | apply ra_ | apply rn_ | apply re_)); exact HO166.out) hb); have n2_ := am_ (bt_ (by repeat (first | (with_reducible first | exact HB.out | apply ba_ | apply bn_ | apply bd_) | exact HB.out)) hb); have n3_ := am_ (hbox); have n4_ := am_ ((by rw [hg]; exact (bz_ (by repeat (first | (with_reducible first | exact HB.out | apply ba_ | apply bn_ | apply bd_) | exact HB.out))) : w.heap.size ≤ gb168)); have n5_ := am_ ((by rw [hg]; exact (bz_ (by repeat (first | (with_reducible first | exact HB.out | apply ba_ | apply bn_ | apply bd_) | exact HB.out))) : w.heap.size ≤ gb168)); clear HO160; clear HO166; clear HB; have HO160 := n0_; have HO166 := n1_; have HB := n2_; have BK168 := n3_; have GW168 := n4_; have GE168 := n5_; clear n0_ n1_ n2_ n3_ n4_ n5_; clear hb hbox hg; have hcz23_0 : w22.cell? ⟨gb168, 0, none⟩ = some (.string (⟨#[]⟩ : ByteArray)) := (blk_cell BK168.out 0).trans rfl; have hcz23_1 : w22.cell? ⟨gb168, 1, none⟩ = some (.bool false) := (blk_cell BK168.out 1).trans rfl; have hfz23_0 := blk_frozen BK168.out 0; have hfz23_1 := blk_frozen BK168.out 1; have p169 : 0 ≤ (x3_1 : Int) := od_ (by first | (with_reducible assumption) | assumption); have q169 : x3_1 < (l0.length : Int) := od_ (by first | (with_reducible assumption) | assumption); obtain ⟨ad169, A169_2, c169_2, e169, hx169_0, hx169_1, hx169_2, hl169_2, hi169_2⟩ := at_T28 HR0.out x3_1 p169 q169; obtain rfl : ad155 = ad169 := (by injection e169); have hn169_0 : ad155.block ≠ gb168 := nl_ (ll_ (by have := bl_ _ _ hx169_0; first | rwa [ab_] at this | exact this) GW168.out); have hn169_1 : ad155.block ≠ gb168 := nl_ (ll_ (by have := bl_ _ _ hx169_0; first | rwa [ab_] at this | exact this) GW168.out); replace hx169_0 := (HB.out.cell (bl_ w _ hx169_0)).trans hx169_0; replace hx169_1 := (HB.out.cell (bl_ w _ hx169_1)).trans hx169_1; replace hx169_2 := (HB.out.cell (bl_ w _ hx169_2)).trans hx169_2; have HR169_2 := am_ hi169_2; have HC169_2 := am_ hl169_2; clear hi169_2 hl169_2; replace hx169_0 := (cf_ (p := ⟨gb168, 0, none⟩) (by first | (rw [ab_]; exact hn169_0) | (show (Addr.add _ _).block ≠ _; rw [ab_]; exact hn169_0) | exact hn169_0) (.string t162)).trans hx169_0; replace hx169_1 := (cf_ (p := ⟨gb168, 0, none⟩) (by first | (rw [ab_]; exact hn169_0) | (show (Addr.add _ _).block ≠ _; rw [ab_]; exact hn169_0) | exact hn169_0) (.string t162)).trans hx169_1; replace hx169_2 := (cf_ (p := ⟨gb168, 0, none⟩) (by first | (rw [ab_]; exact hn169_0) | (show (Addr.add _ _).block ≠ _; rw [ab_]; exact hn169_0) | exact hn169_0) (.string t162)).trans hx169_2; replace hx169_0 := (cf_ (p := ⟨gb168, 1, none⟩) (by first | (rw [ab_]; exact hn169_1) | (show (Addr.add _ _).block ≠ _; rw [ab_]; exact hn169_1) | exact hn169_1) (.bool t163)).trans hx169_0; replace hx169_1 := (cf_ (p := ⟨gb168, 1, none⟩) (by first | (rw [ab_]; exact hn169_1) | (show (Addr.add _ _).block ≠ _; rw [ab_]; exact hn169_1) | exact hn169_1) (.bool t163)).trans hx169_1; replace hx169_2 := (cf_ (p := ⟨gb168, 1, none⟩) (by first | (rw [ab_]; exact hn169_1) | (show (Addr.add _ _).block ≠ _; rw [ab_]; exact hn169_1) | exact hn169_1) (.bool t163)).trans hx169_2; clear hn169_0; clear hn169_1; replace p169 := eq_true p169; replace q169 := eq_true q169) | ((with_reducible refine gate_callee (f := 10) rfl ?_); refine goesL_ (some 47) rfl rfl Try.func10 (by kernel_rfl) rfl #[.agg #[.string ((rd_T28 l0 x3_1).f0.f0), .bool ((rd_T28 l0 x3_1).f0.f1)]] rfl (by (try simp only [m1_, m2_, m3_]); first | done | rfl | (simp only [m4_, m5_]; rfl)) ?_; (with_reducible refine (pouchref1_Framer.calls kj1 ((rd_T28 l0 x3_1).f0.f0) ((rd_T28 l0 x3_1).f0.f1) true _ A12.out).mono ?_); rintro e w24 ⟨rfl, hb⟩; refine ⟨_, rfl, ?_⟩; have n0_ := am_ (rb_ (by (with_reducible repeat (first | apply ra_ | apply rn_ | apply re_)); exact (Kd.R_mono (Kd.R_far (p := ⟨gb168, 1, none⟩) (Kd.R_far (p := ⟨gb168, 0, none⟩) (Kd.R_types HO160.out BK168.out (by decide)) (fun _ hk => hk.2) (.string t162)) (fun _ hk => hk.2) (.bool t163)) (fun _ h_ => h_.1))) hb); have n1_ := am_ (rb_ (by (with_reducible repeat (first | apply ra_ | apply rn_ | apply re_)); exact (Kd.R_mono (Kd.R_far (p := ⟨gb168, 1, none⟩) (Kd.R_far (p := ⟨gb168, 0, none⟩) (Kd.R_types HO166.out BK168.out (by decide)) (fun _ hk => hk.2) (.string t162)) (fun _ hk => hk.2) (.bool t163)) (fun _ h_ => h_.1))) hb); have n2_ := am_ (bb_ (g := gb168) (o := .cells #[.string t162, .bool t163] 25 (0, 0)) (by (with_reducible repeat (first | refine kn_ ?_ _ | refine kd_ ?_ | refine ka_ ?_ _)); refine blk_put (cs := #[.string t162, .bool false]) ?_ 1 _ rfl; (with_reducible repeat (first | refine kn_ ?_ _ | refine kd_ ?_ | refine ka_ ?_ _)); refine blk_put (cs := #[.string (⟨#[]⟩ : ByteArray), .bool false]) ?_ 0 _ rfl; (with_reducible repeat (first | refine kn_ ?_ _ | refine kd_ ?_ | refine ka_ ?_ _)); exact BK168.out) hb); have n3_ := am_ (bt_ (by repeat (first | (with_reducible first | exact HB.out | apply ba_ | apply bn_ | apply bd_ | refine bs_ ?_ GE168.out) | exact HB.out)) hb); clear HO160; clear HO166; clear BK168; clear HB; have HO160 := n0_; have HO166 := n1_; have BK168 := n2_; have HB := n3_; clear n0_ n1_ n2_ n3_; (try clear hb); (try clear hb2); (try clear hk); (try clear hi)))
            have n0_ := am_ (re_ HO160.out)
            have n1_ := am_ (re_ HO166.out)
            have n2_ := am_ (kd_ BK168.out)
            have n3_ := am_ (bd_ HB.out)
            clear HO160; clear HO166; clear BK168; clear HB; have HO160 := n0_; have HO166 := n1_; have BK168 := n2_; have HB := n3_; clear n0_ n1_ n2_ n3_
            have p172 : 0 ≤ (x3_1 : Int) := od_ (by first | (with_reducible assumption) | assumption)
            have q172 : x3_1 < (l0.length : Int) := od_ (by first | (with_reducible assumption) | assumption)
            obtain ⟨ad172, A172_2, c172_2, e172, hx172_0, hx172_1, hx172_2, hl172_2, hi172_2⟩ := at_T28 HR0.out x3_1 p172 q172
            have hw172_2 := hx172_2; have hw172_1 := hx172_1; have hw172_0 := hx172_0
            obtain rfl : ad155 = ad172 := (by injection e172)
            replace hx172_0 := (HB.out.cell (bl_ w _ hx172_0)).trans hx172_0
            replace hx172_1 := (HB.out.cell (bl_ w _ hx172_1)).trans hx172_1
            replace hx172_2 := (HB.out.cell (bl_ w _ hx172_2)).trans hx172_2
            have HR172_2 := am_ hi172_2
            have HC172_2 := am_ hl172_2
            clear hi172_2 hl172_2
            replace p172 := eq_true p172
            replace q172 := eq_true q172
            have p173 : 0 ≤ (x3_1 : Int) := od_ (by first | (with_reducible assumption) | assumption)
            have q173 : x3_1 < (l0.length : Int) := od_ (by first | (with_reducible assumption) | assumption)
            obtain ⟨ad173, A173_2, c173_2, e173, hx173_0, hx173_1, hx173_2, hl173_2, hi173_2⟩ := at_T28 HR0.out x3_1 p173 q173
            have hw173_2 := hx173_2; have hw173_1 := hx173_1; have hw173_0 := hx173_0
            obtain rfl : ad155 = ad173 := (by injection e173)
            replace hx173_0 := (HB.out.cell (bl_ w _ hx173_0)).trans hx173_0
            replace hx173_1 := (HB.out.cell (bl_ w _ hx173_1)).trans hx173_1
            replace hx173_2 := (HB.out.cell (bl_ w _ hx173_2)).trans hx173_2
            have HR173_2 := am_ hi173_2
            have HC173_2 := am_ hl173_2
            clear hi173_2 hl173_2
            replace p173 := eq_true p173
            replace q173 := eq_true q173
            have ea_ := Option.some.inj (hx172_2.symm.trans hx173_2)
            injection ea_ with ea_ en_ ec_
            subst ea_
            subst ec_
            clear en_
            refine start_ (n := 17) (S := fun w' => w'.cell? (ad155.add ((x3_1).toNat * 3)) = some (.string ((rd_T28 l0 x3_1).f0.f0)) ∧ w'.cell? ⟨(ad155.add ((x3_1).toNat * 3)).block, (ad155.add ((x3_1).toNat * 3)).off + 1, none⟩ = some (.bool ((rd_T28 l0 x3_1).f0.f1)) ∧ w'.cell? ⟨(ad155.add ((x3_1).toNat * 3)).block, (ad155.add ((x3_1).toNat * 3)).off + 2, none⟩ = some (.slice A172_2 ((rd_T28 l0 x3_1).f1).length c172_2) ∧ w'.cell? (ad155.add ((x3_1).toNat * 3)) = some (.string ((rd_T28 l0 x3_1).f0.f0)) ∧ w'.cell? ⟨(ad155.add ((x3_1).toNat * 3)).block, (ad155.add ((x3_1).toNat * 3)).off + 1, none⟩ = some (.bool ((rd_T28 l0 x3_1).f0.f1)) ∧ w'.cell? ⟨(ad155.add ((x3_1).toNat * 3)).block, (ad155.add ((x3_1).toNat * 3)).off + 2, none⟩ = some (.slice A172_2 ((rd_T28 l0 x3_1).f1).length c172_2)) (ds := []) #[false, false, false, false, false, false, false, false, false, false, false, false, false, false, false, false, false] (by kernel_rfl) rfl rfl ⟨((HB.out.cell (bl_ w _ hw172_0)).trans hw172_0), ((HB.out.cell (bl_ w _ hw172_1)).trans hw172_1), ((HB.out.cell (bl_ w _ hw172_2)).trans hw172_2), ((HB.out.cell (bl_ w _ hw173_0)).trans hw173_0), ((HB.out.cell (bl_ w _ hw173_1)).trans hw173_1), ((HB.out.cell (bl_ w _ hw173_2)).trans hw173_2)⟩ (fun hHeld => ?_); refine with_tabW pouchlaw1_FrameFeeds.tab11 pouchlaw1_FrameFeeds.bits11 (fun HT_ HW_ => ?_)
            generalize w24.drew = w25 at HO160 HO166 BK168 HB HR172_2 HR173_2 hx172_0 hx172_1 hx172_2 hx173_0 hx173_1 hx173_2 hHeld ⊢
            refine pure_ (i := 0) (N := some 58) (v := ?_) (a' := ?_) #[true, false, false, false, false, false, false, false, false, false, false, false, false, false, false, false, false] rfl rfl (any_of HT_.out (by kernel_rfl)) (fun _ _ _ h => h) (Or.inl ⟨by rfl, ?_⟩) ?_ ?_
            rotate_left
            · intro w'; go_simp; with_reducible rfl
            rotate_left
            ·
             simp only [Act.put, s1_, s2_, s3_, i64_w, i32_w]
             rfl
            refine pure_ (i := 1) (N := some 59) (v := ?_) (a' := ?_) #[true, true, false, false, false, false, false, false, false, false, false, false, false, false, false, false, false] rfl rfl (any_of HT_.out (by kernel_rfl)) (fun _ _ _ h => h) (Or.inl ⟨by rfl, ?_⟩) ?_ ?_
            rotate_left
            · intro w'; go_simp; with_reducible rfl
            rotate_left
            ·
             simp only [Act.put, s1_, s2_, s3_, i64_w, i32_w]
             rfl
            refine pure_ (i := 2) (N := some 60) (v := ?_) (a' := ?_) #[true, true, true, false, false, false, false, false, false, false, false, false, false, false, false, false, false] rfl rfl (any_of HT_.out (by kernel_rfl)) (fun _ _ _ h => h) (Or.inl ⟨by rfl, ?_⟩) ?_ ?_
            rotate_left
            · intro w'; go_simp; with_reducible rfl
            rotate_left
            ·
             simp only [Act.put, s1_, s2_, s3_, i64_w, i32_w]
             rfl
            refine pure_ (i := 3) (N := some 61) (v := ?_) (a' := ?_) #[true, true, true, true, false, false, false, false, false, false, false, false, false, false, false, false, false] rfl rfl (any_of HT_.out (by kernel_rfl)) (fun _ _ _ h => h) (Or.inl ⟨by rfl, ?_⟩) ?_ ?_
            rotate_left
            · intro w'; go_simp; with_reducible rfl
            rotate_left
            ·
             simp only [Act.put, s1_, s2_, s3_, i64_w, i32_w]
             rfl
            refine pure_ (i := 5) (N := some 63) (v := ?_) (a' := ?_) #[true, true, true, true, false, true, false, false, false, false, false, false, false, false, false, false, false] rfl rfl (any_of HT_.out (by kernel_rfl)) (fun _ _ _ h => h) (Or.inl ⟨by rfl, ?_⟩) ?_ ?_
            rotate_left
            · intro w'; go_simp; with_reducible rfl
            rotate_left
            ·
             simp only [Act.put, s1_, s2_, s3_, i64_w, i32_w]
             rfl
            refine pure_ (i := 6) (N := some 64) (v := ?_) (a' := ?_) #[true, true, true, true, false, true, true, false, false, false, false, false, false, false, false, false, false] rfl rfl (any_of HT_.out (by kernel_rfl)) (fun _ _ _ h => h) (Or.inl ⟨by rfl, ?_⟩) ?_ ?_
            rotate_left
            · intro w'; go_simp; with_reducible rfl
            rotate_left
            ·
             simp only [Act.put, s1_, s2_, s3_, i64_w, i32_w]
             rfl
            refine pure_ (i := 7) (N := some 65) (v := ?_) (a' := ?_) #[true, true, true, true, false, true, true, true, false, false, false, false, false, false, false, false, false] rfl rfl (any_of HT_.out (by kernel_rfl)) (fun _ _ _ h => h) (Or.inl ⟨by rfl, ?_⟩) ?_ ?_
            rotate_left
            · intro w'; go_simp; with_reducible rfl
            rotate_left
            ·
             simp only [Act.put, s1_, s2_, s3_, i64_w, i32_w]
             rfl
            refine pure_ (i := 8) (N := some 66) (v := ?_) (a' := ?_) #[true, true, true, true, false, true, true, true, true, false, false, false, false, false, false, false, false] rfl rfl (any_of HT_.out (by kernel_rfl)) (fun _ _ _ h => h) (Or.inl ⟨by rfl, ?_⟩) ?_ ?_
            rotate_left
            · intro w'; go_simp; with_reducible rfl
            rotate_left
            ·
             simp only [Act.put, s1_, s2_, s3_, i64_w, i32_w]
             rfl
            refine take_ (i := 4) (N := some 62) (v := ?_) (a' := ?_) #[true, true, true, true, true, true, true, true, true, false, false, false, false, false, false, false, false] rfl rfl (take_ofW HT_.out HW_.out (by kernel_rfl)) (fun _ _ _ h => h) (Or.inl ⟨by rfl, ?_⟩) hHeld ?_ ?_
            rotate_left
            ·
             rintro w' ⟨s0, s1, s2, s3, s4, s5⟩
             go_simp; with_reducible rfl
            rotate_left
            ·
             simp only [Act.put, s1_, s2_, s3_, i64_w, i32_w]
             rfl
            refine take_ (i := 9) (N := some 67) (v := ?_) (a' := ?_) #[true, true, true, true, true, true, true, true, true, true, false, false, false, false, false, false, false] rfl rfl (take_ofW HT_.out HW_.out (by kernel_rfl)) (fun _ _ _ h => h) (Or.inl ⟨by rfl, ?_⟩) hHeld ?_ ?_
            rotate_left
            ·
             rintro w' ⟨s0, s1, s2, s3, s4, s5⟩
             go_simp; with_reducible rfl
            rotate_left
            ·
             simp only [Act.put, s1_, s2_, s3_, i64_w, i32_w]
             rfl
            refine join_ (σ := Value × Nat) 2 #[true, true, true, true, true, true, true, true, true, true, true, true, true, true, true, false, false] (fun s_ => [(68, .tuple #[.agg #[.string t174, .bool t175], s_.1]), (8, .pointer (some ⟨s_.2, 0, none⟩)), (57, .tuple #[.agg #[.string t174, .bool t175], s_.1]), (69, .agg #[.string t174, .bool t175]), (70, s_.1)]) (fun s_ w' => (w'.cell? (ad155.add ((x3_1).toNat * 3)) = some (.string ((rd_T28 l0 x3_1).f0.f0)) ∧ w'.cell? ⟨(ad155.add ((x3_1).toNat * 3)).block, (ad155.add ((x3_1).toNat * 3)).off + 1, none⟩ = some (.bool ((rd_T28 l0 x3_1).f0.f1)) ∧ w'.cell? ⟨(ad155.add ((x3_1).toNat * 3)).block, (ad155.add ((x3_1).toNat * 3)).off + 2, none⟩ = some (.slice A172_2 ((rd_T28 l0 x3_1).f1).length c172_2) ∧ w'.cell? (ad155.add ((x3_1).toNat * 3)) = some (.string ((rd_T28 l0 x3_1).f0.f0)) ∧ w'.cell? ⟨(ad155.add ((x3_1).toNat * 3)).block, (ad155.add ((x3_1).toNat * 3)).off + 1, none⟩ = some (.bool ((rd_T28 l0 x3_1).f0.f1)) ∧ w'.cell? ⟨(ad155.add ((x3_1).toNat * 3)).block, (ad155.add ((x3_1).toNat * 3)).off + 2, none⟩ = some (.slice A172_2 ((rd_T28 l0 x3_1).f1).length c172_2)) ∧ (Kd.R (Kd.int .u8) 5 w' w.heap.size (fun _ => True) (.slice Ao20 t158.length co20) t158) ∧ (Kd.R k46 46 w' w.heap.size (fun k_ => some k_ ≠ (s_.1 : Value).ownBlock) v165 t164) ∧ (Kd.R k46 46 w' w.heap.size (fun k_ => some k_ ≠ (v165 : Value).ownBlock) s_.1 t176) ∧ (w'.heap[gb168]? = some (.cells #[.string t162, .bool t163] 25 (0, 0))) ∧ (w'.heap[s_.2]? = some (.cells #[.string (⟨#[]⟩ : ByteArray), .bool false] 25 (0, 0))) ∧ (w.heap.size ≤ s_.2) ∧ (w.heap.size ≤ s_.2) ∧ (gb168 ≠ s_.2) ∧ (s_.2 ≠ gb168) ∧ (Below w.heap.size w w')) ?_ ?_
            rotate_left
            ·
             intro hCont
             refine two_ (i := 10) (j := 14) (Ni := some 68) (Nj := some 8) #[true, true, true, true, true, true, true, true, true, true, true, false, false, false, false, false, false] #[true, true, true, true, true, true, true, true, true, true, false, false, false, false, true, false, false] rfl rfl rfl rfl (two_of HT_.out (by kernel_rfl)) (by decide) (by decide) (fun K hK => ?_) (fun K hK => ?_)
             ·
              skip
              refine goes_ Try.func12 (by kernel_rfl) rfl #[.agg #[.string ((rd_T28 l0 x3_1).f0.f0), .bool ((rd_T28 l0 x3_1).f0.f1)], .slice A172_2 ((rd_T28 l0 x3_1).f1).length c172_2] (by rfl) rfl rfl (by (try simp only [m1_, m2_, m3_]); first | done | rfl | (simp only [m4_, m5_]; rfl)) ?_
              with_reducible refine (pouchref1_Feed.calls kj1 ((rd_T28 l0 x3_1).f0.f0) ((rd_T28 l0 x3_1).f0.f1) _ _ ((rd_T28 l0 x3_1).f1) t174 t175 t176 _ ?side1 ?side2 A14.out).mono ?_
              (case side1 => repeat (first | exact (cb_ HR173_2.out HB.out) | (with_reducible refine ca_ ?_ _) | (with_reducible refine cn_ ?_ _) | (with_reducible refine cd_ ?_)))
              (case side2 => exact HC173_2.out)
              rintro e w26 ⟨v177, rfl, ho0, hb⟩
              refine ⟨_, rfl, ?_⟩
              have n0_ := am_ (rb_ (by (with_reducible repeat (first | apply ra_ | apply rn_ | apply re_)); exact HO160.out) hb)
              have n1_ := am_ (Kd.R_elder' (by (with_reducible repeat (first | apply ra_ | apply rn_ | apply re_)); exact HO166.out) (Kd.R_base ho0) hb)
              have n2_ := am_ (Kd.R_lower (Kd.R_new' ho0 (Kd.R_lt (by (with_reducible repeat (first | apply ra_ | apply rn_ | apply re_)); exact HO166.out))) (bz_ (by repeat (first | (with_reducible first | exact HB.out | apply ba_ | apply bn_ | apply bd_ | refine bs_ ?_ GE168.out) | exact HB.out))))
              have n3_ := am_ (bb_ (g := gb168) (o := .cells #[.string t162, .bool t163] 25 (0, 0)) (by (with_reducible repeat (first | refine kn_ ?_ _ | refine kd_ ?_ | refine ka_ ?_ _)); exact BK168.out) hb)
              have n4_ := am_ (bt_ (by repeat (first | (with_reducible first | exact HB.out | apply ba_ | apply bn_ | apply bd_ | refine bs_ ?_ GE168.out) | exact HB.out)) hb)
              clear HO160; clear HO166; clear BK168; clear HB; have HO160 := n0_; have HO166 := n1_; have HO178 := n2_; have BK168 := n3_; have HB := n4_; clear n0_ n1_ n2_ n3_ n4_
              (try clear hb)
              (try clear hb2)
              (try clear hk)
              (try clear hi)
              (try clear ho0)
              refine hK.out _ _ ⟨((HB.out.cell (bl_ w _ hw172_0)).trans hw172_0), ((HB.out.cell (bl_ w _ hw172_1)).trans hw172_1), ((HB.out.cell (bl_ w _ hw172_2)).trans hw172_2), ((HB.out.cell (bl_ w _ hw173_0)).trans hw173_0), ((HB.out.cell (bl_ w _ hw173_1)).trans hw173_1), ((HB.out.cell (bl_ w _ hw173_2)).trans hw173_2)⟩ (fun hHeld => ?_)
              clear hK K
              refine norm_ (a' := ?_) ?_ ?_
              rotate_left
              ·
               show Act.put _ (some 68) _ = _
               simp only [Act.put, s1_, s2_, s3_, i64_w, i32_w]
               rfl
              refine pure_ (i := 11) (N := some 57) (v := ?_) (a' := ?_) #[true, true, true, true, true, true, true, true, true, true, true, true, false, false, false, false, false] rfl rfl (any_of HT_.out (by kernel_rfl)) (fun _ _ _ h => h) (Or.inl ⟨by rfl, ?_⟩) ?_ ?_
              rotate_left
              · intro w'; go_simp; with_reducible rfl
              rotate_left
              ·
               simp only [Act.put, s1_, s2_, s3_, i64_w, i32_w]
               rfl
              refine pure_ (i := 12) (N := some 69) (v := ?_) (a' := ?_) #[true, true, true, true, true, true, true, true, true, true, true, true, true, false, false, false, false] rfl rfl (any_of HT_.out (by kernel_rfl)) (fun _ _ _ h => h) (Or.inl ⟨by rfl, ?_⟩) ?_ ?_
              rotate_left
              · intro w'; go_simp; with_reducible rfl
              rotate_left
              ·
               simp only [Act.put, s1_, s2_, s3_, i64_w, i32_w]
               rfl
              refine pure_ (i := 13) (N := some 70) (v := ?_) (a' := ?_) #[true, true, true, true, true, true, true, true, true, true, true, true, true, true, false, false, false] rfl rfl (any_of HT_.out (by kernel_rfl)) (fun _ _ _ h => h) (Or.inl ⟨by rfl, ?_⟩) ?_ ?_
              rotate_left
              · intro w'; go_simp; with_reducible rfl
              rotate_left
              ·
               simp only [Act.put, s1_, s2_, s3_, i64_w, i32_w]
               rfl
              refine one_ (i := 14) (N := some 8) #[true, true, true, true, true, true, true, true, true, true, true, true, true, true, true, false, false] rfl rfl (one_of HT_.out (by kernel_rfl)) (by decide) (fun K hK => ?_)
              refine box_step ?hg (N := 8) ?hd (cs := #[.string (⟨#[]⟩ : ByteArray), .bool false]) (t := 25) ?hr ?_; (case hd => rfl); (case hg => rfl); (case hr => first | (go_simp; done) | (go_simp; rfl))
              intro gb179 hg w27 hbox hb
              have n0_ := am_ (rb_ (by (with_reducible repeat (first | apply ra_ | apply rn_ | apply re_)); exact HO160.out) hb)
              have n1_ := am_ (rb_ (by (with_reducible repeat (first | apply ra_ | apply rn_ | apply re_)); exact HO166.out) hb)
              have n2_ := am_ (rb_ (by (with_reducible repeat (first | apply ra_ | apply rn_ | apply re_)); exact HO178.out) hb)
              have n3_ := am_ (bb_ (g := gb168) (o := .cells #[.string t162, .bool t163] 25 (0, 0)) (by (with_reducible repeat (first | refine kn_ ?_ _ | refine kd_ ?_ | refine ka_ ?_ _)); exact BK168.out) hb)
              have n4_ := am_ (bt_ (by repeat (first | (with_reducible first | exact HB.out | apply ba_ | apply bn_ | apply bd_ | refine bs_ ?_ GE168.out) | exact HB.out)) hb)
              have n5_ := am_ (hbox)
              have n6_ := am_ ((by rw [hg]; exact (bz_ (by repeat (first | (with_reducible first | exact HB.out | apply ba_ | apply bn_ | apply bd_ | refine bs_ ?_ GE168.out) | exact HB.out))) : w.heap.size ≤ gb179))
              have n7_ := am_ ((by rw [hg]; exact (bz_ (by repeat (first | (with_reducible first | exact HB.out | apply ba_ | apply bn_ | apply bd_ | refine bs_ ?_ GE168.out) | exact HB.out))) : w.heap.size ≤ gb179))
              have n8_ := am_ ((by rw [hg]; exact nl_ (blk_lt (g := gb168) (o := .cells #[.string t162, .bool t163] 25 (0, 0)) (by (with_reducible repeat (first | refine kn_ ?_ _ | refine kd_ ?_ | refine ka_ ?_ _)); exact BK168.out)) : gb168 ≠ gb179))
              have n9_ := am_ ((by rw [hg]; exact Nat.ne_of_gt (blk_lt (g := gb168) (o := .cells #[.string t162, .bool t163] 25 (0, 0)) (by (with_reducible repeat (first | refine kn_ ?_ _ | refine kd_ ?_ | refine ka_ ?_ _)); exact BK168.out)) : gb179 ≠ gb168))
              clear HO160; clear HO166; clear HO178; clear BK168; clear HB; have HO160 := n0_; have HO166 := n1_; have HO178 := n2_; have BK168 := n3_; have HB := n4_; have BK179 := n5_; have GW179 := n6_; have GE179 := n7_; have NB168_179 := n8_; have NB179_168 := n9_; clear n0_ n1_ n2_ n3_ n4_ n5_ n6_ n7_ n8_ n9_; clear hb hbox hg
              refine hK.out _ _ ⟨((HB.out.cell (bl_ w _ hw172_0)).trans hw172_0), ((HB.out.cell (bl_ w _ hw172_1)).trans hw172_1), ((HB.out.cell (bl_ w _ hw172_2)).trans hw172_2), ((HB.out.cell (bl_ w _ hw173_0)).trans hw173_0), ((HB.out.cell (bl_ w _ hw173_1)).trans hw173_1), ((HB.out.cell (bl_ w _ hw173_2)).trans hw173_2)⟩ (fun hHeld => ?_)
              clear hK K
              refine norm_ (a' := ?_) ?_ ?_
              rotate_left
              ·
               show Act.put _ (some 8) _ = _
               simp only [Act.put, s1_, s2_, s3_, i64_w, i32_w]
               rfl
              exact norm_ (by simp only [putAll, Act.put, s1_, s2_, s3_]) (hCont (v177, gb179) _ ⟨hHeld, (by (with_reducible repeat (first | apply ra_ | apply rn_ | apply re_)); exact HO160.out), (by (with_reducible repeat (first | apply ra_ | apply rn_ | apply re_)); exact Kd.R_mono HO166.out (fun _ hk => hk.2)), (by (with_reducible repeat (first | apply ra_ | apply rn_ | apply re_)); exact Kd.R_mono HO178.out (fun _ hk => hk.2)), (by (with_reducible repeat (first | refine kn_ ?_ _ | refine kd_ ?_ | refine ka_ ?_ _)); exact BK168.out), (by (with_reducible repeat (first | refine kn_ ?_ _ | refine kd_ ?_ | refine ka_ ?_ _)); exact BK179.out), GW179.out, GE179.out, NB168_179.out, NB179_168.out, (by repeat (first | (with_reducible first | exact HB.out | apply ba_ | apply bn_ | apply bd_ | refine bs_ ?_ GE168.out | refine bs_ ?_ GE179.out) | exact HB.out))⟩)
             ·
              skip
              refine box_step ?hg (N := 8) ?hd (cs := #[.string (⟨#[]⟩ : ByteArray), .bool false]) (t := 25) ?hr ?_; (case hd => rfl); (case hg => rfl); (case hr => first | (go_simp; done) | (go_simp; rfl))
              intro gb179 hg w26 hbox hb
              have n0_ := am_ (rb_ (by (with_reducible repeat (first | apply ra_ | apply rn_ | apply re_)); exact HO160.out) hb)
              have n1_ := am_ (rb_ (by (with_reducible repeat (first | apply ra_ | apply rn_ | apply re_)); exact HO166.out) hb)
              have n2_ := am_ (bb_ (g := gb168) (o := .cells #[.string t162, .bool t163] 25 (0, 0)) (by (with_reducible repeat (first | refine kn_ ?_ _ | refine kd_ ?_ | refine ka_ ?_ _)); exact BK168.out) hb)
              have n3_ := am_ (bt_ (by repeat (first | (with_reducible first | exact HB.out | apply ba_ | apply bn_ | apply bd_ | refine bs_ ?_ GE168.out) | exact HB.out)) hb)
              have n4_ := am_ (hbox)
              have n5_ := am_ ((by rw [hg]; exact (bz_ (by repeat (first | (with_reducible first | exact HB.out | apply ba_ | apply bn_ | apply bd_ | refine bs_ ?_ GE168.out) | exact HB.out))) : w.heap.size ≤ gb179))
              have n6_ := am_ ((by rw [hg]; exact (bz_ (by repeat (first | (with_reducible first | exact HB.out | apply ba_ | apply bn_ | apply bd_ | refine bs_ ?_ GE168.out) | exact HB.out))) : w.heap.size ≤ gb179))
              have n7_ := am_ ((by rw [hg]; exact nl_ (blk_lt (g := gb168) (o := .cells #[.string t162, .bool t163] 25 (0, 0)) (by (with_reducible repeat (first | refine kn_ ?_ _ | refine kd_ ?_ | refine ka_ ?_ _)); exact BK168.out)) : gb168 ≠ gb179))
              have n8_ := am_ ((by rw [hg]; exact Nat.ne_of_gt (blk_lt (g := gb168) (o := .cells #[.string t162, .bool t163] 25 (0, 0)) (by (with_reducible repeat (first | refine kn_ ?_ _ | refine kd_ ?_ | refine ka_ ?_ _)); exact BK168.out)) : gb179 ≠ gb168))
              clear HO160; clear HO166; clear BK168; clear HB; have HO160 := n0_; have HO166 := n1_; have BK168 := n2_; have HB := n3_; have BK179 := n4_; have GW179 := n5_; have GE179 := n6_; have NB168_179 := n7_; have NB179_168 := n8_; clear n0_ n1_ n2_ n3_ n4_ n5_ n6_ n7_ n8_; clear hb hbox hg
              refine hK.out _ _ ⟨((HB.out.cell (bl_ w _ hw172_0)).trans hw172_0), ((HB.out.cell (bl_ w _ hw172_1)).trans hw172_1), ((HB.out.cell (bl_ w _ hw172_2)).trans hw172_2), ((HB.out.cell (bl_ w _ hw173_0)).trans hw173_0), ((HB.out.cell (bl_ w _ hw173_1)).trans hw173_1), ((HB.out.cell (bl_ w _ hw173_2)).trans hw173_2)⟩ (fun hHeld => ?_)
              clear hK K
              refine norm_ (a' := ?_) ?_ ?_
              rotate_left
              ·
               show Act.put _ (some 8) _ = _
               simp only [Act.put, s1_, s2_, s3_, i64_w, i32_w]
               rfl
              refine one_ (i := 10) (N := some 68) #[true, true, true, true, true, true, true, true, true, true, true, false, false, false, true, false, false] rfl rfl (one_of HT_.out (by kernel_rfl)) (by decide) (fun K hK => ?_)
              refine goes_ Try.func12 (by kernel_rfl) rfl #[.agg #[.string ((rd_T28 l0 x3_1).f0.f0), .bool ((rd_T28 l0 x3_1).f0.f1)], .slice A172_2 ((rd_T28 l0 x3_1).f1).length c172_2] (by rfl) rfl rfl (by (try simp only [m1_, m2_, m3_]); first | done | rfl | (simp only [m4_, m5_]; rfl)) ?_
              with_reducible refine (pouchref1_Feed.calls kj1 ((rd_T28 l0 x3_1).f0.f0) ((rd_T28 l0 x3_1).f0.f1) _ _ ((rd_T28 l0 x3_1).f1) t174 t175 t176 _ ?side1 ?side2 A14.out).mono ?_
              (case side1 => repeat (first | exact (cb_ HR173_2.out HB.out) | (with_reducible refine ca_ ?_ _) | (with_reducible refine cn_ ?_ _) | (with_reducible refine cd_ ?_)))
              (case side2 => exact HC173_2.out)
              rintro e w27 ⟨v177, rfl, ho0, hb⟩
              refine ⟨_, rfl, ?_⟩
              have n0_ := am_ (rb_ (by (with_reducible repeat (first | apply ra_ | apply rn_ | apply re_)); exact HO160.out) hb)
              have n1_ := am_ (Kd.R_elder' (by (with_reducible repeat (first | apply ra_ | apply rn_ | apply re_)); exact HO166.out) (Kd.R_base ho0) hb)
              have n2_ := am_ (Kd.R_lower (Kd.R_new' ho0 (Kd.R_lt (by (with_reducible repeat (first | apply ra_ | apply rn_ | apply re_)); exact HO166.out))) (bz_ (by repeat (first | (with_reducible first | exact HB.out | apply ba_ | apply bn_ | apply bd_ | refine bs_ ?_ GE168.out | refine bs_ ?_ GE179.out) | exact HB.out))))
              have n3_ := am_ (bb_ (g := gb168) (o := .cells #[.string t162, .bool t163] 25 (0, 0)) (by (with_reducible repeat (first | refine kn_ ?_ _ | refine kd_ ?_ | refine ka_ ?_ _)); exact BK168.out) hb)
              have n4_ := am_ (bb_ (g := gb179) (o := .cells #[.string (⟨#[]⟩ : ByteArray), .bool false] 25 (0, 0)) (by (with_reducible repeat (first | refine kn_ ?_ _ | refine kd_ ?_ | refine ka_ ?_ _)); exact BK179.out) hb)
              have n5_ := am_ (bt_ (by repeat (first | (with_reducible first | exact HB.out | apply ba_ | apply bn_ | apply bd_ | refine bs_ ?_ GE168.out | refine bs_ ?_ GE179.out) | exact HB.out)) hb)
              clear HO160; clear HO166; clear BK168; clear BK179; clear HB; have HO160 := n0_; have HO166 := n1_; have HO178 := n2_; have BK168 := n3_; have BK179 := n4_; have HB := n5_; clear n0_ n1_ n2_ n3_ n4_ n5_
              (try clear hb)
              (try clear hb2)
              (try clear hk)
              (try clear hi)
              (try clear ho0)
              refine hK.out _ _ ⟨((HB.out.cell (bl_ w _ hw172_0)).trans hw172_0), ((HB.out.cell (bl_ w _ hw172_1)).trans hw172_1), ((HB.out.cell (bl_ w _ hw172_2)).trans hw172_2), ((HB.out.cell (bl_ w _ hw173_0)).trans hw173_0), ((HB.out.cell (bl_ w _ hw173_1)).trans hw173_1), ((HB.out.cell (bl_ w _ hw173_2)).trans hw173_2)⟩ (fun hHeld => ?_)
              clear hK K
              refine norm_ (a' := ?_) ?_ ?_
              rotate_left
              ·
               show Act.put _ (some 68) _ = _
               simp only [Act.put, s1_, s2_, s3_, i64_w, i32_w]
               rfl
              refine pure_ (i := 11) (N := some 57) (v := ?_) (a' := ?_) #[true, true, true, true, true, true, true, true, true, true, true, true, false, false, true, false, false] rfl rfl (any_of HT_.out (by kernel_rfl)) (fun _ _ _ h => h) (Or.inl ⟨by rfl, ?_⟩) ?_ ?_
              rotate_left
              · intro w'; go_simp; with_reducible rfl
              rotate_left
              ·
               simp only [Act.put, s1_, s2_, s3_, i64_w, i32_w]
               rfl
              refine pure_ (i := 12) (N := some 69) (v := ?_) (a' := ?_) #[true, true, true, true, true, true, true, true, true, true, true, true, true, false, true, false, false] rfl rfl (any_of HT_.out (by kernel_rfl)) (fun _ _ _ h => h) (Or.inl ⟨by rfl, ?_⟩) ?_ ?_
              rotate_left
              · intro w'; go_simp; with_reducible rfl
              rotate_left
              ·
               simp only [Act.put, s1_, s2_, s3_, i64_w, i32_w]
               rfl
              refine pure_ (i := 13) (N := some 70) (v := ?_) (a' := ?_) #[true, true, true, true, true, true, true, true, true, true, true, true, true, true, true, false, false] rfl rfl (any_of HT_.out (by kernel_rfl)) (fun _ _ _ h => h) (Or.inl ⟨by rfl, ?_⟩) ?_ ?_
              rotate_left
              · intro w'; go_simp; with_reducible rfl
              rotate_left
              ·
               simp only [Act.put, s1_, s2_, s3_, i64_w, i32_w]
               rfl
              exact norm_ (by simp only [putAll, Act.put, s1_, s2_, s3_]) (hCont (v177, gb179) _ ⟨hHeld, (by (with_reducible repeat (first | apply ra_ | apply rn_ | apply re_)); exact HO160.out), (by (with_reducible repeat (first | apply ra_ | apply rn_ | apply re_)); exact Kd.R_mono HO166.out (fun _ hk => hk.2)), (by (with_reducible repeat (first | apply ra_ | apply rn_ | apply re_)); exact Kd.R_mono HO178.out (fun _ hk => hk.2)), (by (with_reducible repeat (first | refine kn_ ?_ _ | refine kd_ ?_ | refine ka_ ?_ _)); exact BK168.out), (by (with_reducible repeat (first | refine kn_ ?_ _ | refine kd_ ?_ | refine ka_ ?_ _)); exact BK179.out), GW179.out, GE179.out, NB168_179.out, NB179_168.out, (by repeat (first | (with_reducible first | exact HB.out | apply ba_ | apply bn_ | apply bd_ | refine bs_ ?_ GE168.out | refine bs_ ?_ GE179.out) | exact HB.out))⟩)
            rintro ⟨v177, gb179⟩ w28 ⟨hS_, h0_, h1_, h2_, h3_, h4_, h5_, h6_, h7_, h8_, h9_⟩
            have n0_ : Aside0 (Kd.R (Kd.int .u8) 5 w28 w.heap.size (fun _ => True) (.slice Ao20 t158.length co20) t158) := ⟨h0_⟩
            have n1_ : Aside0 (Kd.R k46 46 w28 w.heap.size (fun k_ => some k_ ≠ (v177 : Value).ownBlock) v165 t164) := ⟨h1_⟩
            have n2_ : Aside0 (Kd.R k46 46 w28 w.heap.size (fun k_ => some k_ ≠ (v165 : Value).ownBlock) v177 t176) := ⟨h2_⟩
            have n3_ : Aside0 (w28.heap[gb168]? = some (.cells #[.string t162, .bool t163] 25 (0, 0))) := ⟨h3_⟩
            have n4_ : Aside0 (w28.heap[gb179]? = some (.cells #[.string (⟨#[]⟩ : ByteArray), .bool false] 25 (0, 0))) := ⟨h4_⟩
            have n5_ : Aside0 (w.heap.size ≤ gb179) := ⟨h5_⟩
            have n6_ : Aside0 (w.heap.size ≤ gb179) := ⟨h6_⟩
            have n7_ : Aside0 (gb168 ≠ gb179) := ⟨h7_⟩
            have n8_ : Aside0 (gb179 ≠ gb168) := ⟨h8_⟩
            have n9_ : Aside0 (Below w.heap.size w w28) := ⟨h9_⟩
            clear HO160; clear HO166; clear BK168; clear HB; clear h0_ h1_ h2_ h3_ h4_ h5_ h6_ h7_ h8_ h9_; have HO160 := n0_; have HO166 := n1_; have HO178 := n2_; have BK168 := n3_; have BK179 := n4_; have GW179 := n5_; have GE179 := n6_; have NB168_179 := n7_; have NB179_168 := n8_; have HB := n9_; clear n0_ n1_ n2_ n3_ n4_ n5_ n6_ n7_ n8_ n9_
            have hHeld : w28.cell? (ad155.add ((x3_1).toNat * 3)) = some (.string ((rd_T28 l0 x3_1).f0.f0)) ∧ w28.cell? ⟨(ad155.add ((x3_1).toNat * 3)).block, (ad155.add ((x3_1).toNat * 3)).off + 1, none⟩ = some (.bool ((rd_T28 l0 x3_1).f0.f1)) ∧ w28.cell? ⟨(ad155.add ((x3_1).toNat * 3)).block, (ad155.add ((x3_1).toNat * 3)).off + 2, none⟩ = some (.slice A172_2 ((rd_T28 l0 x3_1).f1).length c172_2) ∧ w28.cell? (ad155.add ((x3_1).toNat * 3)) = some (.string ((rd_T28 l0 x3_1).f0.f0)) ∧ w28.cell? ⟨(ad155.add ((x3_1).toNat * 3)).block, (ad155.add ((x3_1).toNat * 3)).off + 1, none⟩ = some (.bool ((rd_T28 l0 x3_1).f0.f1)) ∧ w28.cell? ⟨(ad155.add ((x3_1).toNat * 3)).block, (ad155.add ((x3_1).toNat * 3)).off + 2, none⟩ = some (.slice A172_2 ((rd_T28 l0 x3_1).f1).length c172_2) := hS_
            refine norm_ (a' := ?_) ?_ ?_
            rotate_left
            ·
             simp only [putAll, Act.put, s1_, s2_, s3_]
             rfl
            refine one_ (i := 15) (N := none) #[true, true, true, true, true, true, true, true, true, true, true, true, true, true, true, true, false] rfl rfl (one_of HT_.out (by kernel_rfl)) (by decide) (fun K hK => ?_)
            have hs29 : w28.cell? ⟨gb179, 0, none⟩ = some (.string (⟨#[]⟩ : ByteArray)) := (blk_cell BK179.out 0).trans rfl
            have hfs29 := blk_frozen BK179.out 0
            have hns29_0 := NB168_179.out
            have hms29_0 := NB179_168.out
            have hs30 : w28.cell? ⟨gb179, 1, none⟩ = some (.bool false) := (blk_cell BK179.out 1).trans rfl
            have hfs30 := blk_frozen BK179.out 1
            have hns30_0 := NB168_179.out
            have hms30_0 := NB179_168.out
            refine skip_ (w1 := ?_) (by rfl) rfl ?_ ?_
            rotate_left
            ·
             go_simp
             rfl
            refine hK.out _ _ ⟨((cf_ (p := ⟨gb179, _, none⟩) (nb_ hw172_0 GW179.out) _).trans (((cf_ (p := ⟨gb179, _, none⟩) (nb_ hw172_0 GW179.out) _).trans (hHeld.1)))), ((cf_ (p := ⟨gb179, _, none⟩) (nb_ hw172_1 GW179.out) _).trans (((cf_ (p := ⟨gb179, _, none⟩) (nb_ hw172_1 GW179.out) _).trans (hHeld.2.1)))), ((cf_ (p := ⟨gb179, _, none⟩) (nb_ hw172_2 GW179.out) _).trans (((cf_ (p := ⟨gb179, _, none⟩) (nb_ hw172_2 GW179.out) _).trans (hHeld.2.2.1)))), ((cf_ (p := ⟨gb179, _, none⟩) (nb_ hw173_0 GW179.out) _).trans (((cf_ (p := ⟨gb179, _, none⟩) (nb_ hw173_0 GW179.out) _).trans (hHeld.2.2.2.1)))), ((cf_ (p := ⟨gb179, _, none⟩) (nb_ hw173_1 GW179.out) _).trans (((cf_ (p := ⟨gb179, _, none⟩) (nb_ hw173_1 GW179.out) _).trans (hHeld.2.2.2.2.1)))), ((cf_ (p := ⟨gb179, _, none⟩) (nb_ hw173_2 GW179.out) _).trans (((cf_ (p := ⟨gb179, _, none⟩) (nb_ hw173_2 GW179.out) _).trans (hHeld.2.2.2.2.2))))⟩ (fun hHeld => ?_)
            clear hK K
            refine pure_ (i := 16) (N := some 9) (v := ?_) (a' := ?_) #[true, true, true, true, true, true, true, true, true, true, true, true, true, true, true, true, true] rfl rfl (any_of HT_.out (by kernel_rfl)) (fun _ _ _ h => h) (Or.inl ⟨by rfl, ?_⟩) ?_ ?_
            rotate_left
            · intro w'; go_simp; with_reducible rfl
            rotate_left
            ·
             simp only [Act.put, s1_, s2_, s3_, i64_w, i32_w]
             rfl
            refine done_ (done_of HT_.out (by kernel_rfl)) ?_
            try go_wp2_with (first | ((with_reducible refine gate_callee (f := 11) rfl ?_); refine goesL_ (some 72) rfl rfl Try.func11 (by kernel_rfl) rfl #[.int .i64 t167] rfl (by (try simp only [m1_, m2_, m3_]); first | done | rfl | (simp only [m4_, m5_]; rfl)) ?_; (with_reducible refine (pouchlaw1_num.calls t167 t180 _ A15.out).mono ?_); rintro e w' ⟨rfl, ⟨nd, rfl⟩⟩; refine ⟨_, rfl, ?_⟩; have hnb31 := NB168_179.out; have hnc31 := NB179_168.out; have hcz32_0 : w28.cell? ⟨gb168, 0, none⟩ = some (.string t162) := (blk_cell BK168.out 0).trans rfl; have hcz32_1 : w28.cell? ⟨gb168, 1, none⟩ = some (.bool t163) := (blk_cell BK168.out 1).trans rfl; have hfz32_0 := blk_frozen BK168.out 0; have hfz32_1 := blk_frozen BK168.out 1; have hcz33_0 : w28.cell? ⟨gb179, 0, none⟩ = some (.string (⟨#[]⟩ : ByteArray)) := (blk_cell BK179.out 0).trans rfl; have hcz33_1 : w28.cell? ⟨gb179, 1, none⟩ = some (.bool false) := (blk_cell BK179.out 1).trans rfl; have hfz33_0 := blk_frozen BK179.out 0; have hfz33_1 := blk_frozen BK179.out 1))
            go_ret
            exact ⟨by first | rfl | (simp [errW_none, errW_some] <;> rfl) | (simp [*, errW_none, errW_some] <;> rfl), by repeat (first | (with_reducible first | exact HB.out | apply ba_ | apply bn_ | apply bd_ | refine bs_ ?_ GE168.out | refine bs_ ?_ GE179.out) | exact HB.out)⟩
           ·
            rw [if_neg c17] at H
            have c17b0 : (!(t162.toList == t174.toList) || (!(t163 == t175))) = false := by simpa using c17
            clear c17
            replace H := Option.bind_eq_some_iff.mp H
            obtain ⟨t181, A340, H⟩ := H
            replace H : (if t181 = true then ((pouchref0_EqBytes.f kj1 t158 ((rd_T28 l0 x3_1).f1)).bind fun t183 => (if t183 = true then (pouchlaw1_FrameFeeds.l0 kj1 l0 (wrap64 (x3_1 + 1))) else (some false))) else (some false)) = some r := H
            have A34 := am_ A340
            clear A340
            by_cases c35 : t181 = true
            ·
             subst c35
             have H1 : ((pouchref0_EqBytes.f kj1 t158 ((rd_T28 l0 x3_1).f1)).bind fun t183 => (if t183 = true then (pouchlaw1_FrameFeeds.l0 kj1 l0 (wrap64 (x3_1 + 1))) else (some false))) = some r := by rw [if_pos rfl] at H; exact H
             clear H; have H := H1; clear H1
             replace H := Option.bind_eq_some_iff.mp H
             obtain ⟨t183, A360, H⟩ := H
             replace H : (if t183 = true then (pouchlaw1_FrameFeeds.l0 kj1 l0 (wrap64 (x3_1 + 1))) else (some false)) = some r := H
             have A36 := am_ A360
             clear A360
             by_cases c37 : t183 = true
             ·
              subst c37
              have H1 : (pouchlaw1_FrameFeeds.l0 kj1 l0 (wrap64 (x3_1 + 1))) = some r := by rw [if_pos rfl] at H; exact H
              clear H; have H := H1; clear H1
              have H' := am_ H
              clear H
              have p155 : 0 ≤ (x3_1 : Int) := od_ (by first | (with_reducible assumption) | assumption)
              have q155 : x3_1 < (l0.length : Int) := od_ (by first | (with_reducible assumption) | assumption)
              obtain ⟨ad155, A155_2, c155_2, e155, hx155_0, hx155_1, hx155_2, hl155_2, hi155_2⟩ := at_T28 HR0.out x3_1 p155 q155
              cases e155
              replace hx155_0 := (HB.out.cell (bl_ w _ hx155_0)).trans hx155_0
              replace hx155_1 := (HB.out.cell (bl_ w _ hx155_1)).trans hx155_1
              replace hx155_2 := (HB.out.cell (bl_ w _ hx155_2)).trans hx155_2
              have HR155_2 := am_ hi155_2
              have HC155_2 := am_ hl155_2
              clear hi155_2 hl155_2
              replace p155 := eq_true p155
              replace q155 := eq_true q155
              try go_wp2_with (first | ((with_reducible refine gate_callee (f := 7) rfl ?_); refine goesL_ (some 24) rfl rfl Try.func7 (by kernel_rfl) rfl #[.agg #[.string ((rd_T28 l0 x3_1).f0.f0), .bool ((rd_T28 l0 x3_1).f0.f1), .slice A155_2 ((rd_T28 l0 x3_1).f1).length c155_2]] rfl (by (try simp only [m1_, m2_, m3_]); first | done | rfl | (simp only [m4_, m5_]; rfl)) ?_; (with_reducible refine (pouchlaw1_heavy.calls ((rd_T28 l0 x3_1).f0.f0) ((rd_T28 l0 x3_1).f0.f1) _ _ ((rd_T28 l0 x3_1).f1) false _ ?side1 ?side2 A7.out).mono ?_); (case side1 => repeat (first | exact (cb_ HR155_2.out HB.out) | (with_reducible refine ca_ ?_ _) | (with_reducible refine cn_ ?_ _) | (with_reducible refine cd_ ?_))); (case side2 => exact HC155_2.out); rintro e w38 ⟨rfl, hb⟩; refine ⟨_, rfl, ?_⟩; have n0_ := am_ (bt_ (by repeat (first | (with_reducible first | exact HB.out | apply ba_ | apply bn_ | apply bd_) | exact HB.out)) hb); clear HB; have HB := n0_; clear n0_; (try clear hb); (try clear hb2); (try clear hk); (try clear hi); have p157 : 0 ≤ (x3_1 : Int) := od_ (by first | (with_reducible assumption) | assumption); have q157 : x3_1 < (l0.length : Int) := od_ (by first | (with_reducible assumption) | assumption); obtain ⟨ad157, A157_2, c157_2, e157, hx157_0, hx157_1, hx157_2, hl157_2, hi157_2⟩ := at_T28 HR0.out x3_1 p157 q157; obtain rfl : ad155 = ad157 := (by injection e157); replace hx157_0 := (HB.out.cell (bl_ w _ hx157_0)).trans hx157_0; replace hx157_1 := (HB.out.cell (bl_ w _ hx157_1)).trans hx157_1; replace hx157_2 := (HB.out.cell (bl_ w _ hx157_2)).trans hx157_2; have HR157_2 := am_ hi157_2; have HC157_2 := am_ hl157_2; clear hi157_2 hl157_2; replace p157 := eq_true p157; replace q157 := eq_true q157) | ((with_reducible refine gate_callee (f := 8) rfl ?_); refine goesL_ (some 30) rfl rfl Try.func8 (by kernel_rfl) rfl #[.slice A157_2 ((rd_T28 l0 x3_1).f1).length c157_2] rfl (by (try simp only [m1_, m2_, m3_]); first | done | rfl | (simp only [m4_, m5_]; rfl)) ?_; (with_reducible refine (pouchref0_CopyBytes.calls kj1 _ _ ((rd_T28 l0 x3_1).f1) t158 _ ?side1 ?side2 A10.out).mono ?_); (case side1 => repeat (first | exact (cb_ HR157_2.out HB.out) | (with_reducible refine ca_ ?_ _) | (with_reducible refine cn_ ?_ _) | (with_reducible refine cd_ ?_))); (case side2 => exact HC157_2.out); rintro e w39 ⟨v159, rfl, ho0, hb⟩; refine ⟨_, rfl, ?_⟩; have n0_ := am_ (Kd.R_lower ho0 (bz_ (by repeat (first | (with_reducible first | exact HB.out | apply ba_ | apply bn_ | apply bd_) | exact HB.out)))); have n1_ := am_ (bt_ (by repeat (first | (with_reducible first | exact HB.out | apply ba_ | apply bn_ | apply bd_) | exact HB.out)) hb); clear HB; have HO160 := n0_; have HB := n1_; clear n0_ n1_; (try clear hb); (try clear hb2); (try clear hk); (try clear hi); (try clear ho0); have p161 : 0 ≤ (x3_1 : Int) := od_ (by first | (with_reducible assumption) | assumption); have q161 : x3_1 < (l0.length : Int) := od_ (by first | (with_reducible assumption) | assumption); obtain ⟨ad161, A161_2, c161_2, e161, hx161_0, hx161_1, hx161_2, hl161_2, hi161_2⟩ := at_T28 HR0.out x3_1 p161 q161; obtain rfl : ad155 = ad161 := (by injection e161); replace hx161_0 := (HB.out.cell (bl_ w _ hx161_0)).trans hx161_0; replace hx161_1 := (HB.out.cell (bl_ w _ hx161_1)).trans hx161_1; replace hx161_2 := (HB.out.cell (bl_ w _ hx161_2)).trans hx161_2; have HR161_2 := am_ hi161_2; have HC161_2 := am_ hl161_2; clear hi161_2 hl161_2; replace p161 := eq_true p161; replace q161 := eq_true q161; obtain ⟨Ao40, co40, eo40⟩ := Kd.R_slice HO160.out; subst eo40) | ((with_reducible refine gate_callee (f := 9) rfl ?_); refine goesL_ (some 38) rfl rfl Try.func9 (by kernel_rfl) rfl #[.agg #[.string ((rd_T28 l0 x3_1).f0.f0), .bool ((rd_T28 l0 x3_1).f0.f1)], .slice Ao40 t158.length co40] rfl (by (try simp only [m1_, m2_, m3_]); first | done | rfl | (simp only [m4_, m5_]; rfl)) ?_; (with_reducible refine (frame_Feed.calls kj1 ((rd_T28 l0 x3_1).f0.f0) ((rd_T28 l0 x3_1).f0.f1) _ _ t158 t162 t163 t164 t167 _ ?side1 ?side2 ?side3 A11.out).mono ?_); (case side1 => repeat (first | exact (Kd.R_reads' HO160.out).2.2 | (with_reducible refine ca_ ?_ _) | (with_reducible refine cn_ ?_ _) | (with_reducible refine cd_ ?_))); (case side2 => exact (Kd.R_reads' HO160.out).2.1); (case side3 => exact GrOk.below hG (by repeat (first | (with_reducible first | exact HB.out | apply ba_ | apply bn_ | apply bd_) | exact HB.out))); rintro e w41 ⟨v165, rfl, ho0, hb⟩; refine ⟨_, rfl, ?_⟩; have n0_ := am_ (rb_ (by (with_reducible repeat (first | apply ra_ | apply rn_ | apply re_)); exact HO160.out) hb); have n1_ := am_ (Kd.R_lower ho0 (bz_ (by repeat (first | (with_reducible first | exact HB.out | apply ba_ | apply bn_ | apply bd_) | exact HB.out)))); have n2_ := am_ (bt_ (by repeat (first | (with_reducible first | exact HB.out | apply ba_ | apply bn_ | apply bd_) | exact HB.out)) hb); clear HO160; clear HB; have HO160 := n0_; have HO166 := n1_; have HB := n2_; clear n0_ n1_ n2_; (try clear hb); (try clear hb2); (try clear hk); (try clear hi); (try clear ho0)) | ((with_reducible refine gate_dst (N := 5) rfl ?_); (try (refine gate_guard (by rfl) ?_; dsimp only)); refine box_event ?hg (N := 5) ?hd (cs := #[.string (⟨#[]⟩ : ByteArray), .bool false]) (t := 25) ?hr ?_; (case hd => rfl); (case hg => rfl); (case hr => first | (go_simp; done) | (go_simp; rfl)); intro gb168 hg w42 hbox hb; have n0_ := am_ (rb_ (by (with_reducible repeat (first | apply ra_ | apply rn_ | apply re_)); exact HO160.out) hb); have n1_ := am_ (rb_ (by (with_reducible repeat (first | apply ra_ | apply rn_ | apply re_)); exact HO166.out) hb); have n2_ := am_ (bt_ (by repeat (first | (with_reducible first | exact HB.out | apply ba_ | apply bn_ | apply bd_) | exact HB.out)) hb); have n3_ := am_ (hbox); have n4_ := am_ ((by rw [hg]; exact (bz_ (by repeat (first | (with_reducible first | exact HB.out | apply ba_ | apply bn_ | apply bd_) | exact HB.out))) : w.heap.size ≤ gb168)); have n5_ := am_ ((by rw [hg]; exact (bz_ (by repeat (first | (with_reducible first | exact HB.out | apply ba_ | apply bn_ | apply bd_) | exact HB.out))) : w.heap.size ≤ gb168)); clear HO160; clear HO166; clear HB; have HO160 := n0_; have HO166 := n1_; have HB := n2_; have BK168 := n3_; have GW168 := n4_; have GE168 := n5_; clear n0_ n1_ n2_ n3_ n4_ n5_; clear hb hbox hg; have hcz43_0 : w42.cell? ⟨gb168, 0, none⟩ = some (.string (⟨#[]⟩ : ByteArray)) := (blk_cell BK168.out 0).trans rfl; have hcz43_1 : w42.cell? ⟨gb168, 1, none⟩ = some (.bool false) := (blk_cell BK168.out 1).trans rfl; have hfz43_0 := blk_frozen BK168.out 0; have hfz43_1 := blk_frozen BK168.out 1; have p169 : 0 ≤ (x3_1 : Int) := od_ (by first | (with_reducible assumption) | assumption); have q169 : x3_1 < (l0.length : Int) := od_ (by first | (with_reducible assumption) | assumption); obtain ⟨ad169, A169_2, c169_2, e169, hx169_0, hx169_1, hx169_2, hl169_2, hi169_2⟩ := at_T28 HR0.out x3_1 p169 q169; obtain rfl : ad155 = ad169 := (by injection e169); have hn169_0 : ad155.block ≠ gb168 := nl_ (ll_ (by have := bl_ _ _ hx169_0; first | rwa [ab_] at this | exact this) GW168.out); have hn169_1 : ad155.block ≠ gb168 := nl_ (ll_ (by have := bl_ _ _ hx169_0; first | rwa [ab_] at this | exact this) GW168.out); replace hx169_0 := (HB.out.cell (bl_ w _ hx169_0)).trans hx169_0; replace hx169_1 := (HB.out.cell (bl_ w _ hx169_1)).trans hx169_1; replace hx169_2 := (HB.out.cell (bl_ w _ hx169_2)).trans hx169_2; have HR169_2 := am_ hi169_2; have HC169_2 := am_ hl169_2; clear hi169_2 hl169_2; replace hx169_0 := (cf_ (p := ⟨gb168, 0, none⟩) (by first | (rw [ab_]; exact hn169_0) | (show (Addr.add _ _).block ≠ _; rw [ab_]; exact hn169_0) | exact hn169_0) (.string t162)).trans hx169_0; replace hx169_1 := (cf_ (p := ⟨gb168, 0, none⟩) (by first | (rw [ab_]; exact hn169_0) | (show (Addr.add _ _).block ≠ _; rw [ab_]; exact hn169_0) | exact hn169_0) (.string t162)).trans hx169_1; replace hx169_2 := (cf_ (p := ⟨gb168, 0, none⟩) (by first | (rw [ab_]; exact hn169_0) | (show (Addr.add _ _).block ≠ _; rw [ab_]; exact hn169_0) | exact hn169_0) (.string t162)).trans hx169_2; replace hx169_0 := (cf_ (p := ⟨gb168, 1, none⟩) (by first | (rw [ab_]; exact hn169_1) | (show (Addr.add _ _).block ≠ _; rw [ab_]; exact hn169_1) | exact hn169_1) (.bool t163)).trans hx169_0; replace hx169_1 := (cf_ (p := ⟨gb168, 1, none⟩) (by first | (rw [ab_]; exact hn169_1) | (show (Addr.add _ _).block ≠ _; rw [ab_]; exact hn169_1) | exact hn169_1) (.bool t163)).trans hx169_1; replace hx169_2 := (cf_ (p := ⟨gb168, 1, none⟩) (by first | (rw [ab_]; exact hn169_1) | (show (Addr.add _ _).block ≠ _; rw [ab_]; exact hn169_1) | exact hn169_1) (.bool t163)).trans hx169_2; clear hn169_0; clear hn169_1; replace p169 := eq_true p169; replace q169 := eq_true q169) | ((with_reducible refine gate_callee (f := 10) rfl ?_); refine goesL_ (some 47) rfl rfl Try.func10 (by kernel_rfl) rfl #[.agg #[.string ((rd_T28 l0 x3_1).f0.f0), .bool ((rd_T28 l0 x3_1).f0.f1)]] rfl (by (try simp only [m1_, m2_, m3_]); first | done | rfl | (simp only [m4_, m5_]; rfl)) ?_; (with_reducible refine (pouchref1_Framer.calls kj1 ((rd_T28 l0 x3_1).f0.f0) ((rd_T28 l0 x3_1).f0.f1) true _ A12.out).mono ?_); rintro e w44 ⟨rfl, hb⟩; refine ⟨_, rfl, ?_⟩; have n0_ := am_ (rb_ (by (with_reducible repeat (first | apply ra_ | apply rn_ | apply re_)); exact (Kd.R_mono (Kd.R_far (p := ⟨gb168, 1, none⟩) (Kd.R_far (p := ⟨gb168, 0, none⟩) (Kd.R_types HO160.out BK168.out (by decide)) (fun _ hk => hk.2) (.string t162)) (fun _ hk => hk.2) (.bool t163)) (fun _ h_ => h_.1))) hb); have n1_ := am_ (rb_ (by (with_reducible repeat (first | apply ra_ | apply rn_ | apply re_)); exact (Kd.R_mono (Kd.R_far (p := ⟨gb168, 1, none⟩) (Kd.R_far (p := ⟨gb168, 0, none⟩) (Kd.R_types HO166.out BK168.out (by decide)) (fun _ hk => hk.2) (.string t162)) (fun _ hk => hk.2) (.bool t163)) (fun _ h_ => h_.1))) hb); have n2_ := am_ (bb_ (g := gb168) (o := .cells #[.string t162, .bool t163] 25 (0, 0)) (by (with_reducible repeat (first | refine kn_ ?_ _ | refine kd_ ?_ | refine ka_ ?_ _)); refine blk_put (cs := #[.string t162, .bool false]) ?_ 1 _ rfl; (with_reducible repeat (first | refine kn_ ?_ _ | refine kd_ ?_ | refine ka_ ?_ _)); refine blk_put (cs := #[.string (⟨#[]⟩ : ByteArray), .bool false]) ?_ 0 _ rfl; (with_reducible repeat (first | refine kn_ ?_ _ | refine kd_ ?_ | refine ka_ ?_ _)); exact BK168.out) hb); have n3_ := am_ (bt_ (by repeat (first | (with_reducible first | exact HB.out | apply ba_ | apply bn_ | apply bd_ | refine bs_ ?_ GE168.out) | exact HB.out)) hb); clear HO160; clear HO166; clear BK168; clear HB; have HO160 := n0_; have HO166 := n1_; have BK168 := n2_; have HB := n3_; clear n0_ n1_ n2_ n3_; (try clear hb); (try clear hb2); (try clear hk); (try clear hi)))
              have n0_ := am_ (re_ HO160.out)
              have n1_ := am_ (re_ HO166.out)
              have n2_ := am_ (kd_ BK168.out)
              have n3_ := am_ (bd_ HB.out)
              clear HO160; clear HO166; clear BK168; clear HB; have HO160 := n0_; have HO166 := n1_; have BK168 := n2_; have HB := n3_; clear n0_ n1_ n2_ n3_
              have p172 : 0 ≤ (x3_1 : Int) := od_ (by first | (with_reducible assumption) | assumption)
              have q172 : x3_1 < (l0.length : Int) := od_ (by first | (with_reducible assumption) | assumption)
              obtain ⟨ad172, A172_2, c172_2, e172, hx172_0, hx172_1, hx172_2, hl172_2, hi172_2⟩ := at_T28 HR0.out x3_1 p172 q172
              have hw172_2 := hx172_2; have hw172_1 := hx172_1; have hw172_0 := hx172_0
              obtain rfl : ad155 = ad172 := (by injection e172)
              replace hx172_0 := (HB.out.cell (bl_ w _ hx172_0)).trans hx172_0
              replace hx172_1 := (HB.out.cell (bl_ w _ hx172_1)).trans hx172_1
              replace hx172_2 := (HB.out.cell (bl_ w _ hx172_2)).trans hx172_2
              have HR172_2 := am_ hi172_2
              have HC172_2 := am_ hl172_2
              clear hi172_2 hl172_2
              replace p172 := eq_true p172
              replace q172 := eq_true q172
              have p173 : 0 ≤ (x3_1 : Int) := od_ (by first | (with_reducible assumption) | assumption)
              have q173 : x3_1 < (l0.length : Int) := od_ (by first | (with_reducible assumption) | assumption)
              obtain ⟨ad173, A173_2, c173_2, e173, hx173_0, hx173_1, hx173_2, hl173_2, hi173_2⟩ := at_T28 HR0.out x3_1 p173 q173
              have hw173_2 := hx173_2; have hw173_1 := hx173_1; have hw173_0 := hx173_0
              obtain rfl : ad155 = ad173 := (by injection e173)
              replace hx173_0 := (HB.out.cell (bl_ w _ hx173_0)).trans hx173_0
              replace hx173_1 := (HB.out.cell (bl_ w _ hx173_1)).trans hx173_1
              replace hx173_2 := (HB.out.cell (bl_ w _ hx173_2)).trans hx173_2
              have HR173_2 := am_ hi173_2
              have HC173_2 := am_ hl173_2
              clear hi173_2 hl173_2
              replace p173 := eq_true p173
              replace q173 := eq_true q173
              have ea_ := Option.some.inj (hx172_2.symm.trans hx173_2)
              injection ea_ with ea_ en_ ec_
              subst ea_
              subst ec_
              clear en_
              refine start_ (n := 17) (S := fun w' => w'.cell? (ad155.add ((x3_1).toNat * 3)) = some (.string ((rd_T28 l0 x3_1).f0.f0)) ∧ w'.cell? ⟨(ad155.add ((x3_1).toNat * 3)).block, (ad155.add ((x3_1).toNat * 3)).off + 1, none⟩ = some (.bool ((rd_T28 l0 x3_1).f0.f1)) ∧ w'.cell? ⟨(ad155.add ((x3_1).toNat * 3)).block, (ad155.add ((x3_1).toNat * 3)).off + 2, none⟩ = some (.slice A172_2 ((rd_T28 l0 x3_1).f1).length c172_2) ∧ w'.cell? (ad155.add ((x3_1).toNat * 3)) = some (.string ((rd_T28 l0 x3_1).f0.f0)) ∧ w'.cell? ⟨(ad155.add ((x3_1).toNat * 3)).block, (ad155.add ((x3_1).toNat * 3)).off + 1, none⟩ = some (.bool ((rd_T28 l0 x3_1).f0.f1)) ∧ w'.cell? ⟨(ad155.add ((x3_1).toNat * 3)).block, (ad155.add ((x3_1).toNat * 3)).off + 2, none⟩ = some (.slice A172_2 ((rd_T28 l0 x3_1).f1).length c172_2)) (ds := []) #[false, false, false, false, false, false, false, false, false, false, false, false, false, false, false, false, false] (by kernel_rfl) rfl rfl ⟨((HB.out.cell (bl_ w _ hw172_0)).trans hw172_0), ((HB.out.cell (bl_ w _ hw172_1)).trans hw172_1), ((HB.out.cell (bl_ w _ hw172_2)).trans hw172_2), ((HB.out.cell (bl_ w _ hw173_0)).trans hw173_0), ((HB.out.cell (bl_ w _ hw173_1)).trans hw173_1), ((HB.out.cell (bl_ w _ hw173_2)).trans hw173_2)⟩ (fun hHeld => ?_); refine with_tabW pouchlaw1_FrameFeeds.tab11 pouchlaw1_FrameFeeds.bits11 (fun HT_ HW_ => ?_)
              generalize w44.drew = w45 at HO160 HO166 BK168 HB HR172_2 HR173_2 hx172_0 hx172_1 hx172_2 hx173_0 hx173_1 hx173_2 hHeld ⊢
              refine pure_ (i := 0) (N := some 58) (v := ?_) (a' := ?_) #[true, false, false, false, false, false, false, false, false, false, false, false, false, false, false, false, false] rfl rfl (any_of HT_.out (by kernel_rfl)) (fun _ _ _ h => h) (Or.inl ⟨by rfl, ?_⟩) ?_ ?_
              rotate_left
              · intro w'; go_simp; with_reducible rfl
              rotate_left
              ·
               simp only [Act.put, s1_, s2_, s3_, i64_w, i32_w]
               rfl
              refine pure_ (i := 1) (N := some 59) (v := ?_) (a' := ?_) #[true, true, false, false, false, false, false, false, false, false, false, false, false, false, false, false, false] rfl rfl (any_of HT_.out (by kernel_rfl)) (fun _ _ _ h => h) (Or.inl ⟨by rfl, ?_⟩) ?_ ?_
              rotate_left
              · intro w'; go_simp; with_reducible rfl
              rotate_left
              ·
               simp only [Act.put, s1_, s2_, s3_, i64_w, i32_w]
               rfl
              refine pure_ (i := 2) (N := some 60) (v := ?_) (a' := ?_) #[true, true, true, false, false, false, false, false, false, false, false, false, false, false, false, false, false] rfl rfl (any_of HT_.out (by kernel_rfl)) (fun _ _ _ h => h) (Or.inl ⟨by rfl, ?_⟩) ?_ ?_
              rotate_left
              · intro w'; go_simp; with_reducible rfl
              rotate_left
              ·
               simp only [Act.put, s1_, s2_, s3_, i64_w, i32_w]
               rfl
              refine pure_ (i := 3) (N := some 61) (v := ?_) (a' := ?_) #[true, true, true, true, false, false, false, false, false, false, false, false, false, false, false, false, false] rfl rfl (any_of HT_.out (by kernel_rfl)) (fun _ _ _ h => h) (Or.inl ⟨by rfl, ?_⟩) ?_ ?_
              rotate_left
              · intro w'; go_simp; with_reducible rfl
              rotate_left
              ·
               simp only [Act.put, s1_, s2_, s3_, i64_w, i32_w]
               rfl
              refine pure_ (i := 5) (N := some 63) (v := ?_) (a' := ?_) #[true, true, true, true, false, true, false, false, false, false, false, false, false, false, false, false, false] rfl rfl (any_of HT_.out (by kernel_rfl)) (fun _ _ _ h => h) (Or.inl ⟨by rfl, ?_⟩) ?_ ?_
              rotate_left
              · intro w'; go_simp; with_reducible rfl
              rotate_left
              ·
               simp only [Act.put, s1_, s2_, s3_, i64_w, i32_w]
               rfl
              refine pure_ (i := 6) (N := some 64) (v := ?_) (a' := ?_) #[true, true, true, true, false, true, true, false, false, false, false, false, false, false, false, false, false] rfl rfl (any_of HT_.out (by kernel_rfl)) (fun _ _ _ h => h) (Or.inl ⟨by rfl, ?_⟩) ?_ ?_
              rotate_left
              · intro w'; go_simp; with_reducible rfl
              rotate_left
              ·
               simp only [Act.put, s1_, s2_, s3_, i64_w, i32_w]
               rfl
              refine pure_ (i := 7) (N := some 65) (v := ?_) (a' := ?_) #[true, true, true, true, false, true, true, true, false, false, false, false, false, false, false, false, false] rfl rfl (any_of HT_.out (by kernel_rfl)) (fun _ _ _ h => h) (Or.inl ⟨by rfl, ?_⟩) ?_ ?_
              rotate_left
              · intro w'; go_simp; with_reducible rfl
              rotate_left
              ·
               simp only [Act.put, s1_, s2_, s3_, i64_w, i32_w]
               rfl
              refine pure_ (i := 8) (N := some 66) (v := ?_) (a' := ?_) #[true, true, true, true, false, true, true, true, true, false, false, false, false, false, false, false, false] rfl rfl (any_of HT_.out (by kernel_rfl)) (fun _ _ _ h => h) (Or.inl ⟨by rfl, ?_⟩) ?_ ?_
              rotate_left
              · intro w'; go_simp; with_reducible rfl
              rotate_left
              ·
               simp only [Act.put, s1_, s2_, s3_, i64_w, i32_w]
               rfl
              refine take_ (i := 4) (N := some 62) (v := ?_) (a' := ?_) #[true, true, true, true, true, true, true, true, true, false, false, false, false, false, false, false, false] rfl rfl (take_ofW HT_.out HW_.out (by kernel_rfl)) (fun _ _ _ h => h) (Or.inl ⟨by rfl, ?_⟩) hHeld ?_ ?_
              rotate_left
              ·
               rintro w' ⟨s0, s1, s2, s3, s4, s5⟩
               go_simp; with_reducible rfl
              rotate_left
              ·
               simp only [Act.put, s1_, s2_, s3_, i64_w, i32_w]
               rfl
              refine take_ (i := 9) (N := some 67) (v := ?_) (a' := ?_) #[true, true, true, true, true, true, true, true, true, true, false, false, false, false, false, false, false] rfl rfl (take_ofW HT_.out HW_.out (by kernel_rfl)) (fun _ _ _ h => h) (Or.inl ⟨by rfl, ?_⟩) hHeld ?_ ?_
              rotate_left
              ·
               rintro w' ⟨s0, s1, s2, s3, s4, s5⟩
               go_simp; with_reducible rfl
              rotate_left
              ·
               simp only [Act.put, s1_, s2_, s3_, i64_w, i32_w]
               rfl
              refine join_ (σ := Value × Nat) 2 #[true, true, true, true, true, true, true, true, true, true, true, true, true, true, true, false, false] (fun s_ => [(68, .tuple #[.agg #[.string t174, .bool t175], s_.1]), (8, .pointer (some ⟨s_.2, 0, none⟩)), (57, .tuple #[.agg #[.string t174, .bool t175], s_.1]), (69, .agg #[.string t174, .bool t175]), (70, s_.1)]) (fun s_ w' => (w'.cell? (ad155.add ((x3_1).toNat * 3)) = some (.string ((rd_T28 l0 x3_1).f0.f0)) ∧ w'.cell? ⟨(ad155.add ((x3_1).toNat * 3)).block, (ad155.add ((x3_1).toNat * 3)).off + 1, none⟩ = some (.bool ((rd_T28 l0 x3_1).f0.f1)) ∧ w'.cell? ⟨(ad155.add ((x3_1).toNat * 3)).block, (ad155.add ((x3_1).toNat * 3)).off + 2, none⟩ = some (.slice A172_2 ((rd_T28 l0 x3_1).f1).length c172_2) ∧ w'.cell? (ad155.add ((x3_1).toNat * 3)) = some (.string ((rd_T28 l0 x3_1).f0.f0)) ∧ w'.cell? ⟨(ad155.add ((x3_1).toNat * 3)).block, (ad155.add ((x3_1).toNat * 3)).off + 1, none⟩ = some (.bool ((rd_T28 l0 x3_1).f0.f1)) ∧ w'.cell? ⟨(ad155.add ((x3_1).toNat * 3)).block, (ad155.add ((x3_1).toNat * 3)).off + 2, none⟩ = some (.slice A172_2 ((rd_T28 l0 x3_1).f1).length c172_2)) ∧ (Kd.R (Kd.int .u8) 5 w' w.heap.size (fun _ => True) (.slice Ao40 t158.length co40) t158) ∧ (Kd.R k46 46 w' w.heap.size (fun k_ => some k_ ≠ (s_.1 : Value).ownBlock) v165 t164) ∧ (Kd.R k46 46 w' w.heap.size (fun k_ => some k_ ≠ (v165 : Value).ownBlock) s_.1 t176) ∧ (w'.heap[gb168]? = some (.cells #[.string t162, .bool t163] 25 (0, 0))) ∧ (w'.heap[s_.2]? = some (.cells #[.string (⟨#[]⟩ : ByteArray), .bool false] 25 (0, 0))) ∧ (w.heap.size ≤ s_.2) ∧ (w.heap.size ≤ s_.2) ∧ (gb168 ≠ s_.2) ∧ (s_.2 ≠ gb168) ∧ (Below w.heap.size w w')) ?_ ?_
              rotate_left
              ·
               intro hCont
               refine two_ (i := 10) (j := 14) (Ni := some 68) (Nj := some 8) #[true, true, true, true, true, true, true, true, true, true, true, false, false, false, false, false, false] #[true, true, true, true, true, true, true, true, true, true, false, false, false, false, true, false, false] rfl rfl rfl rfl (two_of HT_.out (by kernel_rfl)) (by decide) (by decide) (fun K hK => ?_) (fun K hK => ?_)
               ·
                skip
                refine goes_ Try.func12 (by kernel_rfl) rfl #[.agg #[.string ((rd_T28 l0 x3_1).f0.f0), .bool ((rd_T28 l0 x3_1).f0.f1)], .slice A172_2 ((rd_T28 l0 x3_1).f1).length c172_2] (by rfl) rfl rfl (by (try simp only [m1_, m2_, m3_]); first | done | rfl | (simp only [m4_, m5_]; rfl)) ?_
                with_reducible refine (pouchref1_Feed.calls kj1 ((rd_T28 l0 x3_1).f0.f0) ((rd_T28 l0 x3_1).f0.f1) _ _ ((rd_T28 l0 x3_1).f1) t174 t175 t176 _ ?side1 ?side2 A14.out).mono ?_
                (case side1 => repeat (first | exact (cb_ HR173_2.out HB.out) | (with_reducible refine ca_ ?_ _) | (with_reducible refine cn_ ?_ _) | (with_reducible refine cd_ ?_)))
                (case side2 => exact HC173_2.out)
                rintro e w46 ⟨v177, rfl, ho0, hb⟩
                refine ⟨_, rfl, ?_⟩
                have n0_ := am_ (rb_ (by (with_reducible repeat (first | apply ra_ | apply rn_ | apply re_)); exact HO160.out) hb)
                have n1_ := am_ (Kd.R_elder' (by (with_reducible repeat (first | apply ra_ | apply rn_ | apply re_)); exact HO166.out) (Kd.R_base ho0) hb)
                have n2_ := am_ (Kd.R_lower (Kd.R_new' ho0 (Kd.R_lt (by (with_reducible repeat (first | apply ra_ | apply rn_ | apply re_)); exact HO166.out))) (bz_ (by repeat (first | (with_reducible first | exact HB.out | apply ba_ | apply bn_ | apply bd_ | refine bs_ ?_ GE168.out) | exact HB.out))))
                have n3_ := am_ (bb_ (g := gb168) (o := .cells #[.string t162, .bool t163] 25 (0, 0)) (by (with_reducible repeat (first | refine kn_ ?_ _ | refine kd_ ?_ | refine ka_ ?_ _)); exact BK168.out) hb)
                have n4_ := am_ (bt_ (by repeat (first | (with_reducible first | exact HB.out | apply ba_ | apply bn_ | apply bd_ | refine bs_ ?_ GE168.out) | exact HB.out)) hb)
                clear HO160; clear HO166; clear BK168; clear HB; have HO160 := n0_; have HO166 := n1_; have HO178 := n2_; have BK168 := n3_; have HB := n4_; clear n0_ n1_ n2_ n3_ n4_
                (try clear hb)
                (try clear hb2)
                (try clear hk)
                (try clear hi)
                (try clear ho0)
                refine hK.out _ _ ⟨((HB.out.cell (bl_ w _ hw172_0)).trans hw172_0), ((HB.out.cell (bl_ w _ hw172_1)).trans hw172_1), ((HB.out.cell (bl_ w _ hw172_2)).trans hw172_2), ((HB.out.cell (bl_ w _ hw173_0)).trans hw173_0), ((HB.out.cell (bl_ w _ hw173_1)).trans hw173_1), ((HB.out.cell (bl_ w _ hw173_2)).trans hw173_2)⟩ (fun hHeld => ?_)
                clear hK K
                refine norm_ (a' := ?_) ?_ ?_
                rotate_left
                ·
                 show Act.put _ (some 68) _ = _
                 simp only [Act.put, s1_, s2_, s3_, i64_w, i32_w]
                 rfl
                refine pure_ (i := 11) (N := some 57) (v := ?_) (a' := ?_) #[true, true, true, true, true, true, true, true, true, true, true, true, false, false, false, false, false] rfl rfl (any_of HT_.out (by kernel_rfl)) (fun _ _ _ h => h) (Or.inl ⟨by rfl, ?_⟩) ?_ ?_
                rotate_left
                · intro w'; go_simp; with_reducible rfl
                rotate_left
                ·
                 simp only [Act.put, s1_, s2_, s3_, i64_w, i32_w]
                 rfl
                refine pure_ (i := 12) (N := some 69) (v := ?_) (a' := ?_) #[true, true, true, true, true, true, true, true, true, true, true, true, true, false, false, false, false] rfl rfl (any_of HT_.out (by kernel_rfl)) (fun _ _ _ h => h) (Or.inl ⟨by rfl, ?_⟩) ?_ ?_
                rotate_left
                · intro w'; go_simp; with_reducible rfl
                rotate_left
                ·
                 simp only [Act.put, s1_, s2_, s3_, i64_w, i32_w]
                 rfl
                refine pure_ (i := 13) (N := some 70) (v := ?_) (a' := ?_) #[true, true, true, true, true, true, true, true, true, true, true, true, true, true, false, false, false] rfl rfl (any_of HT_.out (by kernel_rfl)) (fun _ _ _ h => h) (Or.inl ⟨by rfl, ?_⟩) ?_ ?_
                rotate_left
                · intro w'; go_simp; with_reducible rfl
                rotate_left
                ·
                 simp only [Act.put, s1_, s2_, s3_, i64_w, i32_w]
                 rfl
                refine one_ (i := 14) (N := some 8) #[true, true, true, true, true, true, true, true, true, true, true, true, true, true, true, false, false] rfl rfl (one_of HT_.out (by kernel_rfl)) (by decide) (fun K hK => ?_)
                refine box_step ?hg (N := 8) ?hd (cs := #[.string (⟨#[]⟩ : ByteArray), .bool false]) (t := 25) ?hr ?_; (case hd => rfl); (case hg => rfl); (case hr => first | (go_simp; done) | (go_simp; rfl))
                intro gb179 hg w47 hbox hb
                have n0_ := am_ (rb_ (by (with_reducible repeat (first | apply ra_ | apply rn_ | apply re_)); exact HO160.out) hb)
                have n1_ := am_ (rb_ (by (with_reducible repeat (first | apply ra_ | apply rn_ | apply re_)); exact HO166.out) hb)
                have n2_ := am_ (rb_ (by (with_reducible repeat (first | apply ra_ | apply rn_ | apply re_)); exact HO178.out) hb)
                have n3_ := am_ (bb_ (g := gb168) (o := .cells #[.string t162, .bool t163] 25 (0, 0)) (by (with_reducible repeat (first | refine kn_ ?_ _ | refine kd_ ?_ | refine ka_ ?_ _)); exact BK168.out) hb)
                have n4_ := am_ (bt_ (by repeat (first | (with_reducible first | exact HB.out | apply ba_ | apply bn_ | apply bd_ | refine bs_ ?_ GE168.out) | exact HB.out)) hb)
                have n5_ := am_ (hbox)
                have n6_ := am_ ((by rw [hg]; exact (bz_ (by repeat (first | (with_reducible first | exact HB.out | apply ba_ | apply bn_ | apply bd_ | refine bs_ ?_ GE168.out) | exact HB.out))) : w.heap.size ≤ gb179))
                have n7_ := am_ ((by rw [hg]; exact (bz_ (by repeat (first | (with_reducible first | exact HB.out | apply ba_ | apply bn_ | apply bd_ | refine bs_ ?_ GE168.out) | exact HB.out))) : w.heap.size ≤ gb179))
                have n8_ := am_ ((by rw [hg]; exact nl_ (blk_lt (g := gb168) (o := .cells #[.string t162, .bool t163] 25 (0, 0)) (by (with_reducible repeat (first | refine kn_ ?_ _ | refine kd_ ?_ | refine ka_ ?_ _)); exact BK168.out)) : gb168 ≠ gb179))
                have n9_ := am_ ((by rw [hg]; exact Nat.ne_of_gt (blk_lt (g := gb168) (o := .cells #[.string t162, .bool t163] 25 (0, 0)) (by (with_reducible repeat (first | refine kn_ ?_ _ | refine kd_ ?_ | refine ka_ ?_ _)); exact BK168.out)) : gb179 ≠ gb168))
                clear HO160; clear HO166; clear HO178; clear BK168; clear HB; have HO160 := n0_; have HO166 := n1_; have HO178 := n2_; have BK168 := n3_; have HB := n4_; have BK179 := n5_; have GW179 := n6_; have GE179 := n7_; have NB168_179 := n8_; have NB179_168 := n9_; clear n0_ n1_ n2_ n3_ n4_ n5_ n6_ n7_ n8_ n9_; clear hb hbox hg
                refine hK.out _ _ ⟨((HB.out.cell (bl_ w _ hw172_0)).trans hw172_0), ((HB.out.cell (bl_ w _ hw172_1)).trans hw172_1), ((HB.out.cell (bl_ w _ hw172_2)).trans hw172_2), ((HB.out.cell (bl_ w _ hw173_0)).trans hw173_0), ((HB.out.cell (bl_ w _ hw173_1)).trans hw173_1), ((HB.out.cell (bl_ w _ hw173_2)).trans hw173_2)⟩ (fun hHeld => ?_)
                clear hK K
                refine norm_ (a' := ?_) ?_ ?_
                rotate_left
                ·
                 show Act.put _ (some 8) _ = _
                 simp only [Act.put, s1_, s2_, s3_, i64_w, i32_w]
                 rfl
                exact norm_ (by simp only [putAll, Act.put, s1_, s2_, s3_]) (hCont (v177, gb179) _ ⟨hHeld, (by (with_reducible repeat (first | apply ra_ | apply rn_ | apply re_)); exact HO160.out), (by (with_reducible repeat (first | apply ra_ | apply rn_ | apply re_)); exact Kd.R_mono HO166.out (fun _ hk => hk.2)), (by (with_reducible repeat (first | apply ra_ | apply rn_ | apply re_)); exact Kd.R_mono HO178.out (fun _ hk => hk.2)), (by (with_reducible repeat (first | refine kn_ ?_ _ | refine kd_ ?_ | refine ka_ ?_ _)); exact BK168.out), (by (with_reducible repeat (first | refine kn_ ?_ _ | refine kd_ ?_ | refine ka_ ?_ _)); exact BK179.out), GW179.out, GE179.out, NB168_179.out, NB179_168.out, (by repeat (first | (with_reducible first | exact HB.out | apply ba_ | apply bn_ | apply bd_ | refine bs_ ?_ GE168.out | refine bs_ ?_ GE179.out) | exact HB.out))⟩)
               ·
                skip
                refine box_step ?hg (N := 8) ?hd (cs := #[.string (⟨#[]⟩ : ByteArray), .bool false]) (t := 25) ?hr ?_; (case hd => rfl); (case hg => rfl); (case hr => first | (go_simp; done) | (go_simp; rfl))
                intro gb179 hg w46 hbox hb
                have n0_ := am_ (rb_ (by (with_reducible repeat (first | apply ra_ | apply rn_ | apply re_)); exact HO160.out) hb)
                have n1_ := am_ (rb_ (by (with_reducible repeat (first | apply ra_ | apply rn_ | apply re_)); exact HO166.out) hb)
                have n2_ := am_ (bb_ (g := gb168) (o := .cells #[.string t162, .bool t163] 25 (0, 0)) (by (with_reducible repeat (first | refine kn_ ?_ _ | refine kd_ ?_ | refine ka_ ?_ _)); exact BK168.out) hb)
                have n3_ := am_ (bt_ (by repeat (first | (with_reducible first | exact HB.out | apply ba_ | apply bn_ | apply bd_ | refine bs_ ?_ GE168.out) | exact HB.out)) hb)
                have n4_ := am_ (hbox)
                have n5_ := am_ ((by rw [hg]; exact (bz_ (by repeat (first | (with_reducible first | exact HB.out | apply ba_ | apply bn_ | apply bd_ | refine bs_ ?_ GE168.out) | exact HB.out))) : w.heap.size ≤ gb179))
                have n6_ := am_ ((by rw [hg]; exact (bz_ (by repeat (first | (with_reducible first | exact HB.out | apply ba_ | apply bn_ | apply bd_ | refine bs_ ?_ GE168.out) | exact HB.out))) : w.heap.size ≤ gb179))
                have n7_ := am_ ((by rw [hg]; exact nl_ (blk_lt (g := gb168) (o := .cells #[.string t162, .bool t163] 25 (0, 0)) (by (with_reducible repeat (first | refine kn_ ?_ _ | refine kd_ ?_ | refine ka_ ?_ _)); exact BK168.out)) : gb168 ≠ gb179))
                have n8_ := am_ ((by rw [hg]; exact Nat.ne_of_gt (blk_lt (g := gb168) (o := .cells #[.string t162, .bool t163] 25 (0, 0)) (by (with_reducible repeat (first | refine kn_ ?_ _ | refine kd_ ?_ | refine ka_ ?_ _)); exact BK168.out)) : gb179 ≠ gb168))
                clear HO160; clear HO166; clear BK168; clear HB; have HO160 := n0_; have HO166 := n1_; have BK168 := n2_; have HB := n3_; have BK179 := n4_; have GW179 := n5_; have GE179 := n6_; have NB168_179 := n7_; have NB179_168 := n8_; clear n0_ n1_ n2_ n3_ n4_ n5_ n6_ n7_ n8_; clear hb hbox hg
                refine hK.out _ _ ⟨((HB.out.cell (bl_ w _ hw172_0)).trans hw172_0), ((HB.out.cell (bl_ w _ hw172_1)).trans hw172_1), ((HB.out.cell (bl_ w _ hw172_2)).trans hw172_2), ((HB.out.cell (bl_ w _ hw173_0)).trans hw173_0), ((HB.out.cell (bl_ w _ hw173_1)).trans hw173_1), ((HB.out.cell (bl_ w _ hw173_2)).trans hw173_2)⟩ (fun hHeld => ?_)
                clear hK K
                refine norm_ (a' := ?_) ?_ ?_
                rotate_left
                ·
                 show Act.put _ (some 8) _ = _
                 simp only [Act.put, s1_, s2_, s3_, i64_w, i32_w]
                 rfl
                refine one_ (i := 10) (N := some 68) #[true, true, true, true, true, true, true, true, true, true, true, false, false, false, true, false, false] rfl rfl (one_of HT_.out (by kernel_rfl)) (by decide) (fun K hK => ?_)
                refine goes_ Try.func12 (by kernel_rfl) rfl #[.agg #[.string ((rd_T28 l0 x3_1).f0.f0), .bool ((rd_T28 l0 x3_1).f0.f1)], .slice A172_2 ((rd_T28 l0 x3_1).f1).length c172_2] (by rfl) rfl rfl (by (try simp only [m1_, m2_, m3_]); first | done | rfl | (simp only [m4_, m5_]; rfl)) ?_
                with_reducible refine (pouchref1_Feed.calls kj1 ((rd_T28 l0 x3_1).f0.f0) ((rd_T28 l0 x3_1).f0.f1) _ _ ((rd_T28 l0 x3_1).f1) t174 t175 t176 _ ?side1 ?side2 A14.out).mono ?_
                (case side1 => repeat (first | exact (cb_ HR173_2.out HB.out) | (with_reducible refine ca_ ?_ _) | (with_reducible refine cn_ ?_ _) | (with_reducible refine cd_ ?_)))
                (case side2 => exact HC173_2.out)
                rintro e w47 ⟨v177, rfl, ho0, hb⟩
                refine ⟨_, rfl, ?_⟩
                have n0_ := am_ (rb_ (by (with_reducible repeat (first | apply ra_ | apply rn_ | apply re_)); exact HO160.out) hb)
                have n1_ := am_ (Kd.R_elder' (by (with_reducible repeat (first | apply ra_ | apply rn_ | apply re_)); exact HO166.out) (Kd.R_base ho0) hb)
                have n2_ := am_ (Kd.R_lower (Kd.R_new' ho0 (Kd.R_lt (by (with_reducible repeat (first | apply ra_ | apply rn_ | apply re_)); exact HO166.out))) (bz_ (by repeat (first | (with_reducible first | exact HB.out | apply ba_ | apply bn_ | apply bd_ | refine bs_ ?_ GE168.out | refine bs_ ?_ GE179.out) | exact HB.out))))
                have n3_ := am_ (bb_ (g := gb168) (o := .cells #[.string t162, .bool t163] 25 (0, 0)) (by (with_reducible repeat (first | refine kn_ ?_ _ | refine kd_ ?_ | refine ka_ ?_ _)); exact BK168.out) hb)
                have n4_ := am_ (bb_ (g := gb179) (o := .cells #[.string (⟨#[]⟩ : ByteArray), .bool false] 25 (0, 0)) (by (with_reducible repeat (first | refine kn_ ?_ _ | refine kd_ ?_ | refine ka_ ?_ _)); exact BK179.out) hb)
                have n5_ := am_ (bt_ (by repeat (first | (with_reducible first | exact HB.out | apply ba_ | apply bn_ | apply bd_ | refine bs_ ?_ GE168.out | refine bs_ ?_ GE179.out) | exact HB.out)) hb)
                clear HO160; clear HO166; clear BK168; clear BK179; clear HB; have HO160 := n0_; have HO166 := n1_; have HO178 := n2_; have BK168 := n3_; have BK179 := n4_; have HB := n5_; clear n0_ n1_ n2_ n3_ n4_ n5_
                (try clear hb)
                (try clear hb2)
                (try clear hk)
                (try clear hi)
                (try clear ho0)
                refine hK.out _ _ ⟨((HB.out.cell (bl_ w _ hw172_0)).trans hw172_0), ((HB.out.cell (bl_ w _ hw172_1)).trans hw172_1), ((HB.out.cell (bl_ w _ hw172_2)).trans hw172_2), ((HB.out.cell (bl_ w _ hw173_0)).trans hw173_0), ((HB.out.cell (bl_ w _ hw173_1)).trans hw173_1), ((HB.out.cell (bl_ w _ hw173_2)).trans hw173_2)⟩ (fun hHeld => ?_)
                clear hK K
                refine norm_ (a' := ?_) ?_ ?_
                rotate_left
                ·
                 show Act.put _ (some 68) _ = _
                 simp only [Act.put, s1_, s2_, s3_, i64_w, i32_w]
                 rfl
                refine pure_ (i := 11) (N := some 57) (v := ?_) (a' := ?_) #[true, true, true, true, true, true, true, true, true, true, true, true, false, false, true, false, false] rfl rfl (any_of HT_.out (by kernel_rfl)) (fun _ _ _ h => h) (Or.inl ⟨by rfl, ?_⟩) ?_ ?_
                rotate_left
                · intro w'; go_simp; with_reducible rfl
                rotate_left
                ·
                 simp only [Act.put, s1_, s2_, s3_, i64_w, i32_w]
                 rfl
                refine pure_ (i := 12) (N := some 69) (v := ?_) (a' := ?_) #[true, true, true, true, true, true, true, true, true, true, true, true, true, false, true, false, false] rfl rfl (any_of HT_.out (by kernel_rfl)) (fun _ _ _ h => h) (Or.inl ⟨by rfl, ?_⟩) ?_ ?_
                rotate_left
                · intro w'; go_simp; with_reducible rfl
                rotate_left
                ·
                 simp only [Act.put, s1_, s2_, s3_, i64_w, i32_w]
                 rfl
                refine pure_ (i := 13) (N := some 70) (v := ?_) (a' := ?_) #[true, true, true, true, true, true, true, true, true, true, true, true, true, true, true, false, false] rfl rfl (any_of HT_.out (by kernel_rfl)) (fun _ _ _ h => h) (Or.inl ⟨by rfl, ?_⟩) ?_ ?_
                rotate_left
                · intro w'; go_simp; with_reducible rfl
                rotate_left
                ·
                 simp only [Act.put, s1_, s2_, s3_, i64_w, i32_w]
                 rfl
                exact norm_ (by simp only [putAll, Act.put, s1_, s2_, s3_]) (hCont (v177, gb179) _ ⟨hHeld, (by (with_reducible repeat (first | apply ra_ | apply rn_ | apply re_)); exact HO160.out), (by (with_reducible repeat (first | apply ra_ | apply rn_ | apply re_)); exact Kd.R_mono HO166.out (fun _ hk => hk.2)), (by (with_reducible repeat (first | apply ra_ | apply rn_ | apply re_)); exact Kd.R_mono HO178.out (fun _ hk => hk.2)), (by (with_reducible repeat (first | refine kn_ ?_ _ | refine kd_ ?_ | refine ka_ ?_ _)); exact BK168.out), (by (with_reducible repeat (first | refine kn_ ?_ _ | refine kd_ ?_ | refine ka_ ?_ _)); exact BK179.out), GW179.out, GE179.out, NB168_179.out, NB179_168.out, (by repeat (first | (with_reducible first | exact HB.out | apply ba_ | apply bn_ | apply bd_ | refine bs_ ?_ GE168.out | refine bs_ ?_ GE179.out) | exact HB.out))⟩)
              rintro ⟨v177, gb179⟩ w48 ⟨hS_, h0_, h1_, h2_, h3_, h4_, h5_, h6_, h7_, h8_, h9_⟩
              have n0_ : Aside0 (Kd.R (Kd.int .u8) 5 w48 w.heap.size (fun _ => True) (.slice Ao40 t158.length co40) t158) := ⟨h0_⟩
              have n1_ : Aside0 (Kd.R k46 46 w48 w.heap.size (fun k_ => some k_ ≠ (v177 : Value).ownBlock) v165 t164) := ⟨h1_⟩
              have n2_ : Aside0 (Kd.R k46 46 w48 w.heap.size (fun k_ => some k_ ≠ (v165 : Value).ownBlock) v177 t176) := ⟨h2_⟩
              have n3_ : Aside0 (w48.heap[gb168]? = some (.cells #[.string t162, .bool t163] 25 (0, 0))) := ⟨h3_⟩
              have n4_ : Aside0 (w48.heap[gb179]? = some (.cells #[.string (⟨#[]⟩ : ByteArray), .bool false] 25 (0, 0))) := ⟨h4_⟩
              have n5_ : Aside0 (w.heap.size ≤ gb179) := ⟨h5_⟩
              have n6_ : Aside0 (w.heap.size ≤ gb179) := ⟨h6_⟩
              have n7_ : Aside0 (gb168 ≠ gb179) := ⟨h7_⟩
              have n8_ : Aside0 (gb179 ≠ gb168) := ⟨h8_⟩
              have n9_ : Aside0 (Below w.heap.size w w48) := ⟨h9_⟩
              clear HO160; clear HO166; clear BK168; clear HB; clear h0_ h1_ h2_ h3_ h4_ h5_ h6_ h7_ h8_ h9_; have HO160 := n0_; have HO166 := n1_; have HO178 := n2_; have BK168 := n3_; have BK179 := n4_; have GW179 := n5_; have GE179 := n6_; have NB168_179 := n7_; have NB179_168 := n8_; have HB := n9_; clear n0_ n1_ n2_ n3_ n4_ n5_ n6_ n7_ n8_ n9_
              have hHeld : w48.cell? (ad155.add ((x3_1).toNat * 3)) = some (.string ((rd_T28 l0 x3_1).f0.f0)) ∧ w48.cell? ⟨(ad155.add ((x3_1).toNat * 3)).block, (ad155.add ((x3_1).toNat * 3)).off + 1, none⟩ = some (.bool ((rd_T28 l0 x3_1).f0.f1)) ∧ w48.cell? ⟨(ad155.add ((x3_1).toNat * 3)).block, (ad155.add ((x3_1).toNat * 3)).off + 2, none⟩ = some (.slice A172_2 ((rd_T28 l0 x3_1).f1).length c172_2) ∧ w48.cell? (ad155.add ((x3_1).toNat * 3)) = some (.string ((rd_T28 l0 x3_1).f0.f0)) ∧ w48.cell? ⟨(ad155.add ((x3_1).toNat * 3)).block, (ad155.add ((x3_1).toNat * 3)).off + 1, none⟩ = some (.bool ((rd_T28 l0 x3_1).f0.f1)) ∧ w48.cell? ⟨(ad155.add ((x3_1).toNat * 3)).block, (ad155.add ((x3_1).toNat * 3)).off + 2, none⟩ = some (.slice A172_2 ((rd_T28 l0 x3_1).f1).length c172_2) := hS_
              refine norm_ (a' := ?_) ?_ ?_
              rotate_left
              ·
               simp only [putAll, Act.put, s1_, s2_, s3_]
               rfl
              refine one_ (i := 15) (N := none) #[true, true, true, true, true, true, true, true, true, true, true, true, true, true, true, true, false] rfl rfl (one_of HT_.out (by kernel_rfl)) (by decide) (fun K hK => ?_)
              have hs49 : w48.cell? ⟨gb179, 0, none⟩ = some (.string (⟨#[]⟩ : ByteArray)) := (blk_cell BK179.out 0).trans rfl
              have hfs49 := blk_frozen BK179.out 0
              have hns49_0 := NB168_179.out
              have hms49_0 := NB179_168.out
              have hs50 : w48.cell? ⟨gb179, 1, none⟩ = some (.bool false) := (blk_cell BK179.out 1).trans rfl
              have hfs50 := blk_frozen BK179.out 1
              have hns50_0 := NB168_179.out
              have hms50_0 := NB179_168.out
              refine skip_ (w1 := ?_) (by rfl) rfl ?_ ?_
              rotate_left
              ·
               go_simp
               rfl
              refine hK.out _ _ ⟨((cf_ (p := ⟨gb179, _, none⟩) (nb_ hw172_0 GW179.out) _).trans (((cf_ (p := ⟨gb179, _, none⟩) (nb_ hw172_0 GW179.out) _).trans (hHeld.1)))), ((cf_ (p := ⟨gb179, _, none⟩) (nb_ hw172_1 GW179.out) _).trans (((cf_ (p := ⟨gb179, _, none⟩) (nb_ hw172_1 GW179.out) _).trans (hHeld.2.1)))), ((cf_ (p := ⟨gb179, _, none⟩) (nb_ hw172_2 GW179.out) _).trans (((cf_ (p := ⟨gb179, _, none⟩) (nb_ hw172_2 GW179.out) _).trans (hHeld.2.2.1)))), ((cf_ (p := ⟨gb179, _, none⟩) (nb_ hw173_0 GW179.out) _).trans (((cf_ (p := ⟨gb179, _, none⟩) (nb_ hw173_0 GW179.out) _).trans (hHeld.2.2.2.1)))), ((cf_ (p := ⟨gb179, _, none⟩) (nb_ hw173_1 GW179.out) _).trans (((cf_ (p := ⟨gb179, _, none⟩) (nb_ hw173_1 GW179.out) _).trans (hHeld.2.2.2.2.1)))), ((cf_ (p := ⟨gb179, _, none⟩) (nb_ hw173_2 GW179.out) _).trans (((cf_ (p := ⟨gb179, _, none⟩) (nb_ hw173_2 GW179.out) _).trans (hHeld.2.2.2.2.2))))⟩ (fun hHeld => ?_)
              clear hK K
              refine pure_ (i := 16) (N := some 9) (v := ?_) (a' := ?_) #[true, true, true, true, true, true, true, true, true, true, true, true, true, true, true, true, true] rfl rfl (any_of HT_.out (by kernel_rfl)) (fun _ _ _ h => h) (Or.inl ⟨by rfl, ?_⟩) ?_ ?_
              rotate_left
              · intro w'; go_simp; with_reducible rfl
              rotate_left
              ·
               simp only [Act.put, s1_, s2_, s3_, i64_w, i32_w]
               rfl
              refine done_ (done_of HT_.out (by kernel_rfl)) ?_
              try go_wp2_with (first | ((with_reducible refine gate_callee (f := 11) rfl ?_); refine goesL_ (some 72) rfl rfl Try.func11 (by kernel_rfl) rfl #[.int .i64 t167] rfl (by (try simp only [m1_, m2_, m3_]); first | done | rfl | (simp only [m4_, m5_]; rfl)) ?_; (with_reducible refine (pouchlaw1_num.calls t167 t180 _ A15.out).mono ?_); rintro e w' ⟨rfl, ⟨nd, rfl⟩⟩; refine ⟨_, rfl, ?_⟩; have hnb51 := NB168_179.out; have hnc51 := NB179_168.out; have hcz52_0 : w48.cell? ⟨gb168, 0, none⟩ = some (.string t162) := (blk_cell BK168.out 0).trans rfl; have hcz52_1 : w48.cell? ⟨gb168, 1, none⟩ = some (.bool t163) := (blk_cell BK168.out 1).trans rfl; have hfz52_0 := blk_frozen BK168.out 0; have hfz52_1 := blk_frozen BK168.out 1; have hcz53_0 : w48.cell? ⟨gb179, 0, none⟩ = some (.string (⟨#[]⟩ : ByteArray)) := (blk_cell BK179.out 0).trans rfl; have hcz53_1 : w48.cell? ⟨gb179, 1, none⟩ = some (.bool false) := (blk_cell BK179.out 1).trans rfl; have hfz53_0 := blk_frozen BK179.out 0; have hfz53_1 := blk_frozen BK179.out 1; obtain ⟨Ao54, co54, eo54⟩ := Kd.R_slice HO166.out; subst eo54; obtain ⟨Ao55, co55, eo55⟩ := Kd.R_slice HO178.out; subst eo55) | (go_at_call 13; (with_reducible refine (pouchref0_EqLines.calls kj1 _ _ t164 _ _ t176 true _ ?side1 ?side2 ?side3 ?side4 A34.out).mono ?_); (case side1 => refine (Kd.R_reads' (e := 46) (base := w.heap.size) (ok := fun k_ => some k_ ≠ (.slice Ao55 t176.length co55 : Value).ownBlock) (n := t164.length) (c := co54) ?_).2.2; exact (by (with_reducible repeat (first | apply ra_ | apply rn_ | apply re_)); exact (Kd.R_mono (Kd.R_far (p := ⟨gb179, 1, none⟩) (Kd.R_far (p := ⟨gb179, 0, none⟩) (Kd.R_types HO166.out BK179.out (by decide)) (fun _ hk => hk.2) (.string t174)) (fun _ hk => hk.2) (.bool t175)) (fun _ h_ => h_.1)))); (case side2 => exact (Kd.R_reads' HO166.out).2.1); (case side3 => refine (Kd.R_reads' (e := 46) (base := w.heap.size) (ok := fun k_ => some k_ ≠ (.slice Ao54 t164.length co54 : Value).ownBlock) (n := t176.length) (c := co55) ?_).2.2; exact (by (with_reducible repeat (first | apply ra_ | apply rn_ | apply re_)); exact (Kd.R_mono (Kd.R_far (p := ⟨gb179, 1, none⟩) (Kd.R_far (p := ⟨gb179, 0, none⟩) (Kd.R_types HO178.out BK179.out (by decide)) (fun _ hk => hk.2) (.string t174)) (fun _ hk => hk.2) (.bool t175)) (fun _ h_ => h_.1)))); (case side4 => exact (Kd.R_reads' HO178.out).2.1); rintro e w' ⟨rfl, ⟨nd, rfl⟩⟩; have p182 : 0 ≤ (x3_1 : Int) := od_ (by first | (with_reducible assumption) | assumption); have q182 : x3_1 < (l0.length : Int) := od_ (by first | (with_reducible assumption) | assumption); obtain ⟨ad182, A182_2, c182_2, e182, hx182_0, hx182_1, hx182_2, hl182_2, hi182_2⟩ := at_T28 HR0.out x3_1 p182 q182; obtain rfl : ad155 = ad182 := (by injection e182); (try obtain ⟨rfl, rfl⟩ : A172_2 = A182_2 ∧ c172_2 = c182_2 := (by have h_ := hw172_2.symm.trans hx182_2; simpa using h_)); have hn182_0 : ad155.block ≠ gb179 := nl_ (ll_ (by have := bl_ _ _ hx182_0; first | rwa [ab_] at this | exact this) GW179.out); have hn182_1 : ad155.block ≠ gb179 := nl_ (ll_ (by have := bl_ _ _ hx182_0; first | rwa [ab_] at this | exact this) GW179.out); replace hx182_0 := (HB.out.cell (bl_ w _ hx182_0)).trans hx182_0; replace hx182_1 := (HB.out.cell (bl_ w _ hx182_1)).trans hx182_1; replace hx182_2 := (HB.out.cell (bl_ w _ hx182_2)).trans hx182_2; have HR182_2 := am_ hi182_2; have HC182_2 := am_ hl182_2; clear hi182_2 hl182_2; replace hx182_0 := (cf_ (p := ⟨gb179, 0, none⟩) (by first | (rw [ab_]; exact hn182_0) | (show (Addr.add _ _).block ≠ _; rw [ab_]; exact hn182_0) | exact hn182_0) (.string t174)).trans hx182_0; replace hx182_1 := (cf_ (p := ⟨gb179, 0, none⟩) (by first | (rw [ab_]; exact hn182_0) | (show (Addr.add _ _).block ≠ _; rw [ab_]; exact hn182_0) | exact hn182_0) (.string t174)).trans hx182_1; replace hx182_2 := (cf_ (p := ⟨gb179, 0, none⟩) (by first | (rw [ab_]; exact hn182_0) | (show (Addr.add _ _).block ≠ _; rw [ab_]; exact hn182_0) | exact hn182_0) (.string t174)).trans hx182_2; replace hx182_0 := (cf_ (p := ⟨gb179, 1, none⟩) (by first | (rw [ab_]; exact hn182_1) | (show (Addr.add _ _).block ≠ _; rw [ab_]; exact hn182_1) | exact hn182_1) (.bool t175)).trans hx182_0; replace hx182_1 := (cf_ (p := ⟨gb179, 1, none⟩) (by first | (rw [ab_]; exact hn182_1) | (show (Addr.add _ _).block ≠ _; rw [ab_]; exact hn182_1) | exact hn182_1) (.bool t175)).trans hx182_1; replace hx182_2 := (cf_ (p := ⟨gb179, 1, none⟩) (by first | (rw [ab_]; exact hn182_1) | (show (Addr.add _ _).block ≠ _; rw [ab_]; exact hn182_1) | exact hn182_1) (.bool t175)).trans hx182_2; clear hn182_0; clear hn182_1; replace p182 := eq_true p182; replace q182 := eq_true q182) | (go_at_call 14; (with_reducible refine (pouchref0_EqBytes.calls kj1 _ _ t158 _ _ ((rd_T28 l0 x3_1).f1) true _ ?side1 ?side2 ?side3 ?side4 A36.out).mono ?_); (case side1 => refine (Kd.R_reads' (e := 5) (base := w.heap.size) (ok := fun k_ => True) (n := t158.length) (c := co40) ?_).2.2; exact (by (with_reducible repeat (first | apply ra_ | apply rn_ | apply re_)); exact (Kd.R_mono (Kd.R_far (p := ⟨gb179, 1, none⟩) (Kd.R_far (p := ⟨gb179, 0, none⟩) (Kd.R_types HO160.out BK179.out (by decide)) (fun _ hk => hk.2) (.string t174)) (fun _ hk => hk.2) (.bool t175)) (fun _ h_ => h_.1)))); (case side2 => exact (Kd.R_reads' HO160.out).2.1); (case side3 => exact cb_ HR182_2.out (by repeat (first | (with_reducible first | exact HB.out | apply ba_ | apply bn_ | apply bd_ | refine bs_ ?_ GE168.out | refine bs_ ?_ GE179.out) | exact HB.out))); (case side4 => exact HC182_2.out); rintro e w' ⟨rfl, ⟨nd, rfl⟩⟩))
              go_roundg kj1
              case measure => have := HK1.out; have := HJ1.out; omega
              case rel => exact ⟨(wrap64 (x3_1 + 1)), (by first | rfl | (simp; done) | (simp [*]; done)), H', ⟨by have := HK1.out; have := HJ1.out; omega⟩, ⟨by repeat (first | (with_reducible first | exact HB.out | apply ba_ | apply bn_ | apply bd_ | refine bs_ ?_ GE168.out | refine bs_ ?_ GE179.out) | exact HB.out)⟩⟩
             ·
              replace c37 := Bool.eq_false_iff.mpr c37
              subst c37
              have H1 : (some false) = some r := by rw [if_neg (show ¬ (false = true) by decide)] at H; exact H
              clear H; have H := H1; clear H1
              obtain rfl := Option.some.inj H
              have p155 : 0 ≤ (x3_1 : Int) := od_ (by first | (with_reducible assumption) | assumption)
              have q155 : x3_1 < (l0.length : Int) := od_ (by first | (with_reducible assumption) | assumption)
              obtain ⟨ad155, A155_2, c155_2, e155, hx155_0, hx155_1, hx155_2, hl155_2, hi155_2⟩ := at_T28 HR0.out x3_1 p155 q155
              cases e155
              replace hx155_0 := (HB.out.cell (bl_ w _ hx155_0)).trans hx155_0
              replace hx155_1 := (HB.out.cell (bl_ w _ hx155_1)).trans hx155_1
              replace hx155_2 := (HB.out.cell (bl_ w _ hx155_2)).trans hx155_2
              have HR155_2 := am_ hi155_2
              have HC155_2 := am_ hl155_2
              clear hi155_2 hl155_2
              replace p155 := eq_true p155
              replace q155 := eq_true q155
              try go_wp2_with (first | ((with_reducible refine gate_callee (f := 7) rfl ?_); refine goesL_ (some 24) rfl rfl Try.func7 (by kernel_rfl) rfl #[.agg #[.string ((rd_T28 l0 x3_1).f0.f0), .bool ((rd_T28 l0 x3_1).f0.f1), .slice A155_2 ((rd_T28 l0 x3_1).f1).length c155_2]] rfl (by (try simp only [m1_, m2_, m3_]); first | done | rfl | (simp only [m4_, m5_]; rfl)) ?_; (with_reducible refine (pouchlaw1_heavy.calls ((rd_T28 l0 x3_1).f0.f0) ((rd_T28 l0 x3_1).f0.f1) _ _ ((rd_T28 l0 x3_1).f1) false _ ?side1 ?side2 A7.out).mono ?_); (case side1 => repeat (first | exact (cb_ HR155_2.out HB.out) | (with_reducible refine ca_ ?_ _) | (with_reducible refine cn_ ?_ _) | (with_reducible refine cd_ ?_))); (case side2 => exact HC155_2.out); rintro e w56 ⟨rfl, hb⟩; refine ⟨_, rfl, ?_⟩; have n0_ := am_ (bt_ (by repeat (first | (with_reducible first | exact HB.out | apply ba_ | apply bn_ | apply bd_) | exact HB.out)) hb); clear HB; have HB := n0_; clear n0_; (try clear hb); (try clear hb2); (try clear hk); (try clear hi); have p157 : 0 ≤ (x3_1 : Int) := od_ (by first | (with_reducible assumption) | assumption); have q157 : x3_1 < (l0.length : Int) := od_ (by first | (with_reducible assumption) | assumption); obtain ⟨ad157, A157_2, c157_2, e157, hx157_0, hx157_1, hx157_2, hl157_2, hi157_2⟩ := at_T28 HR0.out x3_1 p157 q157; obtain rfl : ad155 = ad157 := (by injection e157); replace hx157_0 := (HB.out.cell (bl_ w _ hx157_0)).trans hx157_0; replace hx157_1 := (HB.out.cell (bl_ w _ hx157_1)).trans hx157_1; replace hx157_2 := (HB.out.cell (bl_ w _ hx157_2)).trans hx157_2; have HR157_2 := am_ hi157_2; have HC157_2 := am_ hl157_2; clear hi157_2 hl157_2; replace p157 := eq_true p157; replace q157 := eq_true q157) | ((with_reducible refine gate_callee (f := 8) rfl ?_); refine goesL_ (some 30) rfl rfl Try.func8 (by kernel_rfl) rfl #[.slice A157_2 ((rd_T28 l0 x3_1).f1).length c157_2] rfl (by (try simp only [m1_, m2_, m3_]); first | done | rfl | (simp only [m4_, m5_]; rfl)) ?_; (with_reducible refine (pouchref0_CopyBytes.calls kj1 _ _ ((rd_T28 l0 x3_1).f1) t158 _ ?side1 ?side2 A10.out).mono ?_); (case side1 => repeat (first | exact (cb_ HR157_2.out HB.out) | (with_reducible refine ca_ ?_ _) | (with_reducible refine cn_ ?_ _) | (with_reducible refine cd_ ?_))); (case side2 => exact HC157_2.out); rintro e w57 ⟨v159, rfl, ho0, hb⟩; refine ⟨_, rfl, ?_⟩; have n0_ := am_ (Kd.R_lower ho0 (bz_ (by repeat (first | (with_reducible first | exact HB.out | apply ba_ | apply bn_ | apply bd_) | exact HB.out)))); have n1_ := am_ (bt_ (by repeat (first | (with_reducible first | exact HB.out | apply ba_ | apply bn_ | apply bd_) | exact HB.out)) hb); clear HB; have HO160 := n0_; have HB := n1_; clear n0_ n1_; (try clear hb); (try clear hb2); (try clear hk); (try clear hi); (try clear ho0); have p161 : 0 ≤ (x3_1 : Int) := od_ (by first | (with_reducible assumption) | assumption); have q161 : x3_1 < (l0.length : Int) := od_ (by first | (with_reducible assumption) | assumption); obtain ⟨ad161, A161_2, c161_2, e161, hx161_0, hx161_1, hx161_2, hl161_2, hi161_2⟩ := at_T28 HR0.out x3_1 p161 q161; obtain rfl : ad155 = ad161 := (by injection e161); replace hx161_0 := (HB.out.cell (bl_ w _ hx161_0)).trans hx161_0; replace hx161_1 := (HB.out.cell (bl_ w _ hx161_1)).trans hx161_1; replace hx161_2 := (HB.out.cell (bl_ w _ hx161_2)).trans hx161_2; have HR161_2 := am_ hi161_2; have HC161_2 := am_ hl161_2; clear hi161_2 hl161_2; replace p161 := eq_true p161; replace q161 := eq_true q161; obtain ⟨Ao58, co58, eo58⟩ := Kd.R_slice HO160.out; subst eo58) | ((with_reducible refine gate_callee (f := 9) rfl ?_); refine goesL_ (some 38) rfl rfl Try.func9 (by kernel_rfl) rfl #[.agg #[.string ((rd_T28 l0 x3_1).f0.f0), .bool ((rd_T28 l0 x3_1).f0.f1)], .slice Ao58 t158.length co58] rfl (by (try simp only [m1_, m2_, m3_]); first | done | rfl | (simp only [m4_, m5_]; rfl)) ?_; (with_reducible refine (frame_Feed.calls kj1 ((rd_T28 l0 x3_1).f0.f0) ((rd_T28 l0 x3_1).f0.f1) _ _ t158 t162 t163 t164 t167 _ ?side1 ?side2 ?side3 A11.out).mono ?_); (case side1 => repeat (first | exact (Kd.R_reads' HO160.out).2.2 | (with_reducible refine ca_ ?_ _) | (with_reducible refine cn_ ?_ _) | (with_reducible refine cd_ ?_))); (case side2 => exact (Kd.R_reads' HO160.out).2.1); (case side3 => exact GrOk.below hG (by repeat (first | (with_reducible first | exact HB.out | apply ba_ | apply bn_ | apply bd_) | exact HB.out))); rintro e w59 ⟨v165, rfl, ho0, hb⟩; refine ⟨_, rfl, ?_⟩; have n0_ := am_ (rb_ (by (with_reducible repeat (first | apply ra_ | apply rn_ | apply re_)); exact HO160.out) hb); have n1_ := am_ (Kd.R_lower ho0 (bz_ (by repeat (first | (with_reducible first | exact HB.out | apply ba_ | apply bn_ | apply bd_) | exact HB.out)))); have n2_ := am_ (bt_ (by repeat (first | (with_reducible first | exact HB.out | apply ba_ | apply bn_ | apply bd_) | exact HB.out)) hb); clear HO160; clear HB; have HO160 := n0_; have HO166 := n1_; have HB := n2_; clear n0_ n1_ n2_; (try clear hb); (try clear hb2); (try clear hk); (try clear hi); (try clear ho0)) | ((with_reducible refine gate_dst (N := 5) rfl ?_); (try (refine gate_guard (by rfl) ?_; dsimp only)); refine box_event ?hg (N := 5) ?hd (cs := #[.string (⟨#[]⟩ : ByteArray), .bool false]) (t := 25) ?hr ?_; (case hd => rfl); (case hg => rfl); (case hr => first | (go_simp; done) | (go_simp; rfl)); intro gb168 hg w60 hbox hb; have n0_ := am_ (rb_ (by (with_reducible repeat (first | apply ra_ | apply rn_ | apply re_)); exact HO160.out) hb); have n1_ := am_ (rb_ (by (with_reducible repeat (first | apply ra_ | apply rn_ | apply re_)); exact HO166.out) hb); have n2_ := am_ (bt_ (by repeat (first | (with_reducible first | exact HB.out | apply ba_ | apply bn_ | apply bd_) | exact HB.out)) hb); have n3_ := am_ (hbox); have n4_ := am_ ((by rw [hg]; exact (bz_ (by repeat (first | (with_reducible first | exact HB.out | apply ba_ | apply bn_ | apply bd_) | exact HB.out))) : w.heap.size ≤ gb168)); have n5_ := am_ ((by rw [hg]; exact (bz_ (by repeat (first | (with_reducible first | exact HB.out | apply ba_ | apply bn_ | apply bd_) | exact HB.out))) : w.heap.size ≤ gb168)); clear HO160; clear HO166; clear HB; have HO160 := n0_; have HO166 := n1_; have HB := n2_; have BK168 := n3_; have GW168 := n4_; have GE168 := n5_; clear n0_ n1_ n2_ n3_ n4_ n5_; clear hb hbox hg; have hcz61_0 : w60.cell? ⟨gb168, 0, none⟩ = some (.string (⟨#[]⟩ : ByteArray)) := (blk_cell BK168.out 0).trans rfl; have hcz61_1 : w60.cell? ⟨gb168, 1, none⟩ = some (.bool false) := (blk_cell BK168.out 1).trans rfl; have hfz61_0 := blk_frozen BK168.out 0; have hfz61_1 := blk_frozen BK168.out 1; have p169 : 0 ≤ (x3_1 : Int) := od_ (by first | (with_reducible assumption) | assumption); have q169 : x3_1 < (l0.length : Int) := od_ (by first | (with_reducible assumption) | assumption); obtain ⟨ad169, A169_2, c169_2, e169, hx169_0, hx169_1, hx169_2, hl169_2, hi169_2⟩ := at_T28 HR0.out x3_1 p169 q169; obtain rfl : ad155 = ad169 := (by injection e169); have hn169_0 : ad155.block ≠ gb168 := nl_ (ll_ (by have := bl_ _ _ hx169_0; first | rwa [ab_] at this | exact this) GW168.out); have hn169_1 : ad155.block ≠ gb168 := nl_ (ll_ (by have := bl_ _ _ hx169_0; first | rwa [ab_] at this | exact this) GW168.out); replace hx169_0 := (HB.out.cell (bl_ w _ hx169_0)).trans hx169_0; replace hx169_1 := (HB.out.cell (bl_ w _ hx169_1)).trans hx169_1; replace hx169_2 := (HB.out.cell (bl_ w _ hx169_2)).trans hx169_2; have HR169_2 := am_ hi169_2; have HC169_2 := am_ hl169_2; clear hi169_2 hl169_2; replace hx169_0 := (cf_ (p := ⟨gb168, 0, none⟩) (by first | (rw [ab_]; exact hn169_0) | (show (Addr.add _ _).block ≠ _; rw [ab_]; exact hn169_0) | exact hn169_0) (.string t162)).trans hx169_0; replace hx169_1 := (cf_ (p := ⟨gb168, 0, none⟩) (by first | (rw [ab_]; exact hn169_0) | (show (Addr.add _ _).block ≠ _; rw [ab_]; exact hn169_0) | exact hn169_0) (.string t162)).trans hx169_1; replace hx169_2 := (cf_ (p := ⟨gb168, 0, none⟩) (by first | (rw [ab_]; exact hn169_0) | (show (Addr.add _ _).block ≠ _; rw [ab_]; exact hn169_0) | exact hn169_0) (.string t162)).trans hx169_2; replace hx169_0 := (cf_ (p := ⟨gb168, 1, none⟩) (by first | (rw [ab_]; exact hn169_1) | (show (Addr.add _ _).block ≠ _; rw [ab_]; exact hn169_1) | exact hn169_1) (.bool t163)).trans hx169_0; replace hx169_1 := (cf_ (p := ⟨gb168, 1, none⟩) (by first | (rw [ab_]; exact hn169_1) | (show (Addr.add _ _).block ≠ _; rw [ab_]; exact hn169_1) | exact hn169_1) (.bool t163)).trans hx169_1; replace hx169_2 := (cf_ (p := ⟨gb168, 1, none⟩) (by first | (rw [ab_]; exact hn169_1) | (show (Addr.add _ _).block ≠ _; rw [ab_]; exact hn169_1) | exact hn169_1) (.bool t163)).trans hx169_2; clear hn169_0; clear hn169_1; replace p169 := eq_true p169; replace q169 := eq_true q169) | ((with_reducible refine gate_callee (f := 10) rfl ?_); refine goesL_ (some 47) rfl rfl Try.func10 (by kernel_rfl) rfl #[.agg #[.string ((rd_T28 l0 x3_1).f0.f0), .bool ((rd_T28 l0 x3_1).f0.f1)]] rfl (by (try simp only [m1_, m2_, m3_]); first | done | rfl | (simp only [m4_, m5_]; rfl)) ?_; (with_reducible refine (pouchref1_Framer.calls kj1 ((rd_T28 l0 x3_1).f0.f0) ((rd_T28 l0 x3_1).f0.f1) true _ A12.out).mono ?_); rintro e w62 ⟨rfl, hb⟩; refine ⟨_, rfl, ?_⟩; have n0_ := am_ (rb_ (by (with_reducible repeat (first | apply ra_ | apply rn_ | apply re_)); exact (Kd.R_mono (Kd.R_far (p := ⟨gb168, 1, none⟩) (Kd.R_far (p := ⟨gb168, 0, none⟩) (Kd.R_types HO160.out BK168.out (by decide)) (fun _ hk => hk.2) (.string t162)) (fun _ hk => hk.2) (.bool t163)) (fun _ h_ => h_.1))) hb); have n1_ := am_ (rb_ (by (with_reducible repeat (first | apply ra_ | apply rn_ | apply re_)); exact (Kd.R_mono (Kd.R_far (p := ⟨gb168, 1, none⟩) (Kd.R_far (p := ⟨gb168, 0, none⟩) (Kd.R_types HO166.out BK168.out (by decide)) (fun _ hk => hk.2) (.string t162)) (fun _ hk => hk.2) (.bool t163)) (fun _ h_ => h_.1))) hb); have n2_ := am_ (bb_ (g := gb168) (o := .cells #[.string t162, .bool t163] 25 (0, 0)) (by (with_reducible repeat (first | refine kn_ ?_ _ | refine kd_ ?_ | refine ka_ ?_ _)); refine blk_put (cs := #[.string t162, .bool false]) ?_ 1 _ rfl; (with_reducible repeat (first | refine kn_ ?_ _ | refine kd_ ?_ | refine ka_ ?_ _)); refine blk_put (cs := #[.string (⟨#[]⟩ : ByteArray), .bool false]) ?_ 0 _ rfl; (with_reducible repeat (first | refine kn_ ?_ _ | refine kd_ ?_ | refine ka_ ?_ _)); exact BK168.out) hb); have n3_ := am_ (bt_ (by repeat (first | (with_reducible first | exact HB.out | apply ba_ | apply bn_ | apply bd_ | refine bs_ ?_ GE168.out) | exact HB.out)) hb); clear HO160; clear HO166; clear BK168; clear HB; have HO160 := n0_; have HO166 := n1_; have BK168 := n2_; have HB := n3_; clear n0_ n1_ n2_ n3_; (try clear hb); (try clear hb2); (try clear hk); (try clear hi)))
              have n0_ := am_ (re_ HO160.out)
              have n1_ := am_ (re_ HO166.out)
              have n2_ := am_ (kd_ BK168.out)
              have n3_ := am_ (bd_ HB.out)
              clear HO160; clear HO166; clear BK168; clear HB; have HO160 := n0_; have HO166 := n1_; have BK168 := n2_; have HB := n3_; clear n0_ n1_ n2_ n3_
              have p172 : 0 ≤ (x3_1 : Int) := od_ (by first | (with_reducible assumption) | assumption)
              have q172 : x3_1 < (l0.length : Int) := od_ (by first | (with_reducible assumption) | assumption)
              obtain ⟨ad172, A172_2, c172_2, e172, hx172_0, hx172_1, hx172_2, hl172_2, hi172_2⟩ := at_T28 HR0.out x3_1 p172 q172
              have hw172_2 := hx172_2; have hw172_1 := hx172_1; have hw172_0 := hx172_0
              obtain rfl : ad155 = ad172 := (by injection e172)
              replace hx172_0 := (HB.out.cell (bl_ w _ hx172_0)).trans hx172_0
              replace hx172_1 := (HB.out.cell (bl_ w _ hx172_1)).trans hx172_1
              replace hx172_2 := (HB.out.cell (bl_ w _ hx172_2)).trans hx172_2
              have HR172_2 := am_ hi172_2
              have HC172_2 := am_ hl172_2
              clear hi172_2 hl172_2
              replace p172 := eq_true p172
              replace q172 := eq_true q172
              have p173 : 0 ≤ (x3_1 : Int) := od_ (by first | (with_reducible assumption) | assumption)
              have q173 : x3_1 < (l0.length : Int) := od_ (by first | (with_reducible assumption) | assumption)
              obtain ⟨ad173, A173_2, c173_2, e173, hx173_0, hx173_1, hx173_2, hl173_2, hi173_2⟩ := at_T28 HR0.out x3_1 p173 q173
              have hw173_2 := hx173_2; have hw173_1 := hx173_1; have hw173_0 := hx173_0
              obtain rfl : ad155 = ad173 := (by injection e173)
              replace hx173_0 := (HB.out.cell (bl_ w _ hx173_0)).trans hx173_0
              replace hx173_1 := (HB.out.cell (bl_ w _ hx173_1)).trans hx173_1
              replace hx173_2 := (HB.out.cell (bl_ w _ hx173_2)).trans hx173_2
              have HR173_2 := am_ hi173_2
              have HC173_2 := am_ hl173_2
              clear hi173_2 hl173_2
              replace p173 := eq_true p173
              replace q173 := eq_true q173
              have ea_ := Option.some.inj (hx172_2.symm.trans hx173_2)
              injection ea_ with ea_ en_ ec_
              subst ea_
              subst ec_
              clear en_
              refine start_ (n := 17) (S := fun w' => w'.cell? (ad155.add ((x3_1).toNat * 3)) = some (.string ((rd_T28 l0 x3_1).f0.f0)) ∧ w'.cell? ⟨(ad155.add ((x3_1).toNat * 3)).block, (ad155.add ((x3_1).toNat * 3)).off + 1, none⟩ = some (.bool ((rd_T28 l0 x3_1).f0.f1)) ∧ w'.cell? ⟨(ad155.add ((x3_1).toNat * 3)).block, (ad155.add ((x3_1).toNat * 3)).off + 2, none⟩ = some (.slice A172_2 ((rd_T28 l0 x3_1).f1).length c172_2) ∧ w'.cell? (ad155.add ((x3_1).toNat * 3)) = some (.string ((rd_T28 l0 x3_1).f0.f0)) ∧ w'.cell? ⟨(ad155.add ((x3_1).toNat * 3)).block, (ad155.add ((x3_1).toNat * 3)).off + 1, none⟩ = some (.bool ((rd_T28 l0 x3_1).f0.f1)) ∧ w'.cell? ⟨(ad155.add ((x3_1).toNat * 3)).block, (ad155.add ((x3_1).toNat * 3)).off + 2, none⟩ = some (.slice A172_2 ((rd_T28 l0 x3_1).f1).length c172_2)) (ds := []) #[false, false, false, false, false, false, false, false, false, false, false, false, false, false, false, false, false] (by kernel_rfl) rfl rfl ⟨((HB.out.cell (bl_ w _ hw172_0)).trans hw172_0), ((HB.out.cell (bl_ w _ hw172_1)).trans hw172_1), ((HB.out.cell (bl_ w _ hw172_2)).trans hw172_2), ((HB.out.cell (bl_ w _ hw173_0)).trans hw173_0), ((HB.out.cell (bl_ w _ hw173_1)).trans hw173_1), ((HB.out.cell (bl_ w _ hw173_2)).trans hw173_2)⟩ (fun hHeld => ?_); refine with_tabW pouchlaw1_FrameFeeds.tab11 pouchlaw1_FrameFeeds.bits11 (fun HT_ HW_ => ?_)
              generalize w62.drew = w63 at HO160 HO166 BK168 HB HR172_2 HR173_2 hx172_0 hx172_1 hx172_2 hx173_0 hx173_1 hx173_2 hHeld ⊢
              refine pure_ (i := 0) (N := some 58) (v := ?_) (a' := ?_) #[true, false, false, false, false, false, false, false, false, false, false, false, false, false, false, false, false] rfl rfl (any_of HT_.out (by kernel_rfl)) (fun _ _ _ h => h) (Or.inl ⟨by rfl, ?_⟩) ?_ ?_
              rotate_left
              · intro w'; go_simp; with_reducible rfl
              rotate_left
              ·
               simp only [Act.put, s1_, s2_, s3_, i64_w, i32_w]
               rfl
              refine pure_ (i := 1) (N := some 59) (v := ?_) (a' := ?_) #[true, true, false, false, false, false, false, false, false, false, false, false, false, false, false, false, false] rfl rfl (any_of HT_.out (by kernel_rfl)) (fun _ _ _ h => h) (Or.inl ⟨by rfl, ?_⟩) ?_ ?_
              rotate_left
              · intro w'; go_simp; with_reducible rfl
              rotate_left
              ·
               simp only [Act.put, s1_, s2_, s3_, i64_w, i32_w]
               rfl
              refine pure_ (i := 2) (N := some 60) (v := ?_) (a' := ?_) #[true, true, true, false, false, false, false, false, false, false, false, false, false, false, false, false, false] rfl rfl (any_of HT_.out (by kernel_rfl)) (fun _ _ _ h => h) (Or.inl ⟨by rfl, ?_⟩) ?_ ?_
              rotate_left
              · intro w'; go_simp; with_reducible rfl
              rotate_left
              ·
               simp only [Act.put, s1_, s2_, s3_, i64_w, i32_w]
               rfl
              refine pure_ (i := 3) (N := some 61) (v := ?_) (a' := ?_) #[true, true, true, true, false, false, false, false, false, false, false, false, false, false, false, false, false] rfl rfl (any_of HT_.out (by kernel_rfl)) (fun _ _ _ h => h) (Or.inl ⟨by rfl, ?_⟩) ?_ ?_
              rotate_left
              · intro w'; go_simp; with_reducible rfl
              rotate_left
              ·
               simp only [Act.put, s1_, s2_, s3_, i64_w, i32_w]
               rfl
              refine pure_ (i := 5) (N := some 63) (v := ?_) (a' := ?_) #[true, true, true, true, false, true, false, false, false, false, false, false, false, false, false, false, false] rfl rfl (any_of HT_.out (by kernel_rfl)) (fun _ _ _ h => h) (Or.inl ⟨by rfl, ?_⟩) ?_ ?_
              rotate_left
              · intro w'; go_simp; with_reducible rfl
              rotate_left
              ·
               simp only [Act.put, s1_, s2_, s3_, i64_w, i32_w]
               rfl
              refine pure_ (i := 6) (N := some 64) (v := ?_) (a' := ?_) #[true, true, true, true, false, true, true, false, false, false, false, false, false, false, false, false, false] rfl rfl (any_of HT_.out (by kernel_rfl)) (fun _ _ _ h => h) (Or.inl ⟨by rfl, ?_⟩) ?_ ?_
              rotate_left
              · intro w'; go_simp; with_reducible rfl
              rotate_left
              ·
               simp only [Act.put, s1_, s2_, s3_, i64_w, i32_w]
               rfl
              refine pure_ (i := 7) (N := some 65) (v := ?_) (a' := ?_) #[true, true, true, true, false, true, true, true, false, false, false, false, false, false, false, false, false] rfl rfl (any_of HT_.out (by kernel_rfl)) (fun _ _ _ h => h) (Or.inl ⟨by rfl, ?_⟩) ?_ ?_
              rotate_left
              · intro w'; go_simp; with_reducible rfl
              rotate_left
              ·
               simp only [Act.put, s1_, s2_, s3_, i64_w, i32_w]
               rfl
              refine pure_ (i := 8) (N := some 66) (v := ?_) (a' := ?_) #[true, true, true, true, false, true, true, true, true, false, false, false, false, false, false, false, false] rfl rfl (any_of HT_.out (by kernel_rfl)) (fun _ _ _ h => h) (Or.inl ⟨by rfl, ?_⟩) ?_ ?_
              rotate_left
              · intro w'; go_simp; with_reducible rfl
              rotate_left
              ·
               simp only [Act.put, s1_, s2_, s3_, i64_w, i32_w]
               rfl
              refine take_ (i := 4) (N := some 62) (v := ?_) (a' := ?_) #[true, true, true, true, true, true, true, true, true, false, false, false, false, false, false, false, false] rfl rfl (take_ofW HT_.out HW_.out (by kernel_rfl)) (fun _ _ _ h => h) (Or.inl ⟨by rfl, ?_⟩) hHeld ?_ ?_
              rotate_left
              ·
               rintro w' ⟨s0, s1, s2, s3, s4, s5⟩
               go_simp; with_reducible rfl
              rotate_left
              ·
               simp only [Act.put, s1_, s2_, s3_, i64_w, i32_w]
               rfl
              refine take_ (i := 9) (N := some 67) (v := ?_) (a' := ?_) #[true, true, true, true, true, true, true, true, true, true, false, false, false, false, false, false, false] rfl rfl (take_ofW HT_.out HW_.out (by kernel_rfl)) (fun _ _ _ h => h) (Or.inl ⟨by rfl, ?_⟩) hHeld ?_ ?_
              rotate_left
              ·
               rintro w' ⟨s0, s1, s2, s3, s4, s5⟩
               go_simp; with_reducible rfl
              rotate_left
              ·
               simp only [Act.put, s1_, s2_, s3_, i64_w, i32_w]
               rfl
              refine join_ (σ := Value × Nat) 2 #[true, true, true, true, true, true, true, true, true, true, true, true, true, true, true, false, false] (fun s_ => [(68, .tuple #[.agg #[.string t174, .bool t175], s_.1]), (8, .pointer (some ⟨s_.2, 0, none⟩)), (57, .tuple #[.agg #[.string t174, .bool t175], s_.1]), (69, .agg #[.string t174, .bool t175]), (70, s_.1)]) (fun s_ w' => (w'.cell? (ad155.add ((x3_1).toNat * 3)) = some (.string ((rd_T28 l0 x3_1).f0.f0)) ∧ w'.cell? ⟨(ad155.add ((x3_1).toNat * 3)).block, (ad155.add ((x3_1).toNat * 3)).off + 1, none⟩ = some (.bool ((rd_T28 l0 x3_1).f0.f1)) ∧ w'.cell? ⟨(ad155.add ((x3_1).toNat * 3)).block, (ad155.add ((x3_1).toNat * 3)).off + 2, none⟩ = some (.slice A172_2 ((rd_T28 l0 x3_1).f1).length c172_2) ∧ w'.cell? (ad155.add ((x3_1).toNat * 3)) = some (.string ((rd_T28 l0 x3_1).f0.f0)) ∧ w'.cell? ⟨(ad155.add ((x3_1).toNat * 3)).block, (ad155.add ((x3_1).toNat * 3)).off + 1, none⟩ = some (.bool ((rd_T28 l0 x3_1).f0.f1)) ∧ w'.cell? ⟨(ad155.add ((x3_1).toNat * 3)).block, (ad155.add ((x3_1).toNat * 3)).off + 2, none⟩ = some (.slice A172_2 ((rd_T28 l0 x3_1).f1).length c172_2)) ∧ (Kd.R (Kd.int .u8) 5 w' w.heap.size (fun _ => True) (.slice Ao58 t158.length co58) t158) ∧ (Kd.R k46 46 w' w.heap.size (fun k_ => some k_ ≠ (s_.1 : Value).ownBlock) v165 t164) ∧ (Kd.R k46 46 w' w.heap.size (fun k_ => some k_ ≠ (v165 : Value).ownBlock) s_.1 t176) ∧ (w'.heap[gb168]? = some (.cells #[.string t162, .bool t163] 25 (0, 0))) ∧ (w'.heap[s_.2]? = some (.cells #[.string (⟨#[]⟩ : ByteArray), .bool false] 25 (0, 0))) ∧ (w.heap.size ≤ s_.2) ∧ (w.heap.size ≤ s_.2) ∧ (gb168 ≠ s_.2) ∧ (s_.2 ≠ gb168) ∧ (Below w.heap.size w w')) ?_ ?_
              rotate_left
              ·
               intro hCont
               refine two_ (i := 10) (j := 14) (Ni := some 68) (Nj := some 8) #[true, true, true, true, true, true, true, true, true, true, true, false, false, false, false, false, false] #[true, true, true, true, true, true, true, true, true, true, false, false, false, false, true, false, false] rfl rfl rfl rfl (two_of HT_.out (by kernel_rfl)) (by decide) (by decide) (fun K hK => ?_) (fun K hK => ?_)
               ·
                skip
                refine goes_ Try.func12 (by kernel_rfl) rfl #[.agg #[.string ((rd_T28 l0 x3_1).f0.f0), .bool ((rd_T28 l0 x3_1).f0.f1)], .slice A172_2 ((rd_T28 l0 x3_1).f1).length c172_2] (by rfl) rfl rfl (by (try simp only [m1_, m2_, m3_]); first | done | rfl | (simp only [m4_, m5_]; rfl)) ?_
                with_reducible refine (pouchref1_Feed.calls kj1 ((rd_T28 l0 x3_1).f0.f0) ((rd_T28 l0 x3_1).f0.f1) _ _ ((rd_T28 l0 x3_1).f1) t174 t175 t176 _ ?side1 ?side2 A14.out).mono ?_
                (case side1 => repeat (first | exact (cb_ HR173_2.out HB.out) | (with_reducible refine ca_ ?_ _) | (with_reducible refine cn_ ?_ _) | (with_reducible refine cd_ ?_)))
                (case side2 => exact HC173_2.out)
                rintro e w64 ⟨v177, rfl, ho0, hb⟩
                refine ⟨_, rfl, ?_⟩
                have n0_ := am_ (rb_ (by (with_reducible repeat (first | apply ra_ | apply rn_ | apply re_)); exact HO160.out) hb)
                have n1_ := am_ (Kd.R_elder' (by (with_reducible repeat (first | apply ra_ | apply rn_ | apply re_)); exact HO166.out) (Kd.R_base ho0) hb)
                have n2_ := am_ (Kd.R_lower (Kd.R_new' ho0 (Kd.R_lt (by (with_reducible repeat (first | apply ra_ | apply rn_ | apply re_)); exact HO166.out))) (bz_ (by repeat (first | (with_reducible first | exact HB.out | apply ba_ | apply bn_ | apply bd_ | refine bs_ ?_ GE168.out) | exact HB.out))))
                have n3_ := am_ (bb_ (g := gb168) (o := .cells #[.string t162, .bool t163] 25 (0, 0)) (by (with_reducible repeat (first | refine kn_ ?_ _ | refine kd_ ?_ | refine ka_ ?_ _)); exact BK168.out) hb)
                have n4_ := am_ (bt_ (by repeat (first | (with_reducible first | exact HB.out | apply ba_ | apply bn_ | apply bd_ | refine bs_ ?_ GE168.out) | exact HB.out)) hb)
                clear HO160; clear HO166; clear BK168; clear HB; have HO160 := n0_; have HO166 := n1_; have HO178 := n2_; have BK168 := n3_; have HB := n4_; clear n0_ n1_ n2_ n3_ n4_
                (try clear hb)
                (try clear hb2)
                (try clear hk)
                (try clear hi)
                (try clear ho0)
                refine hK.out _ _ ⟨((HB.out.cell (bl_ w _ hw172_0)).trans hw172_0), ((HB.out.cell (bl_ w _ hw172_1)).trans hw172_1), ((HB.out.cell (bl_ w _ hw172_2)).trans hw172_2), ((HB.out.cell (bl_ w _ hw173_0)).trans hw173_0), ((HB.out.cell (bl_ w _ hw173_1)).trans hw173_1), ((HB.out.cell (bl_ w _ hw173_2)).trans hw173_2)⟩ (fun hHeld => ?_)
                clear hK K
                refine norm_ (a' := ?_) ?_ ?_
                rotate_left
                ·
                 show Act.put _ (some 68) _ = _
                 simp only [Act.put, s1_, s2_, s3_, i64_w, i32_w]
                 rfl
                refine pure_ (i := 11) (N := some 57) (v := ?_) (a' := ?_) #[true, true, true, true, true, true, true, true, true, true, true, true, false, false, false, false, false] rfl rfl (any_of HT_.out (by kernel_rfl)) (fun _ _ _ h => h) (Or.inl ⟨by rfl, ?_⟩) ?_ ?_
                rotate_left
                · intro w'; go_simp; with_reducible rfl
                rotate_left
                ·
                 simp only [Act.put, s1_, s2_, s3_, i64_w, i32_w]
                 rfl
                refine pure_ (i := 12) (N := some 69) (v := ?_) (a' := ?_) #[true, true, true, true, true, true, true, true, true, true, true, true, true, false, false, false, false] rfl rfl (any_of HT_.out (by kernel_rfl)) (fun _ _ _ h => h) (Or.inl ⟨by rfl, ?_⟩) ?_ ?_
                rotate_left
                · intro w'; go_simp; with_reducible rfl
                rotate_left
                ·
                 simp only [Act.put, s1_, s2_, s3_, i64_w, i32_w]
                 rfl
                refine pure_ (i := 13) (N := some 70) (v := ?_) (a' := ?_) #[true, true, true, true, true, true, true, true, true, true, true, true, true, true, false, false, false] rfl rfl (any_of HT_.out (by kernel_rfl)) (fun _ _ _ h => h) (Or.inl ⟨by rfl, ?_⟩) ?_ ?_
                rotate_left
                · intro w'; go_simp; with_reducible rfl
                rotate_left
                ·
                 simp only [Act.put, s1_, s2_, s3_, i64_w, i32_w]
                 rfl
                refine one_ (i := 14) (N := some 8) #[true, true, true, true, true, true, true, true, true, true, true, true, true, true, true, false, false] rfl rfl (one_of HT_.out (by kernel_rfl)) (by decide) (fun K hK => ?_)
                refine box_step ?hg (N := 8) ?hd (cs := #[.string (⟨#[]⟩ : ByteArray), .bool false]) (t := 25) ?hr ?_; (case hd => rfl); (case hg => rfl); (case hr => first | (go_simp; done) | (go_simp; rfl))
                intro gb179 hg w65 hbox hb
                have n0_ := am_ (rb_ (by (with_reducible repeat (first | apply ra_ | apply rn_ | apply re_)); exact HO160.out) hb)
                have n1_ := am_ (rb_ (by (with_reducible repeat (first | apply ra_ | apply rn_ | apply re_)); exact HO166.out) hb)
                have n2_ := am_ (rb_ (by (with_reducible repeat (first | apply ra_ | apply rn_ | apply re_)); exact HO178.out) hb)
                have n3_ := am_ (bb_ (g := gb168) (o := .cells #[.string t162, .bool t163] 25 (0, 0)) (by (with_reducible repeat (first | refine kn_ ?_ _ | refine kd_ ?_ | refine ka_ ?_ _)); exact BK168.out) hb)
                have n4_ := am_ (bt_ (by repeat (first | (with_reducible first | exact HB.out | apply ba_ | apply bn_ | apply bd_ | refine bs_ ?_ GE168.out) | exact HB.out)) hb)
                have n5_ := am_ (hbox)
                have n6_ := am_ ((by rw [hg]; exact (bz_ (by repeat (first | (with_reducible first | exact HB.out | apply ba_ | apply bn_ | apply bd_ | refine bs_ ?_ GE168.out) | exact HB.out))) : w.heap.size ≤ gb179))
                have n7_ := am_ ((by rw [hg]; exact (bz_ (by repeat (first | (with_reducible first | exact HB.out | apply ba_ | apply bn_ | apply bd_ | refine bs_ ?_ GE168.out) | exact HB.out))) : w.heap.size ≤ gb179))
                have n8_ := am_ ((by rw [hg]; exact nl_ (blk_lt (g := gb168) (o := .cells #[.string t162, .bool t163] 25 (0, 0)) (by (with_reducible repeat (first | refine kn_ ?_ _ | refine kd_ ?_ | refine ka_ ?_ _)); exact BK168.out)) : gb168 ≠ gb179))
                have n9_ := am_ ((by rw [hg]; exact Nat.ne_of_gt (blk_lt (g := gb168) (o := .cells #[.string t162, .bool t163] 25 (0, 0)) (by (with_reducible repeat (first | refine kn_ ?_ _ | refine kd_ ?_ | refine ka_ ?_ _)); exact BK168.out)) : gb179 ≠ gb168))
                clear HO160; clear HO166; clear HO178; clear BK168; clear HB; have HO160 := n0_; have HO166 := n1_; have HO178 := n2_; have BK168 := n3_; have HB := n4_; have BK179 := n5_; have GW179 := n6_; have GE179 := n7_; have NB168_179 := n8_; have NB179_168 := n9_; clear n0_ n1_ n2_ n3_ n4_ n5_ n6_ n7_ n8_ n9_; clear hb hbox hg
                refine hK.out _ _ ⟨((HB.out.cell (bl_ w _ hw172_0)).trans hw172_0), ((HB.out.cell (bl_ w _ hw172_1)).trans hw172_1), ((HB.out.cell (bl_ w _ hw172_2)).trans hw172_2), ((HB.out.cell (bl_ w _ hw173_0)).trans hw173_0), ((HB.out.cell (bl_ w _ hw173_1)).trans hw173_1), ((HB.out.cell (bl_ w _ hw173_2)).trans hw173_2)⟩ (fun hHeld => ?_)
                clear hK K
                refine norm_ (a' := ?_) ?_ ?_
                rotate_left
                ·
                 show Act.put _ (some 8) _ = _
                 simp only [Act.put, s1_, s2_, s3_, i64_w, i32_w]
                 rfl
                exact norm_ (by simp only [putAll, Act.put, s1_, s2_, s3_]) (hCont (v177, gb179) _ ⟨hHeld, (by (with_reducible repeat (first | apply ra_ | apply rn_ | apply re_)); exact HO160.out), (by (with_reducible repeat (first | apply ra_ | apply rn_ | apply re_)); exact Kd.R_mono HO166.out (fun _ hk => hk.2)), (by (with_reducible repeat (first | apply ra_ | apply rn_ | apply re_)); exact Kd.R_mono HO178.out (fun _ hk => hk.2)), (by (with_reducible repeat (first | refine kn_ ?_ _ | refine kd_ ?_ | refine ka_ ?_ _)); exact BK168.out), (by (with_reducible repeat (first | refine kn_ ?_ _ | refine kd_ ?_ | refine ka_ ?_ _)); exact BK179.out), GW179.out, GE179.out, NB168_179.out, NB179_168.out, (by repeat (first | (with_reducible first | exact HB.out | apply ba_ | apply bn_ | apply bd_ | refine bs_ ?_ GE168.out | refine bs_ ?_ GE179.out) | exact HB.out))⟩)
               ·
                skip
                refine box_step ?hg (N := 8) ?hd (cs := #[.string (⟨#[]⟩ : ByteArray), .bool false]) (t := 25) ?hr ?_; (case hd => rfl); (case hg => rfl); (case hr => first | (go_simp; done) | (go_simp; rfl))
                intro gb179 hg w64 hbox hb
                have n0_ := am_ (rb_ (by (with_reducible repeat (first | apply ra_ | apply rn_ | apply re_)); exact HO160.out) hb)
                have n1_ := am_ (rb_ (by (with_reducible repeat (first | apply ra_ | apply rn_ | apply re_)); exact HO166.out) hb)
                have n2_ := am_ (bb_ (g := gb168) (o := .cells #[.string t162, .bool t163] 25 (0, 0)) (by (with_reducible repeat (first | refine kn_ ?_ _ | refine kd_ ?_ | refine ka_ ?_ _)); exact BK168.out) hb)
                have n3_ := am_ (bt_ (by repeat (first | (with_reducible first | exact HB.out | apply ba_ | apply bn_ | apply bd_ | refine bs_ ?_ GE168.out) | exact HB.out)) hb)
                have n4_ := am_ (hbox)
                have n5_ := am_ ((by rw [hg]; exact (bz_ (by repeat (first | (with_reducible first | exact HB.out | apply ba_ | apply bn_ | apply bd_ | refine bs_ ?_ GE168.out) | exact HB.out))) : w.heap.size ≤ gb179))
                have n6_ := am_ ((by rw [hg]; exact (bz_ (by repeat (first | (with_reducible first | exact HB.out | apply ba_ | apply bn_ | apply bd_ | refine bs_ ?_ GE168.out) | exact HB.out))) : w.heap.size ≤ gb179))
                have n7_ := am_ ((by rw [hg]; exact nl_ (blk_lt (g := gb168) (o := .cells #[.string t162, .bool t163] 25 (0, 0)) (by (with_reducible repeat (first | refine kn_ ?_ _ | refine kd_ ?_ | refine ka_ ?_ _)); exact BK168.out)) : gb168 ≠ gb179))
                have n8_ := am_ ((by rw [hg]; exact Nat.ne_of_gt (blk_lt (g := gb168) (o := .cells #[.string t162, .bool t163] 25 (0, 0)) (by (with_reducible repeat (first | refine kn_ ?_ _ | refine kd_ ?_ | refine ka_ ?_ _)); exact BK168.out)) : gb179 ≠ gb168))
                clear HO160; clear HO166; clear BK168; clear HB; have HO160 := n0_; have HO166 := n1_; have BK168 := n2_; have HB := n3_; have BK179 := n4_; have GW179 := n5_; have GE179 := n6_; have NB168_179 := n7_; have NB179_168 := n8_; clear n0_ n1_ n2_ n3_ n4_ n5_ n6_ n7_ n8_; clear hb hbox hg
                refine hK.out _ _ ⟨((HB.out.cell (bl_ w _ hw172_0)).trans hw172_0), ((HB.out.cell (bl_ w _ hw172_1)).trans hw172_1), ((HB.out.cell (bl_ w _ hw172_2)).trans hw172_2), ((HB.out.cell (bl_ w _ hw173_0)).trans hw173_0), ((HB.out.cell (bl_ w _ hw173_1)).trans hw173_1), ((HB.out.cell (bl_ w _ hw173_2)).trans hw173_2)⟩ (fun hHeld => ?_)
                clear hK K
                refine norm_ (a' := ?_) ?_ ?_
                rotate_left
                ·
                 show Act.put _ (some 8) _ = _
                 simp only [Act.put, s1_, s2_, s3_, i64_w, i32_w]
                 rfl
                refine one_ (i := 10) (N := some 68) #[true, true, true, true, true, true, true, true, true, true, true, false, false, false, true, false, false] rfl rfl (one_of HT_.out (by kernel_rfl)) (by decide) (fun K hK => ?_)
                refine goes_ Try.func12 (by kernel_rfl) rfl #[.agg #[.string ((rd_T28 l0 x3_1).f0.f0), .bool ((rd_T28 l0 x3_1).f0.f1)], .slice A172_2 ((rd_T28 l0 x3_1).f1).length c172_2] (by rfl) rfl rfl (by (try simp only [m1_, m2_, m3_]); first | done | rfl | (simp only [m4_, m5_]; rfl)) ?_
                with_reducible refine (pouchref1_Feed.calls kj1 ((rd_T28 l0 x3_1).f0.f0) ((rd_T28 l0 x3_1).f0.f1) _ _ ((rd_T28 l0 x3_1).f1) t174 t175 t176 _ ?side1 ?side2 A14.out).mono ?_
                (case side1 => repeat (first | exact (cb_ HR173_2.out HB.out) | (with_reducible refine ca_ ?_ _) | (with_reducible refine cn_ ?_ _) | (with_reducible refine cd_ ?_)))
                (case side2 => exact HC173_2.out)
                rintro e w65 ⟨v177, rfl, ho0, hb⟩
                refine ⟨_, rfl, ?_⟩
                have n0_ := am_ (rb_ (by (with_reducible repeat (first | apply ra_ | apply rn_ | apply re_)); exact HO160.out) hb)
                have n1_ := am_ (Kd.R_elder' (by (with_reducible repeat (first | apply ra_ | apply rn_ | apply re_)); exact HO166.out) (Kd.R_base ho0) hb)
                have n2_ := am_ (Kd.R_lower (Kd.R_new' ho0 (Kd.R_lt (by (with_reducible repeat (first | apply ra_ | apply rn_ | apply re_)); exact HO166.out))) (bz_ (by repeat (first | (with_reducible first | exact HB.out | apply ba_ | apply bn_ | apply bd_ | refine bs_ ?_ GE168.out | refine bs_ ?_ GE179.out) | exact HB.out))))
                have n3_ := am_ (bb_ (g := gb168) (o := .cells #[.string t162, .bool t163] 25 (0, 0)) (by (with_reducible repeat (first | refine kn_ ?_ _ | refine kd_ ?_ | refine ka_ ?_ _)); exact BK168.out) hb)
                have n4_ := am_ (bb_ (g := gb179) (o := .cells #[.string (⟨#[]⟩ : ByteArray), .bool false] 25 (0, 0)) (by (with_reducible repeat (first | refine kn_ ?_ _ | refine kd_ ?_ | refine ka_ ?_ _)); exact BK179.out) hb)
                have n5_ := am_ (bt_ (by repeat (first | (with_reducible first | exact HB.out | apply ba_ | apply bn_ | apply bd_ | refine bs_ ?_ GE168.out | refine bs_ ?_ GE179.out) | exact HB.out)) hb)
                clear HO160; clear HO166; clear BK168; clear BK179; clear HB; have HO160 := n0_; have HO166 := n1_; have HO178 := n2_; have BK168 := n3_; have BK179 := n4_; have HB := n5_; clear n0_ n1_ n2_ n3_ n4_ n5_
                (try clear hb)
                (try clear hb2)
                (try clear hk)
                (try clear hi)
                (try clear ho0)
                refine hK.out _ _ ⟨((HB.out.cell (bl_ w _ hw172_0)).trans hw172_0), ((HB.out.cell (bl_ w _ hw172_1)).trans hw172_1), ((HB.out.cell (bl_ w _ hw172_2)).trans hw172_2), ((HB.out.cell (bl_ w _ hw173_0)).trans hw173_0), ((HB.out.cell (bl_ w _ hw173_1)).trans hw173_1), ((HB.out.cell (bl_ w _ hw173_2)).trans hw173_2)⟩ (fun hHeld => ?_)
                clear hK K
                refine norm_ (a' := ?_) ?_ ?_
                rotate_left
                ·
                 show Act.put _ (some 68) _ = _
                 simp only [Act.put, s1_, s2_, s3_, i64_w, i32_w]
                 rfl
                refine pure_ (i := 11) (N := some 57) (v := ?_) (a' := ?_) #[true, true, true, true, true, true, true, true, true, true, true, true, false, false, true, false, false] rfl rfl (any_of HT_.out (by kernel_rfl)) (fun _ _ _ h => h) (Or.inl ⟨by rfl, ?_⟩) ?_ ?_
                rotate_left
                · intro w'; go_simp; with_reducible rfl
                rotate_left
                ·
                 simp only [Act.put, s1_, s2_, s3_, i64_w, i32_w]
                 rfl
                refine pure_ (i := 12) (N := some 69) (v := ?_) (a' := ?_) #[true, true, true, true, true, true, true, true, true, true, true, true, true, false, true, false, false] rfl rfl (any_of HT_.out (by kernel_rfl)) (fun _ _ _ h => h) (Or.inl ⟨by rfl, ?_⟩) ?_ ?_
                rotate_left
                · intro w'; go_simp; with_reducible rfl
                rotate_left
                ·
                 simp only [Act.put, s1_, s2_, s3_, i64_w, i32_w]
                 rfl
                refine pure_ (i := 13) (N := some 70) (v := ?_) (a' := ?_) #[true, true, true, true, true, true, true, true, true, true, true, true, true, true, true, false, false] rfl rfl (any_of HT_.out (by kernel_rfl)) (fun _ _ _ h => h) (Or.inl ⟨by rfl, ?_⟩) ?_ ?_
                rotate_left
                · intro w'; go_simp; with_reducible rfl
                rotate_left
                ·
                 simp only [Act.put, s1_, s2_, s3_, i64_w, i32_w]
                 rfl
                exact norm_ (by simp only [putAll, Act.put, s1_, s2_, s3_]) (hCont (v177, gb179) _ ⟨hHeld, (by (with_reducible repeat (first | apply ra_ | apply rn_ | apply re_)); exact HO160.out), (by (with_reducible repeat (first | apply ra_ | apply rn_ | apply re_)); exact Kd.R_mono HO166.out (fun _ hk => hk.2)), (by (with_reducible repeat (first | apply ra_ | apply rn_ | apply re_)); exact Kd.R_mono HO178.out (fun _ hk => hk.2)), (by (with_reducible repeat (first | refine kn_ ?_ _ | refine kd_ ?_ | refine ka_ ?_ _)); exact BK168.out), (by (with_reducible repeat (first | refine kn_ ?_ _ | refine kd_ ?_ | refine ka_ ?_ _)); exact BK179.out), GW179.out, GE179.out, NB168_179.out, NB179_168.out, (by repeat (first | (with_reducible first | exact HB.out | apply ba_ | apply bn_ | apply bd_ | refine bs_ ?_ GE168.out | refine bs_ ?_ GE179.out) | exact HB.out))⟩)
              rintro ⟨v177, gb179⟩ w66 ⟨hS_, h0_, h1_, h2_, h3_, h4_, h5_, h6_, h7_, h8_, h9_⟩
              have n0_ : Aside0 (Kd.R (Kd.int .u8) 5 w66 w.heap.size (fun _ => True) (.slice Ao58 t158.length co58) t158) := ⟨h0_⟩
              have n1_ : Aside0 (Kd.R k46 46 w66 w.heap.size (fun k_ => some k_ ≠ (v177 : Value).ownBlock) v165 t164) := ⟨h1_⟩
              have n2_ : Aside0 (Kd.R k46 46 w66 w.heap.size (fun k_ => some k_ ≠ (v165 : Value).ownBlock) v177 t176) := ⟨h2_⟩
              have n3_ : Aside0 (w66.heap[gb168]? = some (.cells #[.string t162, .bool t163] 25 (0, 0))) := ⟨h3_⟩
              have n4_ : Aside0 (w66.heap[gb179]? = some (.cells #[.string (⟨#[]⟩ : ByteArray), .bool false] 25 (0, 0))) := ⟨h4_⟩
              have n5_ : Aside0 (w.heap.size ≤ gb179) := ⟨h5_⟩
              have n6_ : Aside0 (w.heap.size ≤ gb179) := ⟨h6_⟩
              have n7_ : Aside0 (gb168 ≠ gb179) := ⟨h7_⟩
              have n8_ : Aside0 (gb179 ≠ gb168) := ⟨h8_⟩
              have n9_ : Aside0 (Below w.heap.size w w66) := ⟨h9_⟩
              clear HO160; clear HO166; clear BK168; clear HB; clear h0_ h1_ h2_ h3_ h4_ h5_ h6_ h7_ h8_ h9_; have HO160 := n0_; have HO166 := n1_; have HO178 := n2_; have BK168 := n3_; have BK179 := n4_; have GW179 := n5_; have GE179 := n6_; have NB168_179 := n7_; have NB179_168 := n8_; have HB := n9_; clear n0_ n1_ n2_ n3_ n4_ n5_ n6_ n7_ n8_ n9_
              have hHeld : w66.cell? (ad155.add ((x3_1).toNat * 3)) = some (.string ((rd_T28 l0 x3_1).f0.f0)) ∧ w66.cell? ⟨(ad155.add ((x3_1).toNat * 3)).block, (ad155.add ((x3_1).toNat * 3)).off + 1, none⟩ = some (.bool ((rd_T28 l0 x3_1).f0.f1)) ∧ w66.cell? ⟨(ad155.add ((x3_1).toNat * 3)).block, (ad155.add ((x3_1).toNat * 3)).off + 2, none⟩ = some (.slice A172_2 ((rd_T28 l0 x3_1).f1).length c172_2) ∧ w66.cell? (ad155.add ((x3_1).toNat * 3)) = some (.string ((rd_T28 l0 x3_1).f0.f0)) ∧ w66.cell? ⟨(ad155.add ((x3_1).toNat * 3)).block, (ad155.add ((x3_1).toNat * 3)).off + 1, none⟩ = some (.bool ((rd_T28 l0 x3_1).f0.f1)) ∧ w66.cell? ⟨(ad155.add ((x3_1).toNat * 3)).block, (ad155.add ((x3_1).toNat * 3)).off + 2, none⟩ = some (.slice A172_2 ((rd_T28 l0 x3_1).f1).length c172_2) := hS_
              refine norm_ (a' := ?_) ?_ ?_
              rotate_left
              ·
               simp only [putAll, Act.put, s1_, s2_, s3_]
               rfl
              refine one_ (i := 15) (N := none) #[true, true, true, true, true, true, true, true, true, true, true, true, true, true, true, true, false] rfl rfl (one_of HT_.out (by kernel_rfl)) (by decide) (fun K hK => ?_)
              have hs67 : w66.cell? ⟨gb179, 0, none⟩ = some (.string (⟨#[]⟩ : ByteArray)) := (blk_cell BK179.out 0).trans rfl
              have hfs67 := blk_frozen BK179.out 0
              have hns67_0 := NB168_179.out
              have hms67_0 := NB179_168.out
              have hs68 : w66.cell? ⟨gb179, 1, none⟩ = some (.bool false) := (blk_cell BK179.out 1).trans rfl
              have hfs68 := blk_frozen BK179.out 1
              have hns68_0 := NB168_179.out
              have hms68_0 := NB179_168.out
              refine skip_ (w1 := ?_) (by rfl) rfl ?_ ?_
              rotate_left
              ·
               go_simp
               rfl
              refine hK.out _ _ ⟨((cf_ (p := ⟨gb179, _, none⟩) (nb_ hw172_0 GW179.out) _).trans (((cf_ (p := ⟨gb179, _, none⟩) (nb_ hw172_0 GW179.out) _).trans (hHeld.1)))), ((cf_ (p := ⟨gb179, _, none⟩) (nb_ hw172_1 GW179.out) _).trans (((cf_ (p := ⟨gb179, _, none⟩) (nb_ hw172_1 GW179.out) _).trans (hHeld.2.1)))), ((cf_ (p := ⟨gb179, _, none⟩) (nb_ hw172_2 GW179.out) _).trans (((cf_ (p := ⟨gb179, _, none⟩) (nb_ hw172_2 GW179.out) _).trans (hHeld.2.2.1)))), ((cf_ (p := ⟨gb179, _, none⟩) (nb_ hw173_0 GW179.out) _).trans (((cf_ (p := ⟨gb179, _, none⟩) (nb_ hw173_0 GW179.out) _).trans (hHeld.2.2.2.1)))), ((cf_ (p := ⟨gb179, _, none⟩) (nb_ hw173_1 GW179.out) _).trans (((cf_ (p := ⟨gb179, _, none⟩) (nb_ hw173_1 GW179.out) _).trans (hHeld.2.2.2.2.1)))), ((cf_ (p := ⟨gb179, _, none⟩) (nb_ hw173_2 GW179.out) _).trans (((cf_ (p := ⟨gb179, _, none⟩) (nb_ hw173_2 GW179.out) _).trans (hHeld.2.2.2.2.2))))⟩ (fun hHeld => ?_)
              clear hK K
              refine pure_ (i := 16) (N := some 9) (v := ?_) (a' := ?_) #[true, true, true, true, true, true, true, true, true, true, true, true, true, true, true, true, true] rfl rfl (any_of HT_.out (by kernel_rfl)) (fun _ _ _ h => h) (Or.inl ⟨by rfl, ?_⟩) ?_ ?_
              rotate_left
              · intro w'; go_simp; with_reducible rfl
              rotate_left
              ·
               simp only [Act.put, s1_, s2_, s3_, i64_w, i32_w]
               rfl
              refine done_ (done_of HT_.out (by kernel_rfl)) ?_
              try go_wp2_with (first | ((with_reducible refine gate_callee (f := 11) rfl ?_); refine goesL_ (some 72) rfl rfl Try.func11 (by kernel_rfl) rfl #[.int .i64 t167] rfl (by (try simp only [m1_, m2_, m3_]); first | done | rfl | (simp only [m4_, m5_]; rfl)) ?_; (with_reducible refine (pouchlaw1_num.calls t167 t180 _ A15.out).mono ?_); rintro e w' ⟨rfl, ⟨nd, rfl⟩⟩; refine ⟨_, rfl, ?_⟩; have hnb69 := NB168_179.out; have hnc69 := NB179_168.out; have hcz70_0 : w66.cell? ⟨gb168, 0, none⟩ = some (.string t162) := (blk_cell BK168.out 0).trans rfl; have hcz70_1 : w66.cell? ⟨gb168, 1, none⟩ = some (.bool t163) := (blk_cell BK168.out 1).trans rfl; have hfz70_0 := blk_frozen BK168.out 0; have hfz70_1 := blk_frozen BK168.out 1; have hcz71_0 : w66.cell? ⟨gb179, 0, none⟩ = some (.string (⟨#[]⟩ : ByteArray)) := (blk_cell BK179.out 0).trans rfl; have hcz71_1 : w66.cell? ⟨gb179, 1, none⟩ = some (.bool false) := (blk_cell BK179.out 1).trans rfl; have hfz71_0 := blk_frozen BK179.out 0; have hfz71_1 := blk_frozen BK179.out 1; obtain ⟨Ao72, co72, eo72⟩ := Kd.R_slice HO166.out; subst eo72; obtain ⟨Ao73, co73, eo73⟩ := Kd.R_slice HO178.out; subst eo73) | (go_at_call 13; (with_reducible refine (pouchref0_EqLines.calls kj1 _ _ t164 _ _ t176 true _ ?side1 ?side2 ?side3 ?side4 A34.out).mono ?_); (case side1 => refine (Kd.R_reads' (e := 46) (base := w.heap.size) (ok := fun k_ => some k_ ≠ (.slice Ao73 t176.length co73 : Value).ownBlock) (n := t164.length) (c := co72) ?_).2.2; exact (by (with_reducible repeat (first | apply ra_ | apply rn_ | apply re_)); exact (Kd.R_mono (Kd.R_far (p := ⟨gb179, 1, none⟩) (Kd.R_far (p := ⟨gb179, 0, none⟩) (Kd.R_types HO166.out BK179.out (by decide)) (fun _ hk => hk.2) (.string t174)) (fun _ hk => hk.2) (.bool t175)) (fun _ h_ => h_.1)))); (case side2 => exact (Kd.R_reads' HO166.out).2.1); (case side3 => refine (Kd.R_reads' (e := 46) (base := w.heap.size) (ok := fun k_ => some k_ ≠ (.slice Ao72 t164.length co72 : Value).ownBlock) (n := t176.length) (c := co73) ?_).2.2; exact (by (with_reducible repeat (first | apply ra_ | apply rn_ | apply re_)); exact (Kd.R_mono (Kd.R_far (p := ⟨gb179, 1, none⟩) (Kd.R_far (p := ⟨gb179, 0, none⟩) (Kd.R_types HO178.out BK179.out (by decide)) (fun _ hk => hk.2) (.string t174)) (fun _ hk => hk.2) (.bool t175)) (fun _ h_ => h_.1)))); (case side4 => exact (Kd.R_reads' HO178.out).2.1); rintro e w' ⟨rfl, ⟨nd, rfl⟩⟩; have p182 : 0 ≤ (x3_1 : Int) := od_ (by first | (with_reducible assumption) | assumption); have q182 : x3_1 < (l0.length : Int) := od_ (by first | (with_reducible assumption) | assumption); obtain ⟨ad182, A182_2, c182_2, e182, hx182_0, hx182_1, hx182_2, hl182_2, hi182_2⟩ := at_T28 HR0.out x3_1 p182 q182; obtain rfl : ad155 = ad182 := (by injection e182); (try obtain ⟨rfl, rfl⟩ : A172_2 = A182_2 ∧ c172_2 = c182_2 := (by have h_ := hw172_2.symm.trans hx182_2; simpa using h_)); have hn182_0 : ad155.block ≠ gb179 := nl_ (ll_ (by have := bl_ _ _ hx182_0; first | rwa [ab_] at this | exact this) GW179.out); have hn182_1 : ad155.block ≠ gb179 := nl_ (ll_ (by have := bl_ _ _ hx182_0; first | rwa [ab_] at this | exact this) GW179.out); replace hx182_0 := (HB.out.cell (bl_ w _ hx182_0)).trans hx182_0; replace hx182_1 := (HB.out.cell (bl_ w _ hx182_1)).trans hx182_1; replace hx182_2 := (HB.out.cell (bl_ w _ hx182_2)).trans hx182_2; have HR182_2 := am_ hi182_2; have HC182_2 := am_ hl182_2; clear hi182_2 hl182_2; replace hx182_0 := (cf_ (p := ⟨gb179, 0, none⟩) (by first | (rw [ab_]; exact hn182_0) | (show (Addr.add _ _).block ≠ _; rw [ab_]; exact hn182_0) | exact hn182_0) (.string t174)).trans hx182_0; replace hx182_1 := (cf_ (p := ⟨gb179, 0, none⟩) (by first | (rw [ab_]; exact hn182_0) | (show (Addr.add _ _).block ≠ _; rw [ab_]; exact hn182_0) | exact hn182_0) (.string t174)).trans hx182_1; replace hx182_2 := (cf_ (p := ⟨gb179, 0, none⟩) (by first | (rw [ab_]; exact hn182_0) | (show (Addr.add _ _).block ≠ _; rw [ab_]; exact hn182_0) | exact hn182_0) (.string t174)).trans hx182_2; replace hx182_0 := (cf_ (p := ⟨gb179, 1, none⟩) (by first | (rw [ab_]; exact hn182_1) | (show (Addr.add _ _).block ≠ _; rw [ab_]; exact hn182_1) | exact hn182_1) (.bool t175)).trans hx182_0; replace hx182_1 := (cf_ (p := ⟨gb179, 1, none⟩) (by first | (rw [ab_]; exact hn182_1) | (show (Addr.add _ _).block ≠ _; rw [ab_]; exact hn182_1) | exact hn182_1) (.bool t175)).trans hx182_1; replace hx182_2 := (cf_ (p := ⟨gb179, 1, none⟩) (by first | (rw [ab_]; exact hn182_1) | (show (Addr.add _ _).block ≠ _; rw [ab_]; exact hn182_1) | exact hn182_1) (.bool t175)).trans hx182_2; clear hn182_0; clear hn182_1; replace p182 := eq_true p182; replace q182 := eq_true q182) | (go_at_call 14; (with_reducible refine (pouchref0_EqBytes.calls kj1 _ _ t158 _ _ ((rd_T28 l0 x3_1).f1) false _ ?side1 ?side2 ?side3 ?side4 A36.out).mono ?_); (case side1 => refine (Kd.R_reads' (e := 5) (base := w.heap.size) (ok := fun k_ => True) (n := t158.length) (c := co58) ?_).2.2; exact (by (with_reducible repeat (first | apply ra_ | apply rn_ | apply re_)); exact (Kd.R_mono (Kd.R_far (p := ⟨gb179, 1, none⟩) (Kd.R_far (p := ⟨gb179, 0, none⟩) (Kd.R_types HO160.out BK179.out (by decide)) (fun _ hk => hk.2) (.string t174)) (fun _ hk => hk.2) (.bool t175)) (fun _ h_ => h_.1)))); (case side2 => exact (Kd.R_reads' HO160.out).2.1); (case side3 => exact cb_ HR182_2.out (by repeat (first | (with_reducible first | exact HB.out | apply ba_ | apply bn_ | apply bd_ | refine bs_ ?_ GE168.out | refine bs_ ?_ GE179.out) | exact HB.out))); (case side4 => exact HC182_2.out); rintro e w' ⟨rfl, ⟨nd, rfl⟩⟩))
              go_ret
              exact ⟨by first | rfl | (simp [errW_none, errW_some] <;> rfl) | (simp [*, errW_none, errW_some] <;> rfl), by repeat (first | (with_reducible first | exact HB.out | apply ba_ | apply bn_ | apply bd_ | refine bs_ ?_ GE168.out | refine bs_ ?_ GE179.out) | exact HB.out)⟩
            ·
             replace c35 := Bool.eq_false_iff.mpr c35
             subst c35
             have H1 : (some false) = some r := by rw [if_neg (show ¬ (false = true) by decide)] at H; exact H
             clear H; have H := H1; clear H1
             obtain rfl := Option.some.inj H
             have p155 : 0 ≤ (x3_1 : Int) := od_ (by first | (with_reducible assumption) | assumption)
             have q155 : x3_1 < (l0.length : Int) := od_ (by first | (with_reducible assumption) | assumption)
             obtain ⟨ad155, A155_2, c155_2, e155, hx155_0, hx155_1, hx155_2, hl155_2, hi155_2⟩ := at_T28 HR0.out x3_1 p155 q155
             cases e155
             replace hx155_0 := (HB.out.cell (bl_ w _ hx155_0)).trans hx155_0
             replace hx155_1 := (HB.out.cell (bl_ w _ hx155_1)).trans hx155_1
             replace hx155_2 := (HB.out.cell (bl_ w _ hx155_2)).trans hx155_2
             have HR155_2 := am_ hi155_2
             have HC155_2 := am_ hl155_2
             clear hi155_2 hl155_2
             replace p155 := eq_true p155
             replace q155 := eq_true q155
             try go_wp2_with (first | ((with_reducible refine gate_callee (f := 7) rfl ?_); refine goesL_ (some 24) rfl rfl Try.func7 (by kernel_rfl) rfl #[.agg #[.string ((rd_T28 l0 x3_1).f0.f0), .bool ((rd_T28 l0 x3_1).f0.f1), .slice A155_2 ((rd_T28 l0 x3_1).f1).length c155_2]] rfl (by (try simp only [m1_, m2_, m3_]); first | done | rfl | (simp only [m4_, m5_]; rfl)) ?_; (with_reducible refine (pouchlaw1_heavy.calls ((rd_T28 l0 x3_1).f0.f0) ((rd_T28 l0 x3_1).f0.f1) _ _ ((rd_T28 l0 x3_1).f1) false _ ?side1 ?side2 A7.out).mono ?_); (case side1 => repeat (first | exact (cb_ HR155_2.out HB.out) | (with_reducible refine ca_ ?_ _) | (with_reducible refine cn_ ?_ _) | (with_reducible refine cd_ ?_))); (case side2 => exact HC155_2.out); rintro e w74 ⟨rfl, hb⟩; refine ⟨_, rfl, ?_⟩; have n0_ := am_ (bt_ (by repeat (first | (with_reducible first | exact HB.out | apply ba_ | apply bn_ | apply bd_) | exact HB.out)) hb); clear HB; have HB := n0_; clear n0_; (try clear hb); (try clear hb2); (try clear hk); (try clear hi); have p157 : 0 ≤ (x3_1 : Int) := od_ (by first | (with_reducible assumption) | assumption); have q157 : x3_1 < (l0.length : Int) := od_ (by first | (with_reducible assumption) | assumption); obtain ⟨ad157, A157_2, c157_2, e157, hx157_0, hx157_1, hx157_2, hl157_2, hi157_2⟩ := at_T28 HR0.out x3_1 p157 q157; obtain rfl : ad155 = ad157 := (by injection e157); replace hx157_0 := (HB.out.cell (bl_ w _ hx157_0)).trans hx157_0; replace hx157_1 := (HB.out.cell (bl_ w _ hx157_1)).trans hx157_1; replace hx157_2 := (HB.out.cell (bl_ w _ hx157_2)).trans hx157_2; have HR157_2 := am_ hi157_2; have HC157_2 := am_ hl157_2; clear hi157_2 hl157_2; replace p157 := eq_true p157; replace q157 := eq_true q157) | ((with_reducible refine gate_callee (f := 8) rfl ?_); refine goesL_ (some 30) rfl rfl Try.func8 (by kernel_rfl) rfl #[.slice A157_2 ((rd_T28 l0 x3_1).f1).length c157_2] rfl (by (try simp only [m1_, m2_, m3_]); first | done | rfl | (simp only [m4_, m5_]; rfl)) ?_; (with_reducible refine (pouchref0_CopyBytes.calls kj1 _ _ ((rd_T28 l0 x3_1).f1) t158 _ ?side1 ?side2 A10.out).mono ?_); (case side1 => repeat (first | exact (cb_ HR157_2.out HB.out) | (with_reducible refine ca_ ?_ _) | (with_reducible refine cn_ ?_ _) | (with_reducible refine cd_ ?_))); (case side2 => exact HC157_2.out); rintro e w75 ⟨v159, rfl, ho0, hb⟩; refine ⟨_, rfl, ?_⟩; have n0_ := am_ (Kd.R_lower ho0 (bz_ (by repeat (first | (with_reducible first | exact HB.out | apply ba_ | apply bn_ | apply bd_) | exact HB.out)))); have n1_ := am_ (bt_ (by repeat (first | (with_reducible first | exact HB.out | apply ba_ | apply bn_ | apply bd_) | exact HB.out)) hb); clear HB; have HO160 := n0_; have HB := n1_; clear n0_ n1_; (try clear hb); (try clear hb2); (try clear hk); (try clear hi); (try clear ho0); have p161 : 0 ≤ (x3_1 : Int) := od_ (by first | (with_reducible assumption) | assumption); have q161 : x3_1 < (l0.length : Int) := od_ (by first | (with_reducible assumption) | assumption); obtain ⟨ad161, A161_2, c161_2, e161, hx161_0, hx161_1, hx161_2, hl161_2, hi161_2⟩ := at_T28 HR0.out x3_1 p161 q161; obtain rfl : ad155 = ad161 := (by injection e161); replace hx161_0 := (HB.out.cell (bl_ w _ hx161_0)).trans hx161_0; replace hx161_1 := (HB.out.cell (bl_ w _ hx161_1)).trans hx161_1; replace hx161_2 := (HB.out.cell (bl_ w _ hx161_2)).trans hx161_2; have HR161_2 := am_ hi161_2; have HC161_2 := am_ hl161_2; clear hi161_2 hl161_2; replace p161 := eq_true p161; replace q161 := eq_true q161; obtain ⟨Ao76, co76, eo76⟩ := Kd.R_slice HO160.out; subst eo76) | ((with_reducible refine gate_callee (f := 9) rfl ?_); refine goesL_ (some 38) rfl rfl Try.func9 (by kernel_rfl) rfl #[.agg #[.string ((rd_T28 l0 x3_1).f0.f0), .bool ((rd_T28 l0 x3_1).f0.f1)], .slice Ao76 t158.length co76] rfl (by (try simp only [m1_, m2_, m3_]); first | done | rfl | (simp only [m4_, m5_]; rfl)) ?_; (with_reducible refine (frame_Feed.calls kj1 ((rd_T28 l0 x3_1).f0.f0) ((rd_T28 l0 x3_1).f0.f1) _ _ t158 t162 t163 t164 t167 _ ?side1 ?side2 ?side3 A11.out).mono ?_); (case side1 => repeat (first | exact (Kd.R_reads' HO160.out).2.2 | (with_reducible refine ca_ ?_ _) | (with_reducible refine cn_ ?_ _) | (with_reducible refine cd_ ?_))); (case side2 => exact (Kd.R_reads' HO160.out).2.1); (case side3 => exact GrOk.below hG (by repeat (first | (with_reducible first | exact HB.out | apply ba_ | apply bn_ | apply bd_) | exact HB.out))); rintro e w77 ⟨v165, rfl, ho0, hb⟩; refine ⟨_, rfl, ?_⟩; have n0_ := am_ (rb_ (by (with_reducible repeat (first | apply ra_ | apply rn_ | apply re_)); exact HO160.out) hb); have n1_ := am_ (Kd.R_lower ho0 (bz_ (by repeat (first | (with_reducible first | exact HB.out | apply ba_ | apply bn_ | apply bd_) | exact HB.out)))); have n2_ := am_ (bt_ (by repeat (first | (with_reducible first | exact HB.out | apply ba_ | apply bn_ | apply bd_) | exact HB.out)) hb); clear HO160; clear HB; have HO160 := n0_; have HO166 := n1_; have HB := n2_; clear n0_ n1_ n2_; (try clear hb); (try clear hb2); (try clear hk); (try clear hi); (try clear ho0)) | ((with_reducible refine gate_dst (N := 5) rfl ?_); (try (refine gate_guard (by rfl) ?_; dsimp only)); refine box_event ?hg (N := 5) ?hd (cs := #[.string (⟨#[]⟩ : ByteArray), .bool false]) (t := 25) ?hr ?_; (case hd => rfl); (case hg => rfl); (case hr => first | (go_simp; done) | (go_simp; rfl)); intro gb168 hg w78 hbox hb; have n0_ := am_ (rb_ (by (with_reducible repeat (first | apply ra_ | apply rn_ | apply re_)); exact HO160.out) hb); have n1_ := am_ (rb_ (by (with_reducible repeat (first | apply ra_ | apply rn_ | apply re_)); exact HO166.out) hb); have n2_ := am_ (bt_ (by repeat (first | (with_reducible first | exact HB.out | apply ba_ | apply bn_ | apply bd_) | exact HB.out)) hb); have n3_ := am_ (hbox); have n4_ := am_ ((by rw [hg]; exact (bz_ (by repeat (first | (with_reducible first | exact HB.out | apply ba_ | apply bn_ | apply bd_) | exact HB.out))) : w.heap.size ≤ gb168)); have n5_ := am_ ((by rw [hg]; exact (bz_ (by repeat (first | (with_reducible first | exact HB.out | apply ba_ | apply bn_ | apply bd_) | exact HB.out))) : w.heap.size ≤ gb168)); clear HO160; clear HO166; clear HB; have HO160 := n0_; have HO166 := n1_; have HB := n2_; have BK168 := n3_; have GW168 := n4_; have GE168 := n5_; clear n0_ n1_ n2_ n3_ n4_ n5_; clear hb hbox hg; have hcz79_0 : w78.cell? ⟨gb168, 0, none⟩ = some (.string (⟨#[]⟩ : ByteArray)) := (blk_cell BK168.out 0).trans rfl; have hcz79_1 : w78.cell? ⟨gb168, 1, none⟩ = some (.bool false) := (blk_cell BK168.out 1).trans rfl; have hfz79_0 := blk_frozen BK168.out 0; have hfz79_1 := blk_frozen BK168.out 1; have p169 : 0 ≤ (x3_1 : Int) := od_ (by first | (with_reducible assumption) | assumption); have q169 : x3_1 < (l0.length : Int) := od_ (by first | (with_reducible assumption) | assumption); obtain ⟨ad169, A169_2, c169_2, e169, hx169_0, hx169_1, hx169_2, hl169_2, hi169_2⟩ := at_T28 HR0.out x3_1 p169 q169; obtain rfl : ad155 = ad169 := (by injection e169); have hn169_0 : ad155.block ≠ gb168 := nl_ (ll_ (by have := bl_ _ _ hx169_0; first | rwa [ab_] at this | exact this) GW168.out); have hn169_1 : ad155.block ≠ gb168 := nl_ (ll_ (by have := bl_ _ _ hx169_0; first | rwa [ab_] at this | exact this) GW168.out); replace hx169_0 := (HB.out.cell (bl_ w _ hx169_0)).trans hx169_0; replace hx169_1 := (HB.out.cell (bl_ w _ hx169_1)).trans hx169_1; replace hx169_2 := (HB.out.cell (bl_ w _ hx169_2)).trans hx169_2; have HR169_2 := am_ hi169_2; have HC169_2 := am_ hl169_2; clear hi169_2 hl169_2; replace hx169_0 := (cf_ (p := ⟨gb168, 0, none⟩) (by first | (rw [ab_]; exact hn169_0) | (show (Addr.add _ _).block ≠ _; rw [ab_]; exact hn169_0) | exact hn169_0) (.string t162)).trans hx169_0; replace hx169_1 := (cf_ (p := ⟨gb168, 0, none⟩) (by first | (rw [ab_]; exact hn169_0) | (show (Addr.add _ _).block ≠ _; rw [ab_]; exact hn169_0) | exact hn169_0) (.string t162)).trans hx169_1; replace hx169_2 := (cf_ (p := ⟨gb168, 0, none⟩) (by first | (rw [ab_]; exact hn169_0) | (show (Addr.add _ _).block ≠ _; rw [ab_]; exact hn169_0) | exact hn169_0) (.string t162)).trans hx169_2; replace hx169_0 := (cf_ (p := ⟨gb168, 1, none⟩) (by first | (rw [ab_]; exact hn169_1) | (show (Addr.add _ _).block ≠ _; rw [ab_]; exact hn169_1) | exact hn169_1) (.bool t163)).trans hx169_0; replace hx169_1 := (cf_ (p := ⟨gb168, 1, none⟩) (by first | (rw [ab_]; exact hn169_1) | (show (Addr.add _ _).block ≠ _; rw [ab_]; exact hn169_1) | exact hn169_1) (.bool t163)).trans hx169_1; replace hx169_2 := (cf_ (p := ⟨gb168, 1, none⟩) (by first | (rw [ab_]; exact hn169_1) | (show (Addr.add _ _).block ≠ _; rw [ab_]; exact hn169_1) | exact hn169_1) (.bool t163)).trans hx169_2; clear hn169_0; clear hn169_1; replace p169 := eq_true p169; replace q169 := eq_true q169) | ((with_reducible refine gate_callee (f := 10) rfl ?_); refine goesL_ (some 47) rfl rfl Try.func10 (by kernel_rfl) rfl #[.agg #[.string ((rd_T28 l0 x3_1).f0.f0), .bool ((rd_T28 l0 x3_1).f0.f1)]] rfl (by (try simp only [m1_, m2_, m3_]); first | done | rfl | (simp only [m4_, m5_]; rfl)) ?_; (with_reducible refine (pouchref1_Framer.calls kj1 ((rd_T28 l0 x3_1).f0.f0) ((rd_T28 l0 x3_1).f0.f1) true _ A12.out).mono ?_); rintro e w80 ⟨rfl, hb⟩; refine ⟨_, rfl, ?_⟩; have n0_ := am_ (rb_ (by (with_reducible repeat (first | apply ra_ | apply rn_ | apply re_)); exact (Kd.R_mono (Kd.R_far (p := ⟨gb168, 1, none⟩) (Kd.R_far (p := ⟨gb168, 0, none⟩) (Kd.R_types HO160.out BK168.out (by decide)) (fun _ hk => hk.2) (.string t162)) (fun _ hk => hk.2) (.bool t163)) (fun _ h_ => h_.1))) hb); have n1_ := am_ (rb_ (by (with_reducible repeat (first | apply ra_ | apply rn_ | apply re_)); exact (Kd.R_mono (Kd.R_far (p := ⟨gb168, 1, none⟩) (Kd.R_far (p := ⟨gb168, 0, none⟩) (Kd.R_types HO166.out BK168.out (by decide)) (fun _ hk => hk.2) (.string t162)) (fun _ hk => hk.2) (.bool t163)) (fun _ h_ => h_.1))) hb); have n2_ := am_ (bb_ (g := gb168) (o := .cells #[.string t162, .bool t163] 25 (0, 0)) (by (with_reducible repeat (first | refine kn_ ?_ _ | refine kd_ ?_ | refine ka_ ?_ _)); refine blk_put (cs := #[.string t162, .bool false]) ?_ 1 _ rfl; (with_reducible repeat (first | refine kn_ ?_ _ | refine kd_ ?_ | refine ka_ ?_ _)); refine blk_put (cs := #[.string (⟨#[]⟩ : ByteArray), .bool false]) ?_ 0 _ rfl; (with_reducible repeat (first | refine kn_ ?_ _ | refine kd_ ?_ | refine ka_ ?_ _)); exact BK168.out) hb); have n3_ := am_ (bt_ (by repeat (first | (with_reducible first | exact HB.out | apply ba_ | apply bn_ | apply bd_ | refine bs_ ?_ GE168.out) | exact HB.out)) hb); clear HO160; clear HO166; clear BK168; clear HB; have HO160 := n0_; have HO166 := n1_; have BK168 := n2_; have HB := n3_; clear n0_ n1_ n2_ n3_; (try clear hb); (try clear hb2); (try clear hk); (try clear hi)))
             have n0_ := am_ (re_ HO160.out)
             have n1_ := am_ (re_ HO166.out)
             have n2_ := am_ (kd_ BK168.out)
             have n3_ := am_ (bd_ HB.out)
             clear HO160; clear HO166; clear BK168; clear HB; have HO160 := n0_; have HO166 := n1_; have BK168 := n2_; have HB := n3_; clear n0_ n1_ n2_ n3_
             have p172 : 0 ≤ (x3_1 : Int) := od_ (by first | (with_reducible assumption) | assumption)
             have q172 : x3_1 < (l0.length : Int) := od_ (by first | (with_reducible assumption) | assumption)
             obtain ⟨ad172, A172_2, c172_2, e172, hx172_0, hx172_1, hx172_2, hl172_2, hi172_2⟩ := at_T28 HR0.out x3_1 p172 q172
             have hw172_2 := hx172_2; have hw172_1 := hx172_1; have hw172_0 := hx172_0
             obtain rfl : ad155 = ad172 := (by injection e172)
             replace hx172_0 := (HB.out.cell (bl_ w _ hx172_0)).trans hx172_0
             replace hx172_1 := (HB.out.cell (bl_ w _ hx172_1)).trans hx172_1
             replace hx172_2 := (HB.out.cell (bl_ w _ hx172_2)).trans hx172_2
             have HR172_2 := am_ hi172_2
             have HC172_2 := am_ hl172_2
             clear hi172_2 hl172_2
             replace p172 := eq_true p172
             replace q172 := eq_true q172
             have p173 : 0 ≤ (x3_1 : Int) := od_ (by first | (with_reducible assumption) | assumption)
             have q173 : x3_1 < (l0.length : Int) := od_ (by first | (with_reducible assumption) | assumption)
             obtain ⟨ad173, A173_2, c173_2, e173, hx173_0, hx173_1, hx173_2, hl173_2, hi173_2⟩ := at_T28 HR0.out x3_1 p173 q173
             have hw173_2 := hx173_2; have hw173_1 := hx173_1; have hw173_0 := hx173_0
             obtain rfl : ad155 = ad173 := (by injection e173)
             replace hx173_0 := (HB.out.cell (bl_ w _ hx173_0)).trans hx173_0
             replace hx173_1 := (HB.out.cell (bl_ w _ hx173_1)).trans hx173_1
             replace hx173_2 := (HB.out.cell (bl_ w _ hx173_2)).trans hx173_2
             have HR173_2 := am_ hi173_2
             have HC173_2 := am_ hl173_2
             clear hi173_2 hl173_2
             replace p173 := eq_true p173
             replace q173 := eq_true q173
             have ea_ := Option.some.inj (hx172_2.symm.trans hx173_2)
             injection ea_ with ea_ en_ ec_
             subst ea_
             subst ec_
             clear en_
             refine start_ (n := 17) (S := fun w' => w'.cell? (ad155.add ((x3_1).toNat * 3)) = some (.string ((rd_T28 l0 x3_1).f0.f0)) ∧ w'.cell? ⟨(ad155.add ((x3_1).toNat * 3)).block, (ad155.add ((x3_1).toNat * 3)).off + 1, none⟩ = some (.bool ((rd_T28 l0 x3_1).f0.f1)) ∧ w'.cell? ⟨(ad155.add ((x3_1).toNat * 3)).block, (ad155.add ((x3_1).toNat * 3)).off + 2, none⟩ = some (.slice A172_2 ((rd_T28 l0 x3_1).f1).length c172_2) ∧ w'.cell? (ad155.add ((x3_1).toNat * 3)) = some (.string ((rd_T28 l0 x3_1).f0.f0)) ∧ w'.cell? ⟨(ad155.add ((x3_1).toNat * 3)).block, (ad155.add ((x3_1).toNat * 3)).off + 1, none⟩ = some (.bool ((rd_T28 l0 x3_1).f0.f1)) ∧ w'.cell? ⟨(ad155.add ((x3_1).toNat * 3)).block, (ad155.add ((x3_1).toNat * 3)).off + 2, none⟩ = some (.slice A172_2 ((rd_T28 l0 x3_1).f1).length c172_2)) (ds := []) #[false, false, false, false, false, false, false, false, false, false, false, false, false, false, false, false, false] (by kernel_rfl) rfl rfl ⟨((HB.out.cell (bl_ w _ hw172_0)).trans hw172_0), ((HB.out.cell (bl_ w _ hw172_1)).trans hw172_1), ((HB.out.cell (bl_ w _ hw172_2)).trans hw172_2), ((HB.out.cell (bl_ w _ hw173_0)).trans hw173_0), ((HB.out.cell (bl_ w _ hw173_1)).trans hw173_1), ((HB.out.cell (bl_ w _ hw173_2)).trans hw173_2)⟩ (fun hHeld => ?_); refine with_tabW pouchlaw1_FrameFeeds.tab11 pouchlaw1_FrameFeeds.bits11 (fun HT_ HW_ => ?_)
             generalize w80.drew = w81 at HO160 HO166 BK168 HB HR172_2 HR173_2 hx172_0 hx172_1 hx172_2 hx173_0 hx173_1 hx173_2 hHeld ⊢
             refine pure_ (i := 0) (N := some 58) (v := ?_) (a' := ?_) #[true, false, false, false, false, false, false, false, false, false, false, false, false, false, false, false, false] rfl rfl (any_of HT_.out (by kernel_rfl)) (fun _ _ _ h => h) (Or.inl ⟨by rfl, ?_⟩) ?_ ?_
             rotate_left
             · intro w'; go_simp; with_reducible rfl
             rotate_left
             ·
              simp only [Act.put, s1_, s2_, s3_, i64_w, i32_w]
              rfl
             refine pure_ (i := 1) (N := some 59) (v := ?_) (a' := ?_) #[true, true, false, false, false, false, false, false, false, false, false, false, false, false, false, false, false] rfl rfl (any_of HT_.out (by kernel_rfl)) (fun _ _ _ h => h) (Or.inl ⟨by rfl, ?_⟩) ?_ ?_
             rotate_left
             · intro w'; go_simp; with_reducible rfl
             rotate_left
             ·
              simp only [Act.put, s1_, s2_, s3_, i64_w, i32_w]
              rfl
             refine pure_ (i := 2) (N := some 60) (v := ?_) (a' := ?_) #[true, true, true, false, false, false, false, false, false, false, false, false, false, false, false, false, false] rfl rfl (any_of HT_.out (by kernel_rfl)) (fun _ _ _ h => h) (Or.inl ⟨by rfl, ?_⟩) ?_ ?_
             rotate_left
             · intro w'; go_simp; with_reducible rfl
             rotate_left
             ·
              simp only [Act.put, s1_, s2_, s3_, i64_w, i32_w]
              rfl
             refine pure_ (i := 3) (N := some 61) (v := ?_) (a' := ?_) #[true, true, true, true, false, false, false, false, false, false, false, false, false, false, false, false, false] rfl rfl (any_of HT_.out (by kernel_rfl)) (fun _ _ _ h => h) (Or.inl ⟨by rfl, ?_⟩) ?_ ?_
             rotate_left
             · intro w'; go_simp; with_reducible rfl
             rotate_left
             ·
              simp only [Act.put, s1_, s2_, s3_, i64_w, i32_w]
              rfl
             refine pure_ (i := 5) (N := some 63) (v := ?_) (a' := ?_) #[true, true, true, true, false, true, false, false, false, false, false, false, false, false, false, false, false] rfl rfl (any_of HT_.out (by kernel_rfl)) (fun _ _ _ h => h) (Or.inl ⟨by rfl, ?_⟩) ?_ ?_
             rotate_left
             · intro w'; go_simp; with_reducible rfl
             rotate_left
             ·
              simp only [Act.put, s1_, s2_, s3_, i64_w, i32_w]
              rfl
             refine pure_ (i := 6) (N := some 64) (v := ?_) (a' := ?_) #[true, true, true, true, false, true, true, false, false, false, false, false, false, false, false, false, false] rfl rfl (any_of HT_.out (by kernel_rfl)) (fun _ _ _ h => h) (Or.inl ⟨by rfl, ?_⟩) ?_ ?_
             rotate_left
             · intro w'; go_simp; with_reducible rfl
             rotate_left
             ·
              simp only [Act.put, s1_, s2_, s3_, i64_w, i32_w]
              rfl
             refine pure_ (i := 7) (N := some 65) (v := ?_) (a' := ?_) #[true, true, true, true, false, true, true, true, false, false, false, false, false, false, false, false, false] rfl rfl (any_of HT_.out (by kernel_rfl)) (fun _ _ _ h => h) (Or.inl ⟨by rfl, ?_⟩) ?_ ?_
             rotate_left
             · intro w'; go_simp; with_reducible rfl
             rotate_left
             ·
              simp only [Act.put, s1_, s2_, s3_, i64_w, i32_w]
              rfl
             refine pure_ (i := 8) (N := some 66) (v := ?_) (a' := ?_) #[true, true, true, true, false, true, true, true, true, false, false, false, false, false, false, false, false] rfl rfl (any_of HT_.out (by kernel_rfl)) (fun _ _ _ h => h) (Or.inl ⟨by rfl, ?_⟩) ?_ ?_
             rotate_left
             · intro w'; go_simp; with_reducible rfl
             rotate_left
             ·
              simp only [Act.put, s1_, s2_, s3_, i64_w, i32_w]
              rfl
             refine take_ (i := 4) (N := some 62) (v := ?_) (a' := ?_) #[true, true, true, true, true, true, true, true, true, false, false, false, false, false, false, false, false] rfl rfl (take_ofW HT_.out HW_.out (by kernel_rfl)) (fun _ _ _ h => h) (Or.inl ⟨by rfl, ?_⟩) hHeld ?_ ?_
             rotate_left
             ·
              rintro w' ⟨s0, s1, s2, s3, s4, s5⟩
              go_simp; with_reducible rfl
             rotate_left
             ·
              simp only [Act.put, s1_, s2_, s3_, i64_w, i32_w]
              rfl
             refine take_ (i := 9) (N := some 67) (v := ?_) (a' := ?_) #[true, true, true, true, true, true, true, true, true, true, false, false, false, false, false, false, false] rfl rfl (take_ofW HT_.out HW_.out (by kernel_rfl)) (fun _ _ _ h => h) (Or.inl ⟨by rfl, ?_⟩) hHeld ?_ ?_
             rotate_left
             ·
              rintro w' ⟨s0, s1, s2, s3, s4, s5⟩
              go_simp; with_reducible rfl
             rotate_left
             ·
              simp only [Act.put, s1_, s2_, s3_, i64_w, i32_w]
              rfl
             refine join_ (σ := Value × Nat) 2 #[true, true, true, true, true, true, true, true, true, true, true, true, true, true, true, false, false] (fun s_ => [(68, .tuple #[.agg #[.string t174, .bool t175], s_.1]), (8, .pointer (some ⟨s_.2, 0, none⟩)), (57, .tuple #[.agg #[.string t174, .bool t175], s_.1]), (69, .agg #[.string t174, .bool t175]), (70, s_.1)]) (fun s_ w' => (w'.cell? (ad155.add ((x3_1).toNat * 3)) = some (.string ((rd_T28 l0 x3_1).f0.f0)) ∧ w'.cell? ⟨(ad155.add ((x3_1).toNat * 3)).block, (ad155.add ((x3_1).toNat * 3)).off + 1, none⟩ = some (.bool ((rd_T28 l0 x3_1).f0.f1)) ∧ w'.cell? ⟨(ad155.add ((x3_1).toNat * 3)).block, (ad155.add ((x3_1).toNat * 3)).off + 2, none⟩ = some (.slice A172_2 ((rd_T28 l0 x3_1).f1).length c172_2) ∧ w'.cell? (ad155.add ((x3_1).toNat * 3)) = some (.string ((rd_T28 l0 x3_1).f0.f0)) ∧ w'.cell? ⟨(ad155.add ((x3_1).toNat * 3)).block, (ad155.add ((x3_1).toNat * 3)).off + 1, none⟩ = some (.bool ((rd_T28 l0 x3_1).f0.f1)) ∧ w'.cell? ⟨(ad155.add ((x3_1).toNat * 3)).block, (ad155.add ((x3_1).toNat * 3)).off + 2, none⟩ = some (.slice A172_2 ((rd_T28 l0 x3_1).f1).length c172_2)) ∧ (Kd.R (Kd.int .u8) 5 w' w.heap.size (fun _ => True) (.slice Ao76 t158.length co76) t158) ∧ (Kd.R k46 46 w' w.heap.size (fun k_ => some k_ ≠ (s_.1 : Value).ownBlock) v165 t164) ∧ (Kd.R k46 46 w' w.heap.size (fun k_ => some k_ ≠ (v165 : Value).ownBlock) s_.1 t176) ∧ (w'.heap[gb168]? = some (.cells #[.string t162, .bool t163] 25 (0, 0))) ∧ (w'.heap[s_.2]? = some (.cells #[.string (⟨#[]⟩ : ByteArray), .bool false] 25 (0, 0))) ∧ (w.heap.size ≤ s_.2) ∧ (w.heap.size ≤ s_.2) ∧ (gb168 ≠ s_.2) ∧ (s_.2 ≠ gb168) ∧ (Below w.heap.size w w')) ?_ ?_
             rotate_left
             ·
              intro hCont
              refine two_ (i := 10) (j := 14) (Ni := some 68) (Nj := some 8) #[true, true, true, true, true, true, true, true, true, true, true, false, false, false, false, false, false] #[true, true, true, true, true, true, true, true, true, true, false, false, false, false, true, false, false] rfl rfl rfl rfl (two_of HT_.out (by kernel_rfl)) (by decide) (by decide) (fun K hK => ?_) (fun K hK => ?_)
              ·
               skip
               refine goes_ Try.func12 (by kernel_rfl) rfl #[.agg #[.string ((rd_T28 l0 x3_1).f0.f0), .bool ((rd_T28 l0 x3_1).f0.f1)], .slice A172_2 ((rd_T28 l0 x3_1).f1).length c172_2] (by rfl) rfl rfl (by (try simp only [m1_, m2_, m3_]); first | done | rfl | (simp only [m4_, m5_]; rfl)) ?_
               with_reducible refine (pouchref1_Feed.calls kj1 ((rd_T28 l0 x3_1).f0.f0) ((rd_T28 l0 x3_1).f0.f1) _ _ ((rd_T28 l0 x3_1).f1) t174 t175 t176 _ ?side1 ?side2 A14.out).mono ?_
               (case side1 => repeat (first | exact (cb_ HR173_2.out HB.out) | (with_reducible refine ca_ ?_ _) | (with_reducible refine cn_ ?_ _) | (with_reducible refine cd_ ?_)))
               (case side2 => exact HC173_2.out)
               rintro e w82 ⟨v177, rfl, ho0, hb⟩
               refine ⟨_, rfl, ?_⟩
               have n0_ := am_ (rb_ (by (with_reducible repeat (first | apply ra_ | apply rn_ | apply re_)); exact HO160.out) hb)
               have n1_ := am_ (Kd.R_elder' (by (with_reducible repeat (first | apply ra_ | apply rn_ | apply re_)); exact HO166.out) (Kd.R_base ho0) hb)
               have n2_ := am_ (Kd.R_lower (Kd.R_new' ho0 (Kd.R_lt (by (with_reducible repeat (first | apply ra_ | apply rn_ | apply re_)); exact HO166.out))) (bz_ (by repeat (first | (with_reducible first | exact HB.out | apply ba_ | apply bn_ | apply bd_ | refine bs_ ?_ GE168.out) | exact HB.out))))
               have n3_ := am_ (bb_ (g := gb168) (o := .cells #[.string t162, .bool t163] 25 (0, 0)) (by (with_reducible repeat (first | refine kn_ ?_ _ | refine kd_ ?_ | refine ka_ ?_ _)); exact BK168.out) hb)
               have n4_ := am_ (bt_ (by repeat (first | (with_reducible first | exact HB.out | apply ba_ | apply bn_ | apply bd_ | refine bs_ ?_ GE168.out) | exact HB.out)) hb)
               clear HO160; clear HO166; clear BK168; clear HB; have HO160 := n0_; have HO166 := n1_; have HO178 := n2_; have BK168 := n3_; have HB := n4_; clear n0_ n1_ n2_ n3_ n4_
               (try clear hb)
               (try clear hb2)
               (try clear hk)
               (try clear hi)
               (try clear ho0)
               refine hK.out _ _ ⟨((HB.out.cell (bl_ w _ hw172_0)).trans hw172_0), ((HB.out.cell (bl_ w _ hw172_1)).trans hw172_1), ((HB.out.cell (bl_ w _ hw172_2)).trans hw172_2), ((HB.out.cell (bl_ w _ hw173_0)).trans hw173_0), ((HB.out.cell (bl_ w _ hw173_1)).trans hw173_1), ((HB.out.cell (bl_ w _ hw173_2)).trans hw173_2)⟩ (fun hHeld => ?_)
               clear hK K
               refine norm_ (a' := ?_) ?_ ?_
               rotate_left
               ·
                show Act.put _ (some 68) _ = _
                simp only [Act.put, s1_, s2_, s3_, i64_w, i32_w]
                rfl
               refine pure_ (i := 11) (N := some 57) (v := ?_) (a' := ?_) #[true, true, true, true, true, true, true, true, true, true, true, true, false, false, false, false, false] rfl rfl (any_of HT_.out (by kernel_rfl)) (fun _ _ _ h => h) (Or.inl ⟨by rfl, ?_⟩) ?_ ?_
               rotate_left
               · intro w'; go_simp; with_reducible rfl
               rotate_left
               ·
                simp only [Act.put, s1_, s2_, s3_, i64_w, i32_w]
                rfl
               refine pure_ (i := 12) (N := some 69) (v := ?_) (a' := ?_) #[true, true, true, true, true, true, true, true, true, true, true, true, true, false, false, false, false] rfl rfl (any_of HT_.out (by kernel_rfl)) (fun _ _ _ h => h) (Or.inl ⟨by rfl, ?_⟩) ?_ ?_
               rotate_left
               · intro w'; go_simp; with_reducible rfl
               rotate_left
               ·
                simp only [Act.put, s1_, s2_, s3_, i64_w, i32_w]
                rfl
               refine pure_ (i := 13) (N := some 70) (v := ?_) (a' := ?_) #[true, true, true, true, true, true, true, true, true, true, true, true, true, true, false, false, false] rfl rfl (any_of HT_.out (by kernel_rfl)) (fun _ _ _ h => h) (Or.inl ⟨by rfl, ?_⟩) ?_ ?_
               rotate_left
               · intro w'; go_simp; with_reducible rfl
               rotate_left
               ·
                simp only [Act.put, s1_, s2_, s3_, i64_w, i32_w]
                rfl
               refine one_ (i := 14) (N := some 8) #[true, true, true, true, true, true, true, true, true, true, true, true, true, true, true, false, false] rfl rfl (one_of HT_.out (by kernel_rfl)) (by decide) (fun K hK => ?_)
               refine box_step ?hg (N := 8) ?hd (cs := #[.string (⟨#[]⟩ : ByteArray), .bool false]) (t := 25) ?hr ?_; (case hd => rfl); (case hg => rfl); (case hr => first | (go_simp; done) | (go_simp; rfl))
               intro gb179 hg w83 hbox hb
               have n0_ := am_ (rb_ (by (with_reducible repeat (first | apply ra_ | apply rn_ | apply re_)); exact HO160.out) hb)
               have n1_ := am_ (rb_ (by (with_reducible repeat (first | apply ra_ | apply rn_ | apply re_)); exact HO166.out) hb)
               have n2_ := am_ (rb_ (by (with_reducible repeat (first | apply ra_ | apply rn_ | apply re_)); exact HO178.out) hb)
               have n3_ := am_ (bb_ (g := gb168) (o := .cells #[.string t162, .bool t163] 25 (0, 0)) (by (with_reducible repeat (first | refine kn_ ?_ _ | refine kd_ ?_ | refine ka_ ?_ _)); exact BK168.out) hb)
               have n4_ := am_ (bt_ (by repeat (first | (with_reducible first | exact HB.out | apply ba_ | apply bn_ | apply bd_ | refine bs_ ?_ GE168.out) | exact HB.out)) hb)
               have n5_ := am_ (hbox)
               have n6_ := am_ ((by rw [hg]; exact (bz_ (by repeat (first | (with_reducible first | exact HB.out | apply ba_ | apply bn_ | apply bd_ | refine bs_ ?_ GE168.out) | exact HB.out))) : w.heap.size ≤ gb179))
               have n7_ := am_ ((by rw [hg]; exact (bz_ (by repeat (first | (with_reducible first | exact HB.out | apply ba_ | apply bn_ | apply bd_ | refine bs_ ?_ GE168.out) | exact HB.out))) : w.heap.size ≤ gb179))
               have n8_ := am_ ((by rw [hg]; exact nl_ (blk_lt (g := gb168) (o := .cells #[.string t162, .bool t163] 25 (0, 0)) (by (with_reducible repeat (first | refine kn_ ?_ _ | refine kd_ ?_ | refine ka_ ?_ _)); exact BK168.out)) : gb168 ≠ gb179))
               have n9_ := am_ ((by rw [hg]; exact Nat.ne_of_gt (blk_lt (g := gb168) (o := .cells #[.string t162, .bool t163] 25 (0, 0)) (by (with_reducible repeat (first | refine kn_ ?_ _ | refine kd_ ?_ | refine ka_ ?_ _)); exact BK168.out)) : gb179 ≠ gb168))
               clear HO160; clear HO166; clear HO178; clear BK168; clear HB; have HO160 := n0_; have HO166 := n1_; have HO178 := n2_; have BK168 := n3_; have HB := n4_; have BK179 := n5_; have GW179 := n6_; have GE179 := n7_; have NB168_179 := n8_; have NB179_168 := n9_; clear n0_ n1_ n2_ n3_ n4_ n5_ n6_ n7_ n8_ n9_; clear hb hbox hg
               refine hK.out _ _ ⟨((HB.out.cell (bl_ w _ hw172_0)).trans hw172_0), ((HB.out.cell (bl_ w _ hw172_1)).trans hw172_1), ((HB.out.cell (bl_ w _ hw172_2)).trans hw172_2), ((HB.out.cell (bl_ w _ hw173_0)).trans hw173_0), ((HB.out.cell (bl_ w _ hw173_1)).trans hw173_1), ((HB.out.cell (bl_ w _ hw173_2)).trans hw173_2)⟩ (fun hHeld => ?_)
               clear hK K
               refine norm_ (a' := ?_) ?_ ?_
               rotate_left
               ·
                show Act.put _ (some 8) _ = _
                simp only [Act.put, s1_, s2_, s3_, i64_w, i32_w]
                rfl
               exact norm_ (by simp only [putAll, Act.put, s1_, s2_, s3_]) (hCont (v177, gb179) _ ⟨hHeld, (by (with_reducible repeat (first | apply ra_ | apply rn_ | apply re_)); exact HO160.out), (by (with_reducible repeat (first | apply ra_ | apply rn_ | apply re_)); exact Kd.R_mono HO166.out (fun _ hk => hk.2)), (by (with_reducible repeat (first | apply ra_ | apply rn_ | apply re_)); exact Kd.R_mono HO178.out (fun _ hk => hk.2)), (by (with_reducible repeat (first | refine kn_ ?_ _ | refine kd_ ?_ | refine ka_ ?_ _)); exact BK168.out), (by (with_reducible repeat (first | refine kn_ ?_ _ | refine kd_ ?_ | refine ka_ ?_ _)); exact BK179.out), GW179.out, GE179.out, NB168_179.out, NB179_168.out, (by repeat (first | (with_reducible first | exact HB.out | apply ba_ | apply bn_ | apply bd_ | refine bs_ ?_ GE168.out | refine bs_ ?_ GE179.out) | exact HB.out))⟩)
              ·
               skip
               refine box_step ?hg (N := 8) ?hd (cs := #[.string (⟨#[]⟩ : ByteArray), .bool false]) (t := 25) ?hr ?_; (case hd => rfl); (case hg => rfl); (case hr => first | (go_simp; done) | (go_simp; rfl))
               intro gb179 hg w82 hbox hb
               have n0_ := am_ (rb_ (by (with_reducible repeat (first | apply ra_ | apply rn_ | apply re_)); exact HO160.out) hb)
               have n1_ := am_ (rb_ (by (with_reducible repeat (first | apply ra_ | apply rn_ | apply re_)); exact HO166.out) hb)
               have n2_ := am_ (bb_ (g := gb168) (o := .cells #[.string t162, .bool t163] 25 (0, 0)) (by (with_reducible repeat (first | refine kn_ ?_ _ | refine kd_ ?_ | refine ka_ ?_ _)); exact BK168.out) hb)
               have n3_ := am_ (bt_ (by repeat (first | (with_reducible first | exact HB.out | apply ba_ | apply bn_ | apply bd_ | refine bs_ ?_ GE168.out) | exact HB.out)) hb)
               have n4_ := am_ (hbox)
               have n5_ := am_ ((by rw [hg]; exact (bz_ (by repeat (first | (with_reducible first | exact HB.out | apply ba_ | apply bn_ | apply bd_ | refine bs_ ?_ GE168.out) | exact HB.out))) : w.heap.size ≤ gb179))
               have n6_ := am_ ((by rw [hg]; exact (bz_ (by repeat (first | (with_reducible first | exact HB.out | apply ba_ | apply bn_ | apply bd_ | refine bs_ ?_ GE168.out) | exact HB.out))) : w.heap.size ≤ gb179))
               have n7_ := am_ ((by rw [hg]; exact nl_ (blk_lt (g := gb168) (o := .cells #[.string t162, .bool t163] 25 (0, 0)) (by (with_reducible repeat (first | refine kn_ ?_ _ | refine kd_ ?_ | refine ka_ ?_ _)); exact BK168.out)) : gb168 ≠ gb179))
               have n8_ := am_ ((by rw [hg]; exact Nat.ne_of_gt (blk_lt (g := gb168) (o := .cells #[.string t162, .bool t163] 25 (0, 0)) (by (with_reducible repeat (first | refine kn_ ?_ _ | refine kd_ ?_ | refine ka_ ?_ _)); exact BK168.out)) : gb179 ≠ gb168))
               clear HO160; clear HO166; clear BK168; clear HB; have HO160 := n0_; have HO166 := n1_; have BK168 := n2_; have HB := n3_; have BK179 := n4_; have GW179 := n5_; have GE179 := n6_; have NB168_179 := n7_; have NB179_168 := n8_; clear n0_ n1_ n2_ n3_ n4_ n5_ n6_ n7_ n8_; clear hb hbox hg
               refine hK.out _ _ ⟨((HB.out.cell (bl_ w _ hw172_0)).trans hw172_0), ((HB.out.cell (bl_ w _ hw172_1)).trans hw172_1), ((HB.out.cell (bl_ w _ hw172_2)).trans hw172_2), ((HB.out.cell (bl_ w _ hw173_0)).trans hw173_0), ((HB.out.cell (bl_ w _ hw173_1)).trans hw173_1), ((HB.out.cell (bl_ w _ hw173_2)).trans hw173_2)⟩ (fun hHeld => ?_)
               clear hK K
               refine norm_ (a' := ?_) ?_ ?_
               rotate_left
               ·
                show Act.put _ (some 8) _ = _
                simp only [Act.put, s1_, s2_, s3_, i64_w, i32_w]
                rfl
               refine one_ (i := 10) (N := some 68) #[true, true, true, true, true, true, true, true, true, true, true, false, false, false, true, false, false] rfl rfl (one_of HT_.out (by kernel_rfl)) (by decide) (fun K hK => ?_)
               refine goes_ Try.func12 (by kernel_rfl) rfl #[.agg #[.string ((rd_T28 l0 x3_1).f0.f0), .bool ((rd_T28 l0 x3_1).f0.f1)], .slice A172_2 ((rd_T28 l0 x3_1).f1).length c172_2] (by rfl) rfl rfl (by (try simp only [m1_, m2_, m3_]); first | done | rfl | (simp only [m4_, m5_]; rfl)) ?_
               with_reducible refine (pouchref1_Feed.calls kj1 ((rd_T28 l0 x3_1).f0.f0) ((rd_T28 l0 x3_1).f0.f1) _ _ ((rd_T28 l0 x3_1).f1) t174 t175 t176 _ ?side1 ?side2 A14.out).mono ?_
               (case side1 => repeat (first | exact (cb_ HR173_2.out HB.out) | (with_reducible refine ca_ ?_ _) | (with_reducible refine cn_ ?_ _) | (with_reducible refine cd_ ?_)))
               (case side2 => exact HC173_2.out)
               rintro e w83 ⟨v177, rfl, ho0, hb⟩
               refine ⟨_, rfl, ?_⟩
               have n0_ := am_ (rb_ (by (with_reducible repeat (first | apply ra_ | apply rn_ | apply re_)); exact HO160.out) hb)
               have n1_ := am_ (Kd.R_elder' (by (with_reducible repeat (first | apply ra_ | apply rn_ | apply re_)); exact HO166.out) (Kd.R_base ho0) hb)
               have n2_ := am_ (Kd.R_lower (Kd.R_new' ho0 (Kd.R_lt (by (with_reducible repeat (first | apply ra_ | apply rn_ | apply re_)); exact HO166.out))) (bz_ (by repeat (first | (with_reducible first | exact HB.out | apply ba_ | apply bn_ | apply bd_ | refine bs_ ?_ GE168.out | refine bs_ ?_ GE179.out) | exact HB.out))))
               have n3_ := am_ (bb_ (g := gb168) (o := .cells #[.string t162, .bool t163] 25 (0, 0)) (by (with_reducible repeat (first | refine kn_ ?_ _ | refine kd_ ?_ | refine ka_ ?_ _)); exact BK168.out) hb)
               have n4_ := am_ (bb_ (g := gb179) (o := .cells #[.string (⟨#[]⟩ : ByteArray), .bool false] 25 (0, 0)) (by (with_reducible repeat (first | refine kn_ ?_ _ | refine kd_ ?_ | refine ka_ ?_ _)); exact BK179.out) hb)
               have n5_ := am_ (bt_ (by repeat (first | (with_reducible first | exact HB.out | apply ba_ | apply bn_ | apply bd_ | refine bs_ ?_ GE168.out | refine bs_ ?_ GE179.out) | exact HB.out)) hb)
               clear HO160; clear HO166; clear BK168; clear BK179; clear HB; have HO160 := n0_; have HO166 := n1_; have HO178 := n2_; have BK168 := n3_; have BK179 := n4_; have HB := n5_; clear n0_ n1_ n2_ n3_ n4_ n5_
               (try clear hb)
               (try clear hb2)
               (try clear hk)
               (try clear hi)
               (try clear ho0)
               refine hK.out _ _ ⟨((HB.out.cell (bl_ w _ hw172_0)).trans hw172_0), ((HB.out.cell (bl_ w _ hw172_1)).trans hw172_1), ((HB.out.cell (bl_ w _ hw172_2)).trans hw172_2), ((HB.out.cell (bl_ w _ hw173_0)).trans hw173_0), ((HB.out.cell (bl_ w _ hw173_1)).trans hw173_1), ((HB.out.cell (bl_ w _ hw173_2)).trans hw173_2)⟩ (fun hHeld => ?_)
               clear hK K
               refine norm_ (a' := ?_) ?_ ?_
               rotate_left
               ·
                show Act.put _ (some 68) _ = _
                simp only [Act.put, s1_, s2_, s3_, i64_w, i32_w]
                rfl
               refine pure_ (i := 11) (N := some 57) (v := ?_) (a' := ?_) #[true, true, true, true, true, true, true, true, true, true, true, true, false, false, true, false, false] rfl rfl (any_of HT_.out (by kernel_rfl)) (fun _ _ _ h => h) (Or.inl ⟨by rfl, ?_⟩) ?_ ?_
               rotate_left
               · intro w'; go_simp; with_reducible rfl
               rotate_left
               ·
                simp only [Act.put, s1_, s2_, s3_, i64_w, i32_w]
                rfl
               refine pure_ (i := 12) (N := some 69) (v := ?_) (a' := ?_) #[true, true, true, true, true, true, true, true, true, true, true, true, true, false, true, false, false] rfl rfl (any_of HT_.out (by kernel_rfl)) (fun _ _ _ h => h) (Or.inl ⟨by rfl, ?_⟩) ?_ ?_
               rotate_left
               · intro w'; go_simp; with_reducible rfl
               rotate_left
               ·
                simp only [Act.put, s1_, s2_, s3_, i64_w, i32_w]
                rfl
               refine pure_ (i := 13) (N := some 70) (v := ?_) (a' := ?_) #[true, true, true, true, true, true, true, true, true, true, true, true, true, true, true, false, false] rfl rfl (any_of HT_.out (by kernel_rfl)) (fun _ _ _ h => h) (Or.inl ⟨by rfl, ?_⟩) ?_ ?_
               rotate_left
               · intro w'; go_simp; with_reducible rfl
               rotate_left
               ·
                simp only [Act.put, s1_, s2_, s3_, i64_w, i32_w]
                rfl
               exact norm_ (by simp only [putAll, Act.put, s1_, s2_, s3_]) (hCont (v177, gb179) _ ⟨hHeld, (by (with_reducible repeat (first | apply ra_ | apply rn_ | apply re_)); exact HO160.out), (by (with_reducible repeat (first | apply ra_ | apply rn_ | apply re_)); exact Kd.R_mono HO166.out (fun _ hk => hk.2)), (by (with_reducible repeat (first | apply ra_ | apply rn_ | apply re_)); exact Kd.R_mono HO178.out (fun _ hk => hk.2)), (by (with_reducible repeat (first | refine kn_ ?_ _ | refine kd_ ?_ | refine ka_ ?_ _)); exact BK168.out), (by (with_reducible repeat (first | refine kn_ ?_ _ | refine kd_ ?_ | refine ka_ ?_ _)); exact BK179.out), GW179.out, GE179.out, NB168_179.out, NB179_168.out, (by repeat (first | (with_reducible first | exact HB.out | apply ba_ | apply bn_ | apply bd_ | refine bs_ ?_ GE168.out | refine bs_ ?_ GE179.out) | exact HB.out))⟩)
             rintro ⟨v177, gb179⟩ w84 ⟨hS_, h0_, h1_, h2_, h3_, h4_, h5_, h6_, h7_, h8_, h9_⟩
             have n0_ : Aside0 (Kd.R (Kd.int .u8) 5 w84 w.heap.size (fun _ => True) (.slice Ao76 t158.length co76) t158) := ⟨h0_⟩
             have n1_ : Aside0 (Kd.R k46 46 w84 w.heap.size (fun k_ => some k_ ≠ (v177 : Value).ownBlock) v165 t164) := ⟨h1_⟩
             have n2_ : Aside0 (Kd.R k46 46 w84 w.heap.size (fun k_ => some k_ ≠ (v165 : Value).ownBlock) v177 t176) := ⟨h2_⟩
             have n3_ : Aside0 (w84.heap[gb168]? = some (.cells #[.string t162, .bool t163] 25 (0, 0))) := ⟨h3_⟩
             have n4_ : Aside0 (w84.heap[gb179]? = some (.cells #[.string (⟨#[]⟩ : ByteArray), .bool false] 25 (0, 0))) := ⟨h4_⟩
             have n5_ : Aside0 (w.heap.size ≤ gb179) := ⟨h5_⟩
             have n6_ : Aside0 (w.heap.size ≤ gb179) := ⟨h6_⟩
             have n7_ : Aside0 (gb168 ≠ gb179) := ⟨h7_⟩
             have n8_ : Aside0 (gb179 ≠ gb168) := ⟨h8_⟩
             have n9_ : Aside0 (Below w.heap.size w w84) := ⟨h9_⟩
             clear HO160; clear HO166; clear BK168; clear HB; clear h0_ h1_ h2_ h3_ h4_ h5_ h6_ h7_ h8_ h9_; have HO160 := n0_; have HO166 := n1_; have HO178 := n2_; have BK168 := n3_; have BK179 := n4_; have GW179 := n5_; have GE179 := n6_; have NB168_179 := n7_; have NB179_168 := n8_; have HB := n9_; clear n0_ n1_ n2_ n3_ n4_ n5_ n6_ n7_ n8_ n9_
             have hHeld : w84.cell? (ad155.add ((x3_1).toNat * 3)) = some (.string ((rd_T28 l0 x3_1).f0.f0)) ∧ w84.cell? ⟨(ad155.add ((x3_1).toNat * 3)).block, (ad155.add ((x3_1).toNat * 3)).off + 1, none⟩ = some (.bool ((rd_T28 l0 x3_1).f0.f1)) ∧ w84.cell? ⟨(ad155.add ((x3_1).toNat * 3)).block, (ad155.add ((x3_1).toNat * 3)).off + 2, none⟩ = some (.slice A172_2 ((rd_T28 l0 x3_1).f1).length c172_2) ∧ w84.cell? (ad155.add ((x3_1).toNat * 3)) = some (.string ((rd_T28 l0 x3_1).f0.f0)) ∧ w84.cell? ⟨(ad155.add ((x3_1).toNat * 3)).block, (ad155.add ((x3_1).toNat * 3)).off + 1, none⟩ = some (.bool ((rd_T28 l0 x3_1).f0.f1)) ∧ w84.cell? ⟨(ad155.add ((x3_1).toNat * 3)).block, (ad155.add ((x3_1).toNat * 3)).off + 2, none⟩ = some (.slice A172_2 ((rd_T28 l0 x3_1).f1).length c172_2) := hS_
             refine norm_ (a' := ?_) ?_ ?_
             rotate_left
             ·
              simp only [putAll, Act.put, s1_, s2_, s3_]
              rfl
             refine one_ (i := 15) (N := none) #[true, true, true, true, true, true, true, true, true, true, true, true, true, true, true, true, false] rfl rfl (one_of HT_.out (by kernel_rfl)) (by decide) (fun K hK => ?_)
             have hs85 : w84.cell? ⟨gb179, 0, none⟩ = some (.string (⟨#[]⟩ : ByteArray)) := (blk_cell BK179.out 0).trans rfl
             have hfs85 := blk_frozen BK179.out 0
             have hns85_0 := NB168_179.out
             have hms85_0 := NB179_168.out
             have hs86 : w84.cell? ⟨gb179, 1, none⟩ = some (.bool false) := (blk_cell BK179.out 1).trans rfl
             have hfs86 := blk_frozen BK179.out 1
             have hns86_0 := NB168_179.out
             have hms86_0 := NB179_168.out
             refine skip_ (w1 := ?_) (by rfl) rfl ?_ ?_
             rotate_left
             ·
              go_simp
              rfl
             refine hK.out _ _ ⟨((cf_ (p := ⟨gb179, _, none⟩) (nb_ hw172_0 GW179.out) _).trans (((cf_ (p := ⟨gb179, _, none⟩) (nb_ hw172_0 GW179.out) _).trans (hHeld.1)))), ((cf_ (p := ⟨gb179, _, none⟩) (nb_ hw172_1 GW179.out) _).trans (((cf_ (p := ⟨gb179, _, none⟩) (nb_ hw172_1 GW179.out) _).trans (hHeld.2.1)))), ((cf_ (p := ⟨gb179, _, none⟩) (nb_ hw172_2 GW179.out) _).trans (((cf_ (p := ⟨gb179, _, none⟩) (nb_ hw172_2 GW179.out) _).trans (hHeld.2.2.1)))), ((cf_ (p := ⟨gb179, _, none⟩) (nb_ hw173_0 GW179.out) _).trans (((cf_ (p := ⟨gb179, _, none⟩) (nb_ hw173_0 GW179.out) _).trans (hHeld.2.2.2.1)))), ((cf_ (p := ⟨gb179, _, none⟩) (nb_ hw173_1 GW179.out) _).trans (((cf_ (p := ⟨gb179, _, none⟩) (nb_ hw173_1 GW179.out) _).trans (hHeld.2.2.2.2.1)))), ((cf_ (p := ⟨gb179, _, none⟩) (nb_ hw173_2 GW179.out) _).trans (((cf_ (p := ⟨gb179, _, none⟩) (nb_ hw173_2 GW179.out) _).trans (hHeld.2.2.2.2.2))))⟩ (fun hHeld => ?_)
             clear hK K
             refine pure_ (i := 16) (N := some 9) (v := ?_) (a' := ?_) #[true, true, true, true, true, true, true, true, true, true, true, true, true, true, true, true, true] rfl rfl (any_of HT_.out (by kernel_rfl)) (fun _ _ _ h => h) (Or.inl ⟨by rfl, ?_⟩) ?_ ?_
             rotate_left
             · intro w'; go_simp; with_reducible rfl
             rotate_left
             ·
              simp only [Act.put, s1_, s2_, s3_, i64_w, i32_w]
              rfl
             refine done_ (done_of HT_.out (by kernel_rfl)) ?_
             try go_wp2_with (first | ((with_reducible refine gate_callee (f := 11) rfl ?_); refine goesL_ (some 72) rfl rfl Try.func11 (by kernel_rfl) rfl #[.int .i64 t167] rfl (by (try simp only [m1_, m2_, m3_]); first | done | rfl | (simp only [m4_, m5_]; rfl)) ?_; (with_reducible refine (pouchlaw1_num.calls t167 t180 _ A15.out).mono ?_); rintro e w' ⟨rfl, ⟨nd, rfl⟩⟩; refine ⟨_, rfl, ?_⟩; have hnb87 := NB168_179.out; have hnc87 := NB179_168.out; have hcz88_0 : w84.cell? ⟨gb168, 0, none⟩ = some (.string t162) := (blk_cell BK168.out 0).trans rfl; have hcz88_1 : w84.cell? ⟨gb168, 1, none⟩ = some (.bool t163) := (blk_cell BK168.out 1).trans rfl; have hfz88_0 := blk_frozen BK168.out 0; have hfz88_1 := blk_frozen BK168.out 1; have hcz89_0 : w84.cell? ⟨gb179, 0, none⟩ = some (.string (⟨#[]⟩ : ByteArray)) := (blk_cell BK179.out 0).trans rfl; have hcz89_1 : w84.cell? ⟨gb179, 1, none⟩ = some (.bool false) := (blk_cell BK179.out 1).trans rfl; have hfz89_0 := blk_frozen BK179.out 0; have hfz89_1 := blk_frozen BK179.out 1; obtain ⟨Ao90, co90, eo90⟩ := Kd.R_slice HO166.out; subst eo90; obtain ⟨Ao91, co91, eo91⟩ := Kd.R_slice HO178.out; subst eo91) | (go_at_call 13; (with_reducible refine (pouchref0_EqLines.calls kj1 _ _ t164 _ _ t176 false _ ?side1 ?side2 ?side3 ?side4 A34.out).mono ?_); (case side1 => refine (Kd.R_reads' (e := 46) (base := w.heap.size) (ok := fun k_ => some k_ ≠ (.slice Ao91 t176.length co91 : Value).ownBlock) (n := t164.length) (c := co90) ?_).2.2; exact (by (with_reducible repeat (first | apply ra_ | apply rn_ | apply re_)); exact (Kd.R_mono (Kd.R_far (p := ⟨gb179, 1, none⟩) (Kd.R_far (p := ⟨gb179, 0, none⟩) (Kd.R_types HO166.out BK179.out (by decide)) (fun _ hk => hk.2) (.string t174)) (fun _ hk => hk.2) (.bool t175)) (fun _ h_ => h_.1)))); (case side2 => exact (Kd.R_reads' HO166.out).2.1); (case side3 => refine (Kd.R_reads' (e := 46) (base := w.heap.size) (ok := fun k_ => some k_ ≠ (.slice Ao90 t164.length co90 : Value).ownBlock) (n := t176.length) (c := co91) ?_).2.2; exact (by (with_reducible repeat (first | apply ra_ | apply rn_ | apply re_)); exact (Kd.R_mono (Kd.R_far (p := ⟨gb179, 1, none⟩) (Kd.R_far (p := ⟨gb179, 0, none⟩) (Kd.R_types HO178.out BK179.out (by decide)) (fun _ hk => hk.2) (.string t174)) (fun _ hk => hk.2) (.bool t175)) (fun _ h_ => h_.1)))); (case side4 => exact (Kd.R_reads' HO178.out).2.1); rintro e w' ⟨rfl, ⟨nd, rfl⟩⟩))
             go_ret
             exact ⟨by first | rfl | (simp [errW_none, errW_some] <;> rfl) | (simp [*, errW_none, errW_some] <;> rfl), by repeat (first | (with_reducible first | exact HB.out | apply ba_ | apply bn_ | apply bd_ | refine bs_ ?_ GE168.out | refine bs_ ?_ GE179.out) | exact HB.out)⟩
          ·
           rw [if_neg c16] at H
           have c16b0 : (t180 == 0) = false := beq_eq_false_iff_ne.mpr c16
           have c16b1 : (t180 != 0) = true := bne_iff_ne.mpr c16
           obtain rfl := Option.some.inj H
           have p155 : 0 ≤ (x3_1 : Int) := od_ (by first | (with_reducible assumption) | assumption)
           have q155 : x3_1 < (l0.length : Int) := od_ (by first | (with_reducible assumption) | assumption)
           obtain ⟨ad155, A155_2, c155_2, e155, hx155_0, hx155_1, hx155_2, hl155_2, hi155_2⟩ := at_T28 HR0.out x3_1 p155 q155
           cases e155
           replace hx155_0 := (HB.out.cell (bl_ w _ hx155_0)).trans hx155_0
           replace hx155_1 := (HB.out.cell (bl_ w _ hx155_1)).trans hx155_1
           replace hx155_2 := (HB.out.cell (bl_ w _ hx155_2)).trans hx155_2
           have HR155_2 := am_ hi155_2
           have HC155_2 := am_ hl155_2
           clear hi155_2 hl155_2
           replace p155 := eq_true p155
           replace q155 := eq_true q155
           try go_wp2_with (first | ((with_reducible refine gate_callee (f := 7) rfl ?_); refine goesL_ (some 24) rfl rfl Try.func7 (by kernel_rfl) rfl #[.agg #[.string ((rd_T28 l0 x3_1).f0.f0), .bool ((rd_T28 l0 x3_1).f0.f1), .slice A155_2 ((rd_T28 l0 x3_1).f1).length c155_2]] rfl (by (try simp only [m1_, m2_, m3_]); first | done | rfl | (simp only [m4_, m5_]; rfl)) ?_; (with_reducible refine (pouchlaw1_heavy.calls ((rd_T28 l0 x3_1).f0.f0) ((rd_T28 l0 x3_1).f0.f1) _ _ ((rd_T28 l0 x3_1).f1) false _ ?side1 ?side2 A7.out).mono ?_); (case side1 => repeat (first | exact (cb_ HR155_2.out HB.out) | (with_reducible refine ca_ ?_ _) | (with_reducible refine cn_ ?_ _) | (with_reducible refine cd_ ?_))); (case side2 => exact HC155_2.out); rintro e w92 ⟨rfl, hb⟩; refine ⟨_, rfl, ?_⟩; have n0_ := am_ (bt_ (by repeat (first | (with_reducible first | exact HB.out | apply ba_ | apply bn_ | apply bd_) | exact HB.out)) hb); clear HB; have HB := n0_; clear n0_; (try clear hb); (try clear hb2); (try clear hk); (try clear hi); have p157 : 0 ≤ (x3_1 : Int) := od_ (by first | (with_reducible assumption) | assumption); have q157 : x3_1 < (l0.length : Int) := od_ (by first | (with_reducible assumption) | assumption); obtain ⟨ad157, A157_2, c157_2, e157, hx157_0, hx157_1, hx157_2, hl157_2, hi157_2⟩ := at_T28 HR0.out x3_1 p157 q157; obtain rfl : ad155 = ad157 := (by injection e157); replace hx157_0 := (HB.out.cell (bl_ w _ hx157_0)).trans hx157_0; replace hx157_1 := (HB.out.cell (bl_ w _ hx157_1)).trans hx157_1; replace hx157_2 := (HB.out.cell (bl_ w _ hx157_2)).trans hx157_2; have HR157_2 := am_ hi157_2; have HC157_2 := am_ hl157_2; clear hi157_2 hl157_2; replace p157 := eq_true p157; replace q157 := eq_true q157) | ((with_reducible refine gate_callee (f := 8) rfl ?_); refine goesL_ (some 30) rfl rfl Try.func8 (by kernel_rfl) rfl #[.slice A157_2 ((rd_T28 l0 x3_1).f1).length c157_2] rfl (by (try simp only [m1_, m2_, m3_]); first | done | rfl | (simp only [m4_, m5_]; rfl)) ?_; (with_reducible refine (pouchref0_CopyBytes.calls kj1 _ _ ((rd_T28 l0 x3_1).f1) t158 _ ?side1 ?side2 A10.out).mono ?_); (case side1 => repeat (first | exact (cb_ HR157_2.out HB.out) | (with_reducible refine ca_ ?_ _) | (with_reducible refine cn_ ?_ _) | (with_reducible refine cd_ ?_))); (case side2 => exact HC157_2.out); rintro e w93 ⟨v159, rfl, ho0, hb⟩; refine ⟨_, rfl, ?_⟩; have n0_ := am_ (Kd.R_lower ho0 (bz_ (by repeat (first | (with_reducible first | exact HB.out | apply ba_ | apply bn_ | apply bd_) | exact HB.out)))); have n1_ := am_ (bt_ (by repeat (first | (with_reducible first | exact HB.out | apply ba_ | apply bn_ | apply bd_) | exact HB.out)) hb); clear HB; have HO160 := n0_; have HB := n1_; clear n0_ n1_; (try clear hb); (try clear hb2); (try clear hk); (try clear hi); (try clear ho0); have p161 : 0 ≤ (x3_1 : Int) := od_ (by first | (with_reducible assumption) | assumption); have q161 : x3_1 < (l0.length : Int) := od_ (by first | (with_reducible assumption) | assumption); obtain ⟨ad161, A161_2, c161_2, e161, hx161_0, hx161_1, hx161_2, hl161_2, hi161_2⟩ := at_T28 HR0.out x3_1 p161 q161; obtain rfl : ad155 = ad161 := (by injection e161); replace hx161_0 := (HB.out.cell (bl_ w _ hx161_0)).trans hx161_0; replace hx161_1 := (HB.out.cell (bl_ w _ hx161_1)).trans hx161_1; replace hx161_2 := (HB.out.cell (bl_ w _ hx161_2)).trans hx161_2; have HR161_2 := am_ hi161_2; have HC161_2 := am_ hl161_2; clear hi161_2 hl161_2; replace p161 := eq_true p161; replace q161 := eq_true q161; obtain ⟨Ao94, co94, eo94⟩ := Kd.R_slice HO160.out; subst eo94) | ((with_reducible refine gate_callee (f := 9) rfl ?_); refine goesL_ (some 38) rfl rfl Try.func9 (by kernel_rfl) rfl #[.agg #[.string ((rd_T28 l0 x3_1).f0.f0), .bool ((rd_T28 l0 x3_1).f0.f1)], .slice Ao94 t158.length co94] rfl (by (try simp only [m1_, m2_, m3_]); first | done | rfl | (simp only [m4_, m5_]; rfl)) ?_; (with_reducible refine (frame_Feed.calls kj1 ((rd_T28 l0 x3_1).f0.f0) ((rd_T28 l0 x3_1).f0.f1) _ _ t158 t162 t163 t164 t167 _ ?side1 ?side2 ?side3 A11.out).mono ?_); (case side1 => repeat (first | exact (Kd.R_reads' HO160.out).2.2 | (with_reducible refine ca_ ?_ _) | (with_reducible refine cn_ ?_ _) | (with_reducible refine cd_ ?_))); (case side2 => exact (Kd.R_reads' HO160.out).2.1); (case side3 => exact GrOk.below hG (by repeat (first | (with_reducible first | exact HB.out | apply ba_ | apply bn_ | apply bd_) | exact HB.out))); rintro e w95 ⟨v165, rfl, ho0, hb⟩; refine ⟨_, rfl, ?_⟩; have n0_ := am_ (rb_ (by (with_reducible repeat (first | apply ra_ | apply rn_ | apply re_)); exact HO160.out) hb); have n1_ := am_ (Kd.R_lower ho0 (bz_ (by repeat (first | (with_reducible first | exact HB.out | apply ba_ | apply bn_ | apply bd_) | exact HB.out)))); have n2_ := am_ (bt_ (by repeat (first | (with_reducible first | exact HB.out | apply ba_ | apply bn_ | apply bd_) | exact HB.out)) hb); clear HO160; clear HB; have HO160 := n0_; have HO166 := n1_; have HB := n2_; clear n0_ n1_ n2_; (try clear hb); (try clear hb2); (try clear hk); (try clear hi); (try clear ho0)) | ((with_reducible refine gate_dst (N := 5) rfl ?_); (try (refine gate_guard (by rfl) ?_; dsimp only)); refine box_event ?hg (N := 5) ?hd (cs := #[.string (⟨#[]⟩ : ByteArray), .bool false]) (t := 25) ?hr ?_; (case hd => rfl); (case hg => rfl); (case hr => first | (go_simp; done) | (go_simp; rfl)); intro gb168 hg w96 hbox hb; have n0_ := am_ (rb_ (by (with_reducible repeat (first | apply ra_ | apply rn_ | apply re_)); exact HO160.out) hb); have n1_ := am_ (rb_ (by (with_reducible repeat (first | apply ra_ | apply rn_ | apply re_)); exact HO166.out) hb); have n2_ := am_ (bt_ (by repeat (first | (with_reducible first | exact HB.out | apply ba_ | apply bn_ | apply bd_) | exact HB.out)) hb); have n3_ := am_ (hbox); have n4_ := am_ ((by rw [hg]; exact (bz_ (by repeat (first | (with_reducible first | exact HB.out | apply ba_ | apply bn_ | apply bd_) | exact HB.out))) : w.heap.size ≤ gb168)); have n5_ := am_ ((by rw [hg]; exact (bz_ (by repeat (first | (with_reducible first | exact HB.out | apply ba_ | apply bn_ | apply bd_) | exact HB.out))) : w.heap.size ≤ gb168)); clear HO160; clear HO166; clear HB; have HO160 := n0_; have HO166 := n1_; have HB := n2_; have BK168 := n3_; have GW168 := n4_; have GE168 := n5_; clear n0_ n1_ n2_ n3_ n4_ n5_; clear hb hbox hg; have hcz97_0 : w96.cell? ⟨gb168, 0, none⟩ = some (.string (⟨#[]⟩ : ByteArray)) := (blk_cell BK168.out 0).trans rfl; have hcz97_1 : w96.cell? ⟨gb168, 1, none⟩ = some (.bool false) := (blk_cell BK168.out 1).trans rfl; have hfz97_0 := blk_frozen BK168.out 0; have hfz97_1 := blk_frozen BK168.out 1; have p169 : 0 ≤ (x3_1 : Int) := od_ (by first | (with_reducible assumption) | assumption); have q169 : x3_1 < (l0.length : Int) := od_ (by first | (with_reducible assumption) | assumption); obtain ⟨ad169, A169_2, c169_2, e169, hx169_0, hx169_1, hx169_2, hl169_2, hi169_2⟩ := at_T28 HR0.out x3_1 p169 q169; obtain rfl : ad155 = ad169 := (by injection e169); have hn169_0 : ad155.block ≠ gb168 := nl_ (ll_ (by have := bl_ _ _ hx169_0; first | rwa [ab_] at this | exact this) GW168.out); have hn169_1 : ad155.block ≠ gb168 := nl_ (ll_ (by have := bl_ _ _ hx169_0; first | rwa [ab_] at this | exact this) GW168.out); replace hx169_0 := (HB.out.cell (bl_ w _ hx169_0)).trans hx169_0; replace hx169_1 := (HB.out.cell (bl_ w _ hx169_1)).trans hx169_1; replace hx169_2 := (HB.out.cell (bl_ w _ hx169_2)).trans hx169_2; have HR169_2 := am_ hi169_2; have HC169_2 := am_ hl169_2; clear hi169_2 hl169_2; replace hx169_0 := (cf_ (p := ⟨gb168, 0, none⟩) (by first | (rw [ab_]; exact hn169_0) | (show (Addr.add _ _).block ≠ _; rw [ab_]; exact hn169_0) | exact hn169_0) (.string t162)).trans hx169_0; replace hx169_1 := (cf_ (p := ⟨gb168, 0, none⟩) (by first | (rw [ab_]; exact hn169_0) | (show (Addr.add _ _).block ≠ _; rw [ab_]; exact hn169_0) | exact hn169_0) (.string t162)).trans hx169_1; replace hx169_2 := (cf_ (p := ⟨gb168, 0, none⟩) (by first | (rw [ab_]; exact hn169_0) | (show (Addr.add _ _).block ≠ _; rw [ab_]; exact hn169_0) | exact hn169_0) (.string t162)).trans hx169_2; replace hx169_0 := (cf_ (p := ⟨gb168, 1, none⟩) (by first | (rw [ab_]; exact hn169_1) | (show (Addr.add _ _).block ≠ _; rw [ab_]; exact hn169_1) | exact hn169_1) (.bool t163)).trans hx169_0; replace hx169_1 := (cf_ (p := ⟨gb168, 1, none⟩) (by first | (rw [ab_]; exact hn169_1) | (show (Addr.add _ _).block ≠ _; rw [ab_]; exact hn169_1) | exact hn169_1) (.bool t163)).trans hx169_1; replace hx169_2 := (cf_ (p := ⟨gb168, 1, none⟩) (by first | (rw [ab_]; exact hn169_1) | (show (Addr.add _ _).block ≠ _; rw [ab_]; exact hn169_1) | exact hn169_1) (.bool t163)).trans hx169_2; clear hn169_0; clear hn169_1; replace p169 := eq_true p169; replace q169 := eq_true q169) | ((with_reducible refine gate_callee (f := 10) rfl ?_); refine goesL_ (some 47) rfl rfl Try.func10 (by kernel_rfl) rfl #[.agg #[.string ((rd_T28 l0 x3_1).f0.f0), .bool ((rd_T28 l0 x3_1).f0.f1)]] rfl (by (try simp only [m1_, m2_, m3_]); first | done | rfl | (simp only [m4_, m5_]; rfl)) ?_; (with_reducible refine (pouchref1_Framer.calls kj1 ((rd_T28 l0 x3_1).f0.f0) ((rd_T28 l0 x3_1).f0.f1) true _ A12.out).mono ?_); rintro e w98 ⟨rfl, hb⟩; refine ⟨_, rfl, ?_⟩; have n0_ := am_ (rb_ (by (with_reducible repeat (first | apply ra_ | apply rn_ | apply re_)); exact (Kd.R_mono (Kd.R_far (p := ⟨gb168, 1, none⟩) (Kd.R_far (p := ⟨gb168, 0, none⟩) (Kd.R_types HO160.out BK168.out (by decide)) (fun _ hk => hk.2) (.string t162)) (fun _ hk => hk.2) (.bool t163)) (fun _ h_ => h_.1))) hb); have n1_ := am_ (rb_ (by (with_reducible repeat (first | apply ra_ | apply rn_ | apply re_)); exact (Kd.R_mono (Kd.R_far (p := ⟨gb168, 1, none⟩) (Kd.R_far (p := ⟨gb168, 0, none⟩) (Kd.R_types HO166.out BK168.out (by decide)) (fun _ hk => hk.2) (.string t162)) (fun _ hk => hk.2) (.bool t163)) (fun _ h_ => h_.1))) hb); have n2_ := am_ (bb_ (g := gb168) (o := .cells #[.string t162, .bool t163] 25 (0, 0)) (by (with_reducible repeat (first | refine kn_ ?_ _ | refine kd_ ?_ | refine ka_ ?_ _)); refine blk_put (cs := #[.string t162, .bool false]) ?_ 1 _ rfl; (with_reducible repeat (first | refine kn_ ?_ _ | refine kd_ ?_ | refine ka_ ?_ _)); refine blk_put (cs := #[.string (⟨#[]⟩ : ByteArray), .bool false]) ?_ 0 _ rfl; (with_reducible repeat (first | refine kn_ ?_ _ | refine kd_ ?_ | refine ka_ ?_ _)); exact BK168.out) hb); have n3_ := am_ (bt_ (by repeat (first | (with_reducible first | exact HB.out | apply ba_ | apply bn_ | apply bd_ | refine bs_ ?_ GE168.out) | exact HB.out)) hb); clear HO160; clear HO166; clear BK168; clear HB; have HO160 := n0_; have HO166 := n1_; have BK168 := n2_; have HB := n3_; clear n0_ n1_ n2_ n3_; (try clear hb); (try clear hb2); (try clear hk); (try clear hi)))
           have n0_ := am_ (re_ HO160.out)
           have n1_ := am_ (re_ HO166.out)
           have n2_ := am_ (kd_ BK168.out)
           have n3_ := am_ (bd_ HB.out)
           clear HO160; clear HO166; clear BK168; clear HB; have HO160 := n0_; have HO166 := n1_; have BK168 := n2_; have HB := n3_; clear n0_ n1_ n2_ n3_
           have p172 : 0 ≤ (x3_1 : Int) := od_ (by first | (with_reducible assumption) | assumption)
           have q172 : x3_1 < (l0.length : Int) := od_ (by first | (with_reducible assumption) | assumption)
           obtain ⟨ad172, A172_2, c172_2, e172, hx172_0, hx172_1, hx172_2, hl172_2, hi172_2⟩ := at_T28 HR0.out x3_1 p172 q172
           have hw172_2 := hx172_2; have hw172_1 := hx172_1; have hw172_0 := hx172_0
           obtain rfl : ad155 = ad172 := (by injection e172)
           replace hx172_0 := (HB.out.cell (bl_ w _ hx172_0)).trans hx172_0
           replace hx172_1 := (HB.out.cell (bl_ w _ hx172_1)).trans hx172_1
           replace hx172_2 := (HB.out.cell (bl_ w _ hx172_2)).trans hx172_2
           have HR172_2 := am_ hi172_2
           have HC172_2 := am_ hl172_2
           clear hi172_2 hl172_2
           replace p172 := eq_true p172
           replace q172 := eq_true q172
           have p173 : 0 ≤ (x3_1 : Int) := od_ (by first | (with_reducible assumption) | assumption)
           have q173 : x3_1 < (l0.length : Int) := od_ (by first | (with_reducible assumption) | assumption)
           obtain ⟨ad173, A173_2, c173_2, e173, hx173_0, hx173_1, hx173_2, hl173_2, hi173_2⟩ := at_T28 HR0.out x3_1 p173 q173
           have hw173_2 := hx173_2; have hw173_1 := hx173_1; have hw173_0 := hx173_0
           obtain rfl : ad155 = ad173 := (by injection e173)
           replace hx173_0 := (HB.out.cell (bl_ w _ hx173_0)).trans hx173_0
           replace hx173_1 := (HB.out.cell (bl_ w _ hx173_1)).trans hx173_1
           replace hx173_2 := (HB.out.cell (bl_ w _ hx173_2)).trans hx173_2
           have HR173_2 := am_ hi173_2
           have HC173_2 := am_ hl173_2
           clear hi173_2 hl173_2
           replace p173 := eq_true p173
           replace q173 := eq_true q173
           have ea_ := Option.some.inj (hx172_2.symm.trans hx173_2)
           injection ea_ with ea_ en_ ec_
           subst ea_
           subst ec_
           clear en_
           refine start_ (n := 17) (S := fun w' => w'.cell? (ad155.add ((x3_1).toNat * 3)) = some (.string ((rd_T28 l0 x3_1).f0.f0)) ∧ w'.cell? ⟨(ad155.add ((x3_1).toNat * 3)).block, (ad155.add ((x3_1).toNat * 3)).off + 1, none⟩ = some (.bool ((rd_T28 l0 x3_1).f0.f1)) ∧ w'.cell? ⟨(ad155.add ((x3_1).toNat * 3)).block, (ad155.add ((x3_1).toNat * 3)).off + 2, none⟩ = some (.slice A172_2 ((rd_T28 l0 x3_1).f1).length c172_2) ∧ w'.cell? (ad155.add ((x3_1).toNat * 3)) = some (.string ((rd_T28 l0 x3_1).f0.f0)) ∧ w'.cell? ⟨(ad155.add ((x3_1).toNat * 3)).block, (ad155.add ((x3_1).toNat * 3)).off + 1, none⟩ = some (.bool ((rd_T28 l0 x3_1).f0.f1)) ∧ w'.cell? ⟨(ad155.add ((x3_1).toNat * 3)).block, (ad155.add ((x3_1).toNat * 3)).off + 2, none⟩ = some (.slice A172_2 ((rd_T28 l0 x3_1).f1).length c172_2)) (ds := []) #[false, false, false, false, false, false, false, false, false, false, false, false, false, false, false, false, false] (by kernel_rfl) rfl rfl ⟨((HB.out.cell (bl_ w _ hw172_0)).trans hw172_0), ((HB.out.cell (bl_ w _ hw172_1)).trans hw172_1), ((HB.out.cell (bl_ w _ hw172_2)).trans hw172_2), ((HB.out.cell (bl_ w _ hw173_0)).trans hw173_0), ((HB.out.cell (bl_ w _ hw173_1)).trans hw173_1), ((HB.out.cell (bl_ w _ hw173_2)).trans hw173_2)⟩ (fun hHeld => ?_); refine with_tabW pouchlaw1_FrameFeeds.tab11 pouchlaw1_FrameFeeds.bits11 (fun HT_ HW_ => ?_)
           generalize w98.drew = w99 at HO160 HO166 BK168 HB HR172_2 HR173_2 hx172_0 hx172_1 hx172_2 hx173_0 hx173_1 hx173_2 hHeld ⊢
           refine pure_ (i := 0) (N := some 58) (v := ?_) (a' := ?_) #[true, false, false, false, false, false, false, false, false, false, false, false, false, false, false, false, false] rfl rfl (any_of HT_.out (by kernel_rfl)) (fun _ _ _ h => h) (Or.inl ⟨by rfl, ?_⟩) ?_ ?_
           rotate_left
           · intro w'; go_simp; with_reducible rfl
           rotate_left
           ·
            simp only [Act.put, s1_, s2_, s3_, i64_w, i32_w]
            rfl
           refine pure_ (i := 1) (N := some 59) (v := ?_) (a' := ?_) #[true, true, false, false, false, false, false, false, false, false, false, false, false, false, false, false, false] rfl rfl (any_of HT_.out (by kernel_rfl)) (fun _ _ _ h => h) (Or.inl ⟨by rfl, ?_⟩) ?_ ?_
           rotate_left
           · intro w'; go_simp; with_reducible rfl
           rotate_left
           ·
            simp only [Act.put, s1_, s2_, s3_, i64_w, i32_w]
            rfl
           refine pure_ (i := 2) (N := some 60) (v := ?_) (a' := ?_) #[true, true, true, false, false, false, false, false, false, false, false, false, false, false, false, false, false] rfl rfl (any_of HT_.out (by kernel_rfl)) (fun _ _ _ h => h) (Or.inl ⟨by rfl, ?_⟩) ?_ ?_
           rotate_left
           · intro w'; go_simp; with_reducible rfl
           rotate_left
           ·
            simp only [Act.put, s1_, s2_, s3_, i64_w, i32_w]
            rfl
           refine pure_ (i := 3) (N := some 61) (v := ?_) (a' := ?_) #[true, true, true, true, false, false, false, false, false, false, false, false, false, false, false, false, false] rfl rfl (any_of HT_.out (by kernel_rfl)) (fun _ _ _ h => h) (Or.inl ⟨by rfl, ?_⟩) ?_ ?_
           rotate_left
           · intro w'; go_simp; with_reducible rfl
           rotate_left
           ·
            simp only [Act.put, s1_, s2_, s3_, i64_w, i32_w]
            rfl
           refine pure_ (i := 5) (N := some 63) (v := ?_) (a' := ?_) #[true, true, true, true, false, true, false, false, false, false, false, false, false, false, false, false, false] rfl rfl (any_of HT_.out (by kernel_rfl)) (fun _ _ _ h => h) (Or.inl ⟨by rfl, ?_⟩) ?_ ?_
           rotate_left
           · intro w'; go_simp; with_reducible rfl
           rotate_left
           ·
            simp only [Act.put, s1_, s2_, s3_, i64_w, i32_w]
            rfl
           refine pure_ (i := 6) (N := some 64) (v := ?_) (a' := ?_) #[true, true, true, true, false, true, true, false, false, false, false, false, false, false, false, false, false] rfl rfl (any_of HT_.out (by kernel_rfl)) (fun _ _ _ h => h) (Or.inl ⟨by rfl, ?_⟩) ?_ ?_
           rotate_left
           · intro w'; go_simp; with_reducible rfl
           rotate_left
           ·
            simp only [Act.put, s1_, s2_, s3_, i64_w, i32_w]
            rfl
           refine pure_ (i := 7) (N := some 65) (v := ?_) (a' := ?_) #[true, true, true, true, false, true, true, true, false, false, false, false, false, false, false, false, false] rfl rfl (any_of HT_.out (by kernel_rfl)) (fun _ _ _ h => h) (Or.inl ⟨by rfl, ?_⟩) ?_ ?_
           rotate_left
           · intro w'; go_simp; with_reducible rfl
           rotate_left
           ·
            simp only [Act.put, s1_, s2_, s3_, i64_w, i32_w]
            rfl
           refine pure_ (i := 8) (N := some 66) (v := ?_) (a' := ?_) #[true, true, true, true, false, true, true, true, true, false, false, false, false, false, false, false, false] rfl rfl (any_of HT_.out (by kernel_rfl)) (fun _ _ _ h => h) (Or.inl ⟨by rfl, ?_⟩) ?_ ?_
           rotate_left
           · intro w'; go_simp; with_reducible rfl
           rotate_left
           ·
            simp only [Act.put, s1_, s2_, s3_, i64_w, i32_w]
            rfl
           refine take_ (i := 4) (N := some 62) (v := ?_) (a' := ?_) #[true, true, true, true, true, true, true, true, true, false, false, false, false, false, false, false, false] rfl rfl (take_ofW HT_.out HW_.out (by kernel_rfl)) (fun _ _ _ h => h) (Or.inl ⟨by rfl, ?_⟩) hHeld ?_ ?_
           rotate_left
           ·
            rintro w' ⟨s0, s1, s2, s3, s4, s5⟩
            go_simp; with_reducible rfl
           rotate_left
           ·
            simp only [Act.put, s1_, s2_, s3_, i64_w, i32_w]
            rfl
           refine take_ (i := 9) (N := some 67) (v := ?_) (a' := ?_) #[true, true, true, true, true, true, true, true, true, true, false, false, false, false, false, false, false] rfl rfl (take_ofW HT_.out HW_.out (by kernel_rfl)) (fun _ _ _ h => h) (Or.inl ⟨by rfl, ?_⟩) hHeld ?_ ?_
           rotate_left
           ·
            rintro w' ⟨s0, s1, s2, s3, s4, s5⟩
            go_simp; with_reducible rfl
           rotate_left
           ·
            simp only [Act.put, s1_, s2_, s3_, i64_w, i32_w]
            rfl
           refine join_ (σ := Value × Nat) 2 #[true, true, true, true, true, true, true, true, true, true, true, true, true, true, true, false, false] (fun s_ => [(68, .tuple #[.agg #[.string t174, .bool t175], s_.1]), (8, .pointer (some ⟨s_.2, 0, none⟩)), (57, .tuple #[.agg #[.string t174, .bool t175], s_.1]), (69, .agg #[.string t174, .bool t175]), (70, s_.1)]) (fun s_ w' => (w'.cell? (ad155.add ((x3_1).toNat * 3)) = some (.string ((rd_T28 l0 x3_1).f0.f0)) ∧ w'.cell? ⟨(ad155.add ((x3_1).toNat * 3)).block, (ad155.add ((x3_1).toNat * 3)).off + 1, none⟩ = some (.bool ((rd_T28 l0 x3_1).f0.f1)) ∧ w'.cell? ⟨(ad155.add ((x3_1).toNat * 3)).block, (ad155.add ((x3_1).toNat * 3)).off + 2, none⟩ = some (.slice A172_2 ((rd_T28 l0 x3_1).f1).length c172_2) ∧ w'.cell? (ad155.add ((x3_1).toNat * 3)) = some (.string ((rd_T28 l0 x3_1).f0.f0)) ∧ w'.cell? ⟨(ad155.add ((x3_1).toNat * 3)).block, (ad155.add ((x3_1).toNat * 3)).off + 1, none⟩ = some (.bool ((rd_T28 l0 x3_1).f0.f1)) ∧ w'.cell? ⟨(ad155.add ((x3_1).toNat * 3)).block, (ad155.add ((x3_1).toNat * 3)).off + 2, none⟩ = some (.slice A172_2 ((rd_T28 l0 x3_1).f1).length c172_2)) ∧ (Kd.R (Kd.int .u8) 5 w' w.heap.size (fun _ => True) (.slice Ao94 t158.length co94) t158) ∧ (Kd.R k46 46 w' w.heap.size (fun k_ => some k_ ≠ (s_.1 : Value).ownBlock) v165 t164) ∧ (Kd.R k46 46 w' w.heap.size (fun k_ => some k_ ≠ (v165 : Value).ownBlock) s_.1 t176) ∧ (w'.heap[gb168]? = some (.cells #[.string t162, .bool t163] 25 (0, 0))) ∧ (w'.heap[s_.2]? = some (.cells #[.string (⟨#[]⟩ : ByteArray), .bool false] 25 (0, 0))) ∧ (w.heap.size ≤ s_.2) ∧ (w.heap.size ≤ s_.2) ∧ (gb168 ≠ s_.2) ∧ (s_.2 ≠ gb168) ∧ (Below w.heap.size w w')) ?_ ?_
           rotate_left
           ·
            intro hCont
            refine two_ (i := 10) (j := 14) (Ni := some 68) (Nj := some 8) #[true, true, true, true, true, true, true, true, true, true, true, false, false, false, false, false, false] #[true, true, true, true, true, true, true, true, true, true, false, false, false, false, true, false, false] rfl rfl rfl rfl (two_of HT_.out (by kernel_rfl)) (by decide) (by decide) (fun K hK => ?_) (fun K hK => ?_)
            ·
             skip
             refine goes_ Try.func12 (by kernel_rfl) rfl #[.agg #[.string ((rd_T28 l0 x3_1).f0.f0), .bool ((rd_T28 l0 x3_1).f0.f1)], .slice A172_2 ((rd_T28 l0 x3_1).f1).length c172_2] (by rfl) rfl rfl (by (try simp only [m1_, m2_, m3_]); first | done | rfl | (simp only [m4_, m5_]; rfl)) ?_
             with_reducible refine (pouchref1_Feed.calls kj1 ((rd_T28 l0 x3_1).f0.f0) ((rd_T28 l0 x3_1).f0.f1) _ _ ((rd_T28 l0 x3_1).f1) t174 t175 t176 _ ?side1 ?side2 A14.out).mono ?_
             (case side1 => repeat (first | exact (cb_ HR173_2.out HB.out) | (with_reducible refine ca_ ?_ _) | (with_reducible refine cn_ ?_ _) | (with_reducible refine cd_ ?_)))
             (case side2 => exact HC173_2.out)
             rintro e w100 ⟨v177, rfl, ho0, hb⟩
             refine ⟨_, rfl, ?_⟩
             have n0_ := am_ (rb_ (by (with_reducible repeat (first | apply ra_ | apply rn_ | apply re_)); exact HO160.out) hb)
             have n1_ := am_ (Kd.R_elder' (by (with_reducible repeat (first | apply ra_ | apply rn_ | apply re_)); exact HO166.out) (Kd.R_base ho0) hb)
             have n2_ := am_ (Kd.R_lower (Kd.R_new' ho0 (Kd.R_lt (by (with_reducible repeat (first | apply ra_ | apply rn_ | apply re_)); exact HO166.out))) (bz_ (by repeat (first | (with_reducible first | exact HB.out | apply ba_ | apply bn_ | apply bd_ | refine bs_ ?_ GE168.out) | exact HB.out))))
             have n3_ := am_ (bb_ (g := gb168) (o := .cells #[.string t162, .bool t163] 25 (0, 0)) (by (with_reducible repeat (first | refine kn_ ?_ _ | refine kd_ ?_ | refine ka_ ?_ _)); exact BK168.out) hb)
             have n4_ := am_ (bt_ (by repeat (first | (with_reducible first | exact HB.out | apply ba_ | apply bn_ | apply bd_ | refine bs_ ?_ GE168.out) | exact HB.out)) hb)
             clear HO160; clear HO166; clear BK168; clear HB; have HO160 := n0_; have HO166 := n1_; have HO178 := n2_; have BK168 := n3_; have HB := n4_; clear n0_ n1_ n2_ n3_ n4_
             (try clear hb)
             (try clear hb2)
             (try clear hk)
             (try clear hi)
             (try clear ho0)
             refine hK.out _ _ ⟨((HB.out.cell (bl_ w _ hw172_0)).trans hw172_0), ((HB.out.cell (bl_ w _ hw172_1)).trans hw172_1), ((HB.out.cell (bl_ w _ hw172_2)).trans hw172_2), ((HB.out.cell (bl_ w _ hw173_0)).trans hw173_0), ((HB.out.cell (bl_ w _ hw173_1)).trans hw173_1), ((HB.out.cell (bl_ w _ hw173_2)).trans hw173_2)⟩ (fun hHeld => ?_)
             clear hK K
             refine norm_ (a' := ?_) ?_ ?_
             rotate_left
             ·
              show Act.put _ (some 68) _ = _
              simp only [Act.put, s1_, s2_, s3_, i64_w, i32_w]
              rfl
             refine pure_ (i := 11) (N := some 57) (v := ?_) (a' := ?_) #[true, true, true, true, true, true, true, true, true, true, true, true, false, false, false, false, false] rfl rfl (any_of HT_.out (by kernel_rfl)) (fun _ _ _ h => h) (Or.inl ⟨by rfl, ?_⟩) ?_ ?_
             rotate_left
             · intro w'; go_simp; with_reducible rfl
             rotate_left
             ·
              simp only [Act.put, s1_, s2_, s3_, i64_w, i32_w]
              rfl
             refine pure_ (i := 12) (N := some 69) (v := ?_) (a' := ?_) #[true, true, true, true, true, true, true, true, true, true, true, true, true, false, false, false, false] rfl rfl (any_of HT_.out (by kernel_rfl)) (fun _ _ _ h => h) (Or.inl ⟨by rfl, ?_⟩) ?_ ?_
             rotate_left
             · intro w'; go_simp; with_reducible rfl
             rotate_left
             ·
              simp only [Act.put, s1_, s2_, s3_, i64_w, i32_w]
              rfl
             refine pure_ (i := 13) (N := some 70) (v := ?_) (a' := ?_) #[true, true, true, true, true, true, true, true, true, true, true, true, true, true, false, false, false] rfl rfl (any_of HT_.out (by kernel_rfl)) (fun _ _ _ h => h) (Or.inl ⟨by rfl, ?_⟩) ?_ ?_
             rotate_left
             · intro w'; go_simp; with_reducible rfl
             rotate_left
             ·
              simp only [Act.put, s1_, s2_, s3_, i64_w, i32_w]
              rfl
             refine one_ (i := 14) (N := some 8) #[true, true, true, true, true, true, true, true, true, true, true, true, true, true, true, false, false] rfl rfl (one_of HT_.out (by kernel_rfl)) (by decide) (fun K hK => ?_)
             refine box_step ?hg (N := 8) ?hd (cs := #[.string (⟨#[]⟩ : ByteArray), .bool false]) (t := 25) ?hr ?_; (case hd => rfl); (case hg => rfl); (case hr => first | (go_simp; done) | (go_simp; rfl))
             intro gb179 hg w101 hbox hb
             have n0_ := am_ (rb_ (by (with_reducible repeat (first | apply ra_ | apply rn_ | apply re_)); exact HO160.out) hb)
             have n1_ := am_ (rb_ (by (with_reducible repeat (first | apply ra_ | apply rn_ | apply re_)); exact HO166.out) hb)
             have n2_ := am_ (rb_ (by (with_reducible repeat (first | apply ra_ | apply rn_ | apply re_)); exact HO178.out) hb)
             have n3_ := am_ (bb_ (g := gb168) (o := .cells #[.string t162, .bool t163] 25 (0, 0)) (by (with_reducible repeat (first | refine kn_ ?_ _ | refine kd_ ?_ | refine ka_ ?_ _)); exact BK168.out) hb)
             have n4_ := am_ (bt_ (by repeat (first | (with_reducible first | exact HB.out | apply ba_ | apply bn_ | apply bd_ | refine bs_ ?_ GE168.out) | exact HB.out)) hb)
             have n5_ := am_ (hbox)
             have n6_ := am_ ((by rw [hg]; exact (bz_ (by repeat (first | (with_reducible first | exact HB.out | apply ba_ | apply bn_ | apply bd_ | refine bs_ ?_ GE168.out) | exact HB.out))) : w.heap.size ≤ gb179))
             have n7_ := am_ ((by rw [hg]; exact (bz_ (by repeat (first | (with_reducible first | exact HB.out | apply ba_ | apply bn_ | apply bd_ | refine bs_ ?_ GE168.out) | exact HB.out))) : w.heap.size ≤ gb179))
             have n8_ := am_ ((by rw [hg]; exact nl_ (blk_lt (g := gb168) (o := .cells #[.string t162, .bool t163] 25 (0, 0)) (by (with_reducible repeat (first | refine kn_ ?_ _ | refine kd_ ?_ | refine ka_ ?_ _)); exact BK168.out)) : gb168 ≠ gb179))
             have n9_ := am_ ((by rw [hg]; exact Nat.ne_of_gt (blk_lt (g := gb168) (o := .cells #[.string t162, .bool t163] 25 (0, 0)) (by (with_reducible repeat (first | refine kn_ ?_ _ | refine kd_ ?_ | refine ka_ ?_ _)); exact BK168.out)) : gb179 ≠ gb168))
             clear HO160; clear HO166; clear HO178; clear BK168; clear HB; have HO160 := n0_; have HO166 := n1_; have HO178 := n2_; have BK168 := n3_; have HB := n4_; have BK179 := n5_; have GW179 := n6_; have GE179 := n7_; have NB168_179 := n8_; have NB179_168 := n9_; clear n0_ n1_ n2_ n3_ n4_ n5_ n6_ n7_ n8_ n9_; clear hb hbox hg
             refine hK.out _ _ ⟨((HB.out.cell (bl_ w _ hw172_0)).trans hw172_0), ((HB.out.cell (bl_ w _ hw172_1)).trans hw172_1), ((HB.out.cell (bl_ w _ hw172_2)).trans hw172_2), ((HB.out.cell (bl_ w _ hw173_0)).trans hw173_0), ((HB.out.cell (bl_ w _ hw173_1)).trans hw173_1), ((HB.out.cell (bl_ w _ hw173_2)).trans hw173_2)⟩ (fun hHeld => ?_)
             clear hK K
             refine norm_ (a' := ?_) ?_ ?_
             rotate_left
             ·
              show Act.put _ (some 8) _ = _
              simp only [Act.put, s1_, s2_, s3_, i64_w, i32_w]
              rfl
             exact norm_ (by simp only [putAll, Act.put, s1_, s2_, s3_]) (hCont (v177, gb179) _ ⟨hHeld, (by (with_reducible repeat (first | apply ra_ | apply rn_ | apply re_)); exact HO160.out), (by (with_reducible repeat (first | apply ra_ | apply rn_ | apply re_)); exact Kd.R_mono HO166.out (fun _ hk => hk.2)), (by (with_reducible repeat (first | apply ra_ | apply rn_ | apply re_)); exact Kd.R_mono HO178.out (fun _ hk => hk.2)), (by (with_reducible repeat (first | refine kn_ ?_ _ | refine kd_ ?_ | refine ka_ ?_ _)); exact BK168.out), (by (with_reducible repeat (first | refine kn_ ?_ _ | refine kd_ ?_ | refine ka_ ?_ _)); exact BK179.out), GW179.out, GE179.out, NB168_179.out, NB179_168.out, (by repeat (first | (with_reducible first | exact HB.out | apply ba_ | apply bn_ | apply bd_ | refine bs_ ?_ GE168.out | refine bs_ ?_ GE179.out) | exact HB.out))⟩)
            ·
             skip
             refine box_step ?hg (N := 8) ?hd (cs := #[.string (⟨#[]⟩ : ByteArray), .bool false]) (t := 25) ?hr ?_; (case hd => rfl); (case hg => rfl); (case hr => first | (go_simp; done) | (go_simp; rfl))
             intro gb179 hg w100 hbox hb
             have n0_ := am_ (rb_ (by (with_reducible repeat (first | apply ra_ | apply rn_ | apply re_)); exact HO160.out) hb)
             have n1_ := am_ (rb_ (by (with_reducible repeat (first | apply ra_ | apply rn_ | apply re_)); exact HO166.out) hb)
             have n2_ := am_ (bb_ (g := gb168) (o := .cells #[.string t162, .bool t163] 25 (0, 0)) (by (with_reducible repeat (first | refine kn_ ?_ _ | refine kd_ ?_ | refine ka_ ?_ _)); exact BK168.out) hb)
             have n3_ := am_ (bt_ (by repeat (first | (with_reducible first | exact HB.out | apply ba_ | apply bn_ | apply bd_ | refine bs_ ?_ GE168.out) | exact HB.out)) hb)
             have n4_ := am_ (hbox)
             have n5_ := am_ ((by rw [hg]; exact (bz_ (by repeat (first | (with_reducible first | exact HB.out | apply ba_ | apply bn_ | apply bd_ | refine bs_ ?_ GE168.out) | exact HB.out))) : w.heap.size ≤ gb179))
             have n6_ := am_ ((by rw [hg]; exact (bz_ (by repeat (first | (with_reducible first | exact HB.out | apply ba_ | apply bn_ | apply bd_ | refine bs_ ?_ GE168.out) | exact HB.out))) : w.heap.size ≤ gb179))
             have n7_ := am_ ((by rw [hg]; exact nl_ (blk_lt (g := gb168) (o := .cells #[.string t162, .bool t163] 25 (0, 0)) (by (with_reducible repeat (first | refine kn_ ?_ _ | refine kd_ ?_ | refine ka_ ?_ _)); exact BK168.out)) : gb168 ≠ gb179))
             have n8_ := am_ ((by rw [hg]; exact Nat.ne_of_gt (blk_lt (g := gb168) (o := .cells #[.string t162, .bool t163] 25 (0, 0)) (by (with_reducible repeat (first | refine kn_ ?_ _ | refine kd_ ?_ | refine ka_ ?_ _)); exact BK168.out)) : gb179 ≠ gb168))
             clear HO160; clear HO166; clear BK168; clear HB; have HO160 := n0_; have HO166 := n1_; have BK168 := n2_; have HB := n3_; have BK179 := n4_; have GW179 := n5_; have GE179 := n6_; have NB168_179 := n7_; have NB179_168 := n8_; clear n0_ n1_ n2_ n3_ n4_ n5_ n6_ n7_ n8_; clear hb hbox hg
             refine hK.out _ _ ⟨((HB.out.cell (bl_ w _ hw172_0)).trans hw172_0), ((HB.out.cell (bl_ w _ hw172_1)).trans hw172_1), ((HB.out.cell (bl_ w _ hw172_2)).trans hw172_2), ((HB.out.cell (bl_ w _ hw173_0)).trans hw173_0), ((HB.out.cell (bl_ w _ hw173_1)).trans hw173_1), ((HB.out.cell (bl_ w _ hw173_2)).trans hw173_2)⟩ (fun hHeld => ?_)
             clear hK K
             refine norm_ (a' := ?_) ?_ ?_
             rotate_left
             ·
              show Act.put _ (some 8) _ = _
              simp only [Act.put, s1_, s2_, s3_, i64_w, i32_w]
              rfl
             refine one_ (i := 10) (N := some 68) #[true, true, true, true, true, true, true, true, true, true, true, false, false, false, true, false, false] rfl rfl (one_of HT_.out (by kernel_rfl)) (by decide) (fun K hK => ?_)
             refine goes_ Try.func12 (by kernel_rfl) rfl #[.agg #[.string ((rd_T28 l0 x3_1).f0.f0), .bool ((rd_T28 l0 x3_1).f0.f1)], .slice A172_2 ((rd_T28 l0 x3_1).f1).length c172_2] (by rfl) rfl rfl (by (try simp only [m1_, m2_, m3_]); first | done | rfl | (simp only [m4_, m5_]; rfl)) ?_
             with_reducible refine (pouchref1_Feed.calls kj1 ((rd_T28 l0 x3_1).f0.f0) ((rd_T28 l0 x3_1).f0.f1) _ _ ((rd_T28 l0 x3_1).f1) t174 t175 t176 _ ?side1 ?side2 A14.out).mono ?_
             (case side1 => repeat (first | exact (cb_ HR173_2.out HB.out) | (with_reducible refine ca_ ?_ _) | (with_reducible refine cn_ ?_ _) | (with_reducible refine cd_ ?_)))
             (case side2 => exact HC173_2.out)
             rintro e w101 ⟨v177, rfl, ho0, hb⟩
             refine ⟨_, rfl, ?_⟩
             have n0_ := am_ (rb_ (by (with_reducible repeat (first | apply ra_ | apply rn_ | apply re_)); exact HO160.out) hb)
             have n1_ := am_ (Kd.R_elder' (by (with_reducible repeat (first | apply ra_ | apply rn_ | apply re_)); exact HO166.out) (Kd.R_base ho0) hb)
             have n2_ := am_ (Kd.R_lower (Kd.R_new' ho0 (Kd.R_lt (by (with_reducible repeat (first | apply ra_ | apply rn_ | apply re_)); exact HO166.out))) (bz_ (by repeat (first | (with_reducible first | exact HB.out | apply ba_ | apply bn_ | apply bd_ | refine bs_ ?_ GE168.out | refine bs_ ?_ GE179.out) | exact HB.out))))
             have n3_ := am_ (bb_ (g := gb168) (o := .cells #[.string t162, .bool t163] 25 (0, 0)) (by (with_reducible repeat (first | refine kn_ ?_ _ | refine kd_ ?_ | refine ka_ ?_ _)); exact BK168.out) hb)
             have n4_ := am_ (bb_ (g := gb179) (o := .cells #[.string (⟨#[]⟩ : ByteArray), .bool false] 25 (0, 0)) (by (with_reducible repeat (first | refine kn_ ?_ _ | refine kd_ ?_ | refine ka_ ?_ _)); exact BK179.out) hb)
             have n5_ := am_ (bt_ (by repeat (first | (with_reducible first | exact HB.out | apply ba_ | apply bn_ | apply bd_ | refine bs_ ?_ GE168.out | refine bs_ ?_ GE179.out) | exact HB.out)) hb)
             clear HO160; clear HO166; clear BK168; clear BK179; clear HB; have HO160 := n0_; have HO166 := n1_; have HO178 := n2_; have BK168 := n3_; have BK179 := n4_; have HB := n5_; clear n0_ n1_ n2_ n3_ n4_ n5_
             (try clear hb)
             (try clear hb2)
             (try clear hk)
             (try clear hi)
             (try clear ho0)
             refine hK.out _ _ ⟨((HB.out.cell (bl_ w _ hw172_0)).trans hw172_0), ((HB.out.cell (bl_ w _ hw172_1)).trans hw172_1), ((HB.out.cell (bl_ w _ hw172_2)).trans hw172_2), ((HB.out.cell (bl_ w _ hw173_0)).trans hw173_0), ((HB.out.cell (bl_ w _ hw173_1)).trans hw173_1), ((HB.out.cell (bl_ w _ hw173_2)).trans hw173_2)⟩ (fun hHeld => ?_)
             clear hK K
             refine norm_ (a' := ?_) ?_ ?_
             rotate_left
             ·
              show Act.put _ (some 68) _ = _
              simp only [Act.put, s1_, s2_, s3_, i64_w, i32_w]
              rfl
             refine pure_ (i := 11) (N := some 57) (v := ?_) (a' := ?_) #[true, true, true, true, true, true, true, true, true, true, true, true, false, false, true, false, false] rfl rfl (any_of HT_.out (by kernel_rfl)) (fun _ _ _ h => h) (Or.inl ⟨by rfl, ?_⟩) ?_ ?_
             rotate_left
             · intro w'; go_simp; with_reducible rfl
             rotate_left
             ·
              simp only [Act.put, s1_, s2_, s3_, i64_w, i32_w]
              rfl
             refine pure_ (i := 12) (N := some 69) (v := ?_) (a' := ?_) #[true, true, true, true, true, true, true, true, true, true, true, true, true, false, true, false, false] rfl rfl (any_of HT_.out (by kernel_rfl)) (fun _ _ _ h => h) (Or.inl ⟨by rfl, ?_⟩) ?_ ?_
             rotate_left
             · intro w'; go_simp; with_reducible rfl
             rotate_left
             ·
              simp only [Act.put, s1_, s2_, s3_, i64_w, i32_w]
              rfl
             refine pure_ (i := 13) (N := some 70) (v := ?_) (a' := ?_) #[true, true, true, true, true, true, true, true, true, true, true, true, true, true, true, false, false] rfl rfl (any_of HT_.out (by kernel_rfl)) (fun _ _ _ h => h) (Or.inl ⟨by rfl, ?_⟩) ?_ ?_
             rotate_left
             · intro w'; go_simp; with_reducible rfl
             rotate_left
             ·
              simp only [Act.put, s1_, s2_, s3_, i64_w, i32_w]
              rfl
             exact norm_ (by simp only [putAll, Act.put, s1_, s2_, s3_]) (hCont (v177, gb179) _ ⟨hHeld, (by (with_reducible repeat (first | apply ra_ | apply rn_ | apply re_)); exact HO160.out), (by (with_reducible repeat (first | apply ra_ | apply rn_ | apply re_)); exact Kd.R_mono HO166.out (fun _ hk => hk.2)), (by (with_reducible repeat (first | apply ra_ | apply rn_ | apply re_)); exact Kd.R_mono HO178.out (fun _ hk => hk.2)), (by (with_reducible repeat (first | refine kn_ ?_ _ | refine kd_ ?_ | refine ka_ ?_ _)); exact BK168.out), (by (with_reducible repeat (first | refine kn_ ?_ _ | refine kd_ ?_ | refine ka_ ?_ _)); exact BK179.out), GW179.out, GE179.out, NB168_179.out, NB179_168.out, (by repeat (first | (with_reducible first | exact HB.out | apply ba_ | apply bn_ | apply bd_ | refine bs_ ?_ GE168.out | refine bs_ ?_ GE179.out) | exact HB.out))⟩)
           rintro ⟨v177, gb179⟩ w102 ⟨hS_, h0_, h1_, h2_, h3_, h4_, h5_, h6_, h7_, h8_, h9_⟩
           have n0_ : Aside0 (Kd.R (Kd.int .u8) 5 w102 w.heap.size (fun _ => True) (.slice Ao94 t158.length co94) t158) := ⟨h0_⟩
           have n1_ : Aside0 (Kd.R k46 46 w102 w.heap.size (fun k_ => some k_ ≠ (v177 : Value).ownBlock) v165 t164) := ⟨h1_⟩
           have n2_ : Aside0 (Kd.R k46 46 w102 w.heap.size (fun k_ => some k_ ≠ (v165 : Value).ownBlock) v177 t176) := ⟨h2_⟩
           have n3_ : Aside0 (w102.heap[gb168]? = some (.cells #[.string t162, .bool t163] 25 (0, 0))) := ⟨h3_⟩
           have n4_ : Aside0 (w102.heap[gb179]? = some (.cells #[.string (⟨#[]⟩ : ByteArray), .bool false] 25 (0, 0))) := ⟨h4_⟩
           have n5_ : Aside0 (w.heap.size ≤ gb179) := ⟨h5_⟩
           have n6_ : Aside0 (w.heap.size ≤ gb179) := ⟨h6_⟩
           have n7_ : Aside0 (gb168 ≠ gb179) := ⟨h7_⟩
           have n8_ : Aside0 (gb179 ≠ gb168) := ⟨h8_⟩
           have n9_ : Aside0 (Below w.heap.size w w102) := ⟨h9_⟩
           clear HO160; clear HO166; clear BK168; clear HB; clear h0_ h1_ h2_ h3_ h4_ h5_ h6_ h7_ h8_ h9_; have HO160 := n0_; have HO166 := n1_; have HO178 := n2_; have BK168 := n3_; have BK179 := n4_; have GW179 := n5_; have GE179 := n6_; have NB168_179 := n7_; have NB179_168 := n8_; have HB := n9_; clear n0_ n1_ n2_ n3_ n4_ n5_ n6_ n7_ n8_ n9_
           have hHeld : w102.cell? (ad155.add ((x3_1).toNat * 3)) = some (.string ((rd_T28 l0 x3_1).f0.f0)) ∧ w102.cell? ⟨(ad155.add ((x3_1).toNat * 3)).block, (ad155.add ((x3_1).toNat * 3)).off + 1, none⟩ = some (.bool ((rd_T28 l0 x3_1).f0.f1)) ∧ w102.cell? ⟨(ad155.add ((x3_1).toNat * 3)).block, (ad155.add ((x3_1).toNat * 3)).off + 2, none⟩ = some (.slice A172_2 ((rd_T28 l0 x3_1).f1).length c172_2) ∧ w102.cell? (ad155.add ((x3_1).toNat * 3)) = some (.string ((rd_T28 l0 x3_1).f0.f0)) ∧ w102.cell? ⟨(ad155.add ((x3_1).toNat * 3)).block, (ad155.add ((x3_1).toNat * 3)).off + 1, none⟩ = some (.bool ((rd_T28 l0 x3_1).f0.f1)) ∧ w102.cell? ⟨(ad155.add ((x3_1).toNat * 3)).block, (ad155.add ((x3_1).toNat * 3)).off + 2, none⟩ = some (.slice A172_2 ((rd_T28 l0 x3_1).f1).length c172_2) := hS_
           refine norm_ (a' := ?_) ?_ ?_
           rotate_left
           ·
            simp only [putAll, Act.put, s1_, s2_, s3_]
            rfl
           refine one_ (i := 15) (N := none) #[true, true, true, true, true, true, true, true, true, true, true, true, true, true, true, true, false] rfl rfl (one_of HT_.out (by kernel_rfl)) (by decide) (fun K hK => ?_)
           have hs103 : w102.cell? ⟨gb179, 0, none⟩ = some (.string (⟨#[]⟩ : ByteArray)) := (blk_cell BK179.out 0).trans rfl
           have hfs103 := blk_frozen BK179.out 0
           have hns103_0 := NB168_179.out
           have hms103_0 := NB179_168.out
           have hs104 : w102.cell? ⟨gb179, 1, none⟩ = some (.bool false) := (blk_cell BK179.out 1).trans rfl
           have hfs104 := blk_frozen BK179.out 1
           have hns104_0 := NB168_179.out
           have hms104_0 := NB179_168.out
           refine skip_ (w1 := ?_) (by rfl) rfl ?_ ?_
           rotate_left
           ·
            go_simp
            rfl
           refine hK.out _ _ ⟨((cf_ (p := ⟨gb179, _, none⟩) (nb_ hw172_0 GW179.out) _).trans (((cf_ (p := ⟨gb179, _, none⟩) (nb_ hw172_0 GW179.out) _).trans (hHeld.1)))), ((cf_ (p := ⟨gb179, _, none⟩) (nb_ hw172_1 GW179.out) _).trans (((cf_ (p := ⟨gb179, _, none⟩) (nb_ hw172_1 GW179.out) _).trans (hHeld.2.1)))), ((cf_ (p := ⟨gb179, _, none⟩) (nb_ hw172_2 GW179.out) _).trans (((cf_ (p := ⟨gb179, _, none⟩) (nb_ hw172_2 GW179.out) _).trans (hHeld.2.2.1)))), ((cf_ (p := ⟨gb179, _, none⟩) (nb_ hw173_0 GW179.out) _).trans (((cf_ (p := ⟨gb179, _, none⟩) (nb_ hw173_0 GW179.out) _).trans (hHeld.2.2.2.1)))), ((cf_ (p := ⟨gb179, _, none⟩) (nb_ hw173_1 GW179.out) _).trans (((cf_ (p := ⟨gb179, _, none⟩) (nb_ hw173_1 GW179.out) _).trans (hHeld.2.2.2.2.1)))), ((cf_ (p := ⟨gb179, _, none⟩) (nb_ hw173_2 GW179.out) _).trans (((cf_ (p := ⟨gb179, _, none⟩) (nb_ hw173_2 GW179.out) _).trans (hHeld.2.2.2.2.2))))⟩ (fun hHeld => ?_)
           clear hK K
           refine pure_ (i := 16) (N := some 9) (v := ?_) (a' := ?_) #[true, true, true, true, true, true, true, true, true, true, true, true, true, true, true, true, true] rfl rfl (any_of HT_.out (by kernel_rfl)) (fun _ _ _ h => h) (Or.inl ⟨by rfl, ?_⟩) ?_ ?_
           rotate_left
           · intro w'; go_simp; with_reducible rfl
           rotate_left
           ·
            simp only [Act.put, s1_, s2_, s3_, i64_w, i32_w]
            rfl
           refine done_ (done_of HT_.out (by kernel_rfl)) ?_
           try go_wp2_with (first | ((with_reducible refine gate_callee (f := 11) rfl ?_); refine goesL_ (some 72) rfl rfl Try.func11 (by kernel_rfl) rfl #[.int .i64 t167] rfl (by (try simp only [m1_, m2_, m3_]); first | done | rfl | (simp only [m4_, m5_]; rfl)) ?_; (with_reducible refine (pouchlaw1_num.calls t167 t180 _ A15.out).mono ?_); rintro e w' ⟨rfl, ⟨nd, rfl⟩⟩; refine ⟨_, rfl, ?_⟩))
           go_ret
           exact ⟨by first | rfl | (simp [errW_none, errW_some] <;> rfl) | (simp [*, errW_none, errW_some] <;> rfl), by repeat (first | (with_reducible first | exact HB.out | apply ba_ | apply bn_ | apply bd_ | refine bs_ ?_ GE168.out | refine bs_ ?_ GE179.out) | exact HB.out)⟩
         ·
          replace c13 := Bool.eq_false_iff.mpr c13
          subst c13
          have H1 : ((pouchlaw1_num.f t167).bind fun t171 => (if t171 = 1 then (if (t164.length : Int) > 0 then (some false) else (pouchlaw1_FrameFeeds.l0 kj1 l0 (wrap64 (x3_1 + 1)))) else (some false))) = some r := by rw [if_neg (show ¬ (false = true) by decide)] at H; exact H
          clear H; have H := H1; clear H1
          replace H := Option.bind_eq_some_iff.mp H
          obtain ⟨t171, A1050, H⟩ := H
          replace H : (if t171 = 1 then (if (t164.length : Int) > 0 then (some false) else (pouchlaw1_FrameFeeds.l0 kj1 l0 (wrap64 (x3_1 + 1)))) else (some false)) = some r := H
          have A105 := am_ A1050
          clear A1050
          by_cases c106 : t171 = 1
          ·
           rw [if_pos c106] at H
           have c106b0 : (t171 == 1) = true := beq_iff_eq.mpr c106
           have c106b1 : (t171 != 1) = false := bne_eq_false_iff_eq.mpr c106
           clear c106
           by_cases c107 : (t164.length : Int) > 0
           ·
            rw [if_pos c107] at H
            have c107b0 : decide (0 < (t164.length : Int)) = true := decide_eq_true c107
            have c107b1 : decide (0 < t164.length) = true := decide_eq_true (by omega)
            clear c107
            obtain rfl := Option.some.inj H
            have p155 : 0 ≤ (x3_1 : Int) := od_ (by first | (with_reducible assumption) | assumption)
            have q155 : x3_1 < (l0.length : Int) := od_ (by first | (with_reducible assumption) | assumption)
            obtain ⟨ad155, A155_2, c155_2, e155, hx155_0, hx155_1, hx155_2, hl155_2, hi155_2⟩ := at_T28 HR0.out x3_1 p155 q155
            cases e155
            replace hx155_0 := (HB.out.cell (bl_ w _ hx155_0)).trans hx155_0
            replace hx155_1 := (HB.out.cell (bl_ w _ hx155_1)).trans hx155_1
            replace hx155_2 := (HB.out.cell (bl_ w _ hx155_2)).trans hx155_2
            have HR155_2 := am_ hi155_2
            have HC155_2 := am_ hl155_2
            clear hi155_2 hl155_2
            replace p155 := eq_true p155
            replace q155 := eq_true q155
            go_wp2_with (first | ((with_reducible refine gate_callee (f := 7) rfl ?_); refine goesL_ (some 24) rfl rfl Try.func7 (by kernel_rfl) rfl #[.agg #[.string ((rd_T28 l0 x3_1).f0.f0), .bool ((rd_T28 l0 x3_1).f0.f1), .slice A155_2 ((rd_T28 l0 x3_1).f1).length c155_2]] rfl (by (try simp only [m1_, m2_, m3_]); first | done | rfl | (simp only [m4_, m5_]; rfl)) ?_; (with_reducible refine (pouchlaw1_heavy.calls ((rd_T28 l0 x3_1).f0.f0) ((rd_T28 l0 x3_1).f0.f1) _ _ ((rd_T28 l0 x3_1).f1) false _ ?side1 ?side2 A7.out).mono ?_); (case side1 => repeat (first | exact (cb_ HR155_2.out HB.out) | (with_reducible refine ca_ ?_ _) | (with_reducible refine cn_ ?_ _) | (with_reducible refine cd_ ?_))); (case side2 => exact HC155_2.out); rintro e w108 ⟨rfl, hb⟩; refine ⟨_, rfl, ?_⟩; have n0_ := am_ (bt_ (by repeat (first | (with_reducible first | exact HB.out | apply ba_ | apply bn_ | apply bd_) | exact HB.out)) hb); clear HB; have HB := n0_; clear n0_; (try clear hb); (try clear hb2); (try clear hk); (try clear hi); have p157 : 0 ≤ (x3_1 : Int) := od_ (by first | (with_reducible assumption) | assumption); have q157 : x3_1 < (l0.length : Int) := od_ (by first | (with_reducible assumption) | assumption); obtain ⟨ad157, A157_2, c157_2, e157, hx157_0, hx157_1, hx157_2, hl157_2, hi157_2⟩ := at_T28 HR0.out x3_1 p157 q157; obtain rfl : ad155 = ad157 := (by injection e157); replace hx157_0 := (HB.out.cell (bl_ w _ hx157_0)).trans hx157_0; replace hx157_1 := (HB.out.cell (bl_ w _ hx157_1)).trans hx157_1; replace hx157_2 := (HB.out.cell (bl_ w _ hx157_2)).trans hx157_2; have HR157_2 := am_ hi157_2; have HC157_2 := am_ hl157_2; clear hi157_2 hl157_2; replace p157 := eq_true p157; replace q157 := eq_true q157) | ((with_reducible refine gate_callee (f := 8) rfl ?_); refine goesL_ (some 30) rfl rfl Try.func8 (by kernel_rfl) rfl #[.slice A157_2 ((rd_T28 l0 x3_1).f1).length c157_2] rfl (by (try simp only [m1_, m2_, m3_]); first | done | rfl | (simp only [m4_, m5_]; rfl)) ?_; (with_reducible refine (pouchref0_CopyBytes.calls kj1 _ _ ((rd_T28 l0 x3_1).f1) t158 _ ?side1 ?side2 A10.out).mono ?_); (case side1 => repeat (first | exact (cb_ HR157_2.out HB.out) | (with_reducible refine ca_ ?_ _) | (with_reducible refine cn_ ?_ _) | (with_reducible refine cd_ ?_))); (case side2 => exact HC157_2.out); rintro e w109 ⟨v159, rfl, ho0, hb⟩; refine ⟨_, rfl, ?_⟩; have n0_ := am_ (Kd.R_lower ho0 (bz_ (by repeat (first | (with_reducible first | exact HB.out | apply ba_ | apply bn_ | apply bd_) | exact HB.out)))); have n1_ := am_ (bt_ (by repeat (first | (with_reducible first | exact HB.out | apply ba_ | apply bn_ | apply bd_) | exact HB.out)) hb); clear HB; have HO160 := n0_; have HB := n1_; clear n0_ n1_; (try clear hb); (try clear hb2); (try clear hk); (try clear hi); (try clear ho0); have p161 : 0 ≤ (x3_1 : Int) := od_ (by first | (with_reducible assumption) | assumption); have q161 : x3_1 < (l0.length : Int) := od_ (by first | (with_reducible assumption) | assumption); obtain ⟨ad161, A161_2, c161_2, e161, hx161_0, hx161_1, hx161_2, hl161_2, hi161_2⟩ := at_T28 HR0.out x3_1 p161 q161; obtain rfl : ad155 = ad161 := (by injection e161); replace hx161_0 := (HB.out.cell (bl_ w _ hx161_0)).trans hx161_0; replace hx161_1 := (HB.out.cell (bl_ w _ hx161_1)).trans hx161_1; replace hx161_2 := (HB.out.cell (bl_ w _ hx161_2)).trans hx161_2; have HR161_2 := am_ hi161_2; have HC161_2 := am_ hl161_2; clear hi161_2 hl161_2; replace p161 := eq_true p161; replace q161 := eq_true q161; obtain ⟨Ao110, co110, eo110⟩ := Kd.R_slice HO160.out; subst eo110) | ((with_reducible refine gate_callee (f := 9) rfl ?_); refine goesL_ (some 38) rfl rfl Try.func9 (by kernel_rfl) rfl #[.agg #[.string ((rd_T28 l0 x3_1).f0.f0), .bool ((rd_T28 l0 x3_1).f0.f1)], .slice Ao110 t158.length co110] rfl (by (try simp only [m1_, m2_, m3_]); first | done | rfl | (simp only [m4_, m5_]; rfl)) ?_; (with_reducible refine (frame_Feed.calls kj1 ((rd_T28 l0 x3_1).f0.f0) ((rd_T28 l0 x3_1).f0.f1) _ _ t158 t162 t163 t164 t167 _ ?side1 ?side2 ?side3 A11.out).mono ?_); (case side1 => repeat (first | exact (Kd.R_reads' HO160.out).2.2 | (with_reducible refine ca_ ?_ _) | (with_reducible refine cn_ ?_ _) | (with_reducible refine cd_ ?_))); (case side2 => exact (Kd.R_reads' HO160.out).2.1); (case side3 => exact GrOk.below hG (by repeat (first | (with_reducible first | exact HB.out | apply ba_ | apply bn_ | apply bd_) | exact HB.out))); rintro e w111 ⟨v165, rfl, ho0, hb⟩; refine ⟨_, rfl, ?_⟩; have n0_ := am_ (rb_ (by (with_reducible repeat (first | apply ra_ | apply rn_ | apply re_)); exact HO160.out) hb); have n1_ := am_ (Kd.R_lower ho0 (bz_ (by repeat (first | (with_reducible first | exact HB.out | apply ba_ | apply bn_ | apply bd_) | exact HB.out)))); have n2_ := am_ (bt_ (by repeat (first | (with_reducible first | exact HB.out | apply ba_ | apply bn_ | apply bd_) | exact HB.out)) hb); clear HO160; clear HB; have HO160 := n0_; have HO166 := n1_; have HB := n2_; clear n0_ n1_ n2_; (try clear hb); (try clear hb2); (try clear hk); (try clear hi); (try clear ho0)) | ((with_reducible refine gate_dst (N := 5) rfl ?_); (try (refine gate_guard (by rfl) ?_; dsimp only)); refine box_event ?hg (N := 5) ?hd (cs := #[.string (⟨#[]⟩ : ByteArray), .bool false]) (t := 25) ?hr ?_; (case hd => rfl); (case hg => rfl); (case hr => first | (go_simp; done) | (go_simp; rfl)); intro gb168 hg w112 hbox hb; have n0_ := am_ (rb_ (by (with_reducible repeat (first | apply ra_ | apply rn_ | apply re_)); exact HO160.out) hb); have n1_ := am_ (rb_ (by (with_reducible repeat (first | apply ra_ | apply rn_ | apply re_)); exact HO166.out) hb); have n2_ := am_ (bt_ (by repeat (first | (with_reducible first | exact HB.out | apply ba_ | apply bn_ | apply bd_) | exact HB.out)) hb); have n3_ := am_ (hbox); have n4_ := am_ ((by rw [hg]; exact (bz_ (by repeat (first | (with_reducible first | exact HB.out | apply ba_ | apply bn_ | apply bd_) | exact HB.out))) : w.heap.size ≤ gb168)); have n5_ := am_ ((by rw [hg]; exact (bz_ (by repeat (first | (with_reducible first | exact HB.out | apply ba_ | apply bn_ | apply bd_) | exact HB.out))) : w.heap.size ≤ gb168)); clear HO160; clear HO166; clear HB; have HO160 := n0_; have HO166 := n1_; have HB := n2_; have BK168 := n3_; have GW168 := n4_; have GE168 := n5_; clear n0_ n1_ n2_ n3_ n4_ n5_; clear hb hbox hg; have hcz113_0 : w112.cell? ⟨gb168, 0, none⟩ = some (.string (⟨#[]⟩ : ByteArray)) := (blk_cell BK168.out 0).trans rfl; have hcz113_1 : w112.cell? ⟨gb168, 1, none⟩ = some (.bool false) := (blk_cell BK168.out 1).trans rfl; have hfz113_0 := blk_frozen BK168.out 0; have hfz113_1 := blk_frozen BK168.out 1; have p169 : 0 ≤ (x3_1 : Int) := od_ (by first | (with_reducible assumption) | assumption); have q169 : x3_1 < (l0.length : Int) := od_ (by first | (with_reducible assumption) | assumption); obtain ⟨ad169, A169_2, c169_2, e169, hx169_0, hx169_1, hx169_2, hl169_2, hi169_2⟩ := at_T28 HR0.out x3_1 p169 q169; obtain rfl : ad155 = ad169 := (by injection e169); have hn169_0 : ad155.block ≠ gb168 := nl_ (ll_ (by have := bl_ _ _ hx169_0; first | rwa [ab_] at this | exact this) GW168.out); have hn169_1 : ad155.block ≠ gb168 := nl_ (ll_ (by have := bl_ _ _ hx169_0; first | rwa [ab_] at this | exact this) GW168.out); replace hx169_0 := (HB.out.cell (bl_ w _ hx169_0)).trans hx169_0; replace hx169_1 := (HB.out.cell (bl_ w _ hx169_1)).trans hx169_1; replace hx169_2 := (HB.out.cell (bl_ w _ hx169_2)).trans hx169_2; have HR169_2 := am_ hi169_2; have HC169_2 := am_ hl169_2; clear hi169_2 hl169_2; replace hx169_0 := (cf_ (p := ⟨gb168, 0, none⟩) (by first | (rw [ab_]; exact hn169_0) | (show (Addr.add _ _).block ≠ _; rw [ab_]; exact hn169_0) | exact hn169_0) (.string t162)).trans hx169_0; replace hx169_1 := (cf_ (p := ⟨gb168, 0, none⟩) (by first | (rw [ab_]; exact hn169_0) | (show (Addr.add _ _).block ≠ _; rw [ab_]; exact hn169_0) | exact hn169_0) (.string t162)).trans hx169_1; replace hx169_2 := (cf_ (p := ⟨gb168, 0, none⟩) (by first | (rw [ab_]; exact hn169_0) | (show (Addr.add _ _).block ≠ _; rw [ab_]; exact hn169_0) | exact hn169_0) (.string t162)).trans hx169_2; replace hx169_0 := (cf_ (p := ⟨gb168, 1, none⟩) (by first | (rw [ab_]; exact hn169_1) | (show (Addr.add _ _).block ≠ _; rw [ab_]; exact hn169_1) | exact hn169_1) (.bool t163)).trans hx169_0; replace hx169_1 := (cf_ (p := ⟨gb168, 1, none⟩) (by first | (rw [ab_]; exact hn169_1) | (show (Addr.add _ _).block ≠ _; rw [ab_]; exact hn169_1) | exact hn169_1) (.bool t163)).trans hx169_1; replace hx169_2 := (cf_ (p := ⟨gb168, 1, none⟩) (by first | (rw [ab_]; exact hn169_1) | (show (Addr.add _ _).block ≠ _; rw [ab_]; exact hn169_1) | exact hn169_1) (.bool t163)).trans hx169_2; clear hn169_0; clear hn169_1; replace p169 := eq_true p169; replace q169 := eq_true q169) | ((with_reducible refine gate_callee (f := 10) rfl ?_); refine goesL_ (some 47) rfl rfl Try.func10 (by kernel_rfl) rfl #[.agg #[.string ((rd_T28 l0 x3_1).f0.f0), .bool ((rd_T28 l0 x3_1).f0.f1)]] rfl (by (try simp only [m1_, m2_, m3_]); first | done | rfl | (simp only [m4_, m5_]; rfl)) ?_; (with_reducible refine (pouchref1_Framer.calls kj1 ((rd_T28 l0 x3_1).f0.f0) ((rd_T28 l0 x3_1).f0.f1) false _ A12.out).mono ?_); rintro e w114 ⟨rfl, hb⟩; refine ⟨_, rfl, ?_⟩; have n0_ := am_ (rb_ (by (with_reducible repeat (first | apply ra_ | apply rn_ | apply re_)); exact (Kd.R_mono (Kd.R_far (p := ⟨gb168, 1, none⟩) (Kd.R_far (p := ⟨gb168, 0, none⟩) (Kd.R_types HO160.out BK168.out (by decide)) (fun _ hk => hk.2) (.string t162)) (fun _ hk => hk.2) (.bool t163)) (fun _ h_ => h_.1))) hb); have n1_ := am_ (rb_ (by (with_reducible repeat (first | apply ra_ | apply rn_ | apply re_)); exact (Kd.R_mono (Kd.R_far (p := ⟨gb168, 1, none⟩) (Kd.R_far (p := ⟨gb168, 0, none⟩) (Kd.R_types HO166.out BK168.out (by decide)) (fun _ hk => hk.2) (.string t162)) (fun _ hk => hk.2) (.bool t163)) (fun _ h_ => h_.1))) hb); have n2_ := am_ (bb_ (g := gb168) (o := .cells #[.string t162, .bool t163] 25 (0, 0)) (by (with_reducible repeat (first | refine kn_ ?_ _ | refine kd_ ?_ | refine ka_ ?_ _)); refine blk_put (cs := #[.string t162, .bool false]) ?_ 1 _ rfl; (with_reducible repeat (first | refine kn_ ?_ _ | refine kd_ ?_ | refine ka_ ?_ _)); refine blk_put (cs := #[.string (⟨#[]⟩ : ByteArray), .bool false]) ?_ 0 _ rfl; (with_reducible repeat (first | refine kn_ ?_ _ | refine kd_ ?_ | refine ka_ ?_ _)); exact BK168.out) hb); have n3_ := am_ (bt_ (by repeat (first | (with_reducible first | exact HB.out | apply ba_ | apply bn_ | apply bd_ | refine bs_ ?_ GE168.out) | exact HB.out)) hb); clear HO160; clear HO166; clear BK168; clear HB; have HO160 := n0_; have HO166 := n1_; have BK168 := n2_; have HB := n3_; clear n0_ n1_ n2_ n3_; (try clear hb); (try clear hb2); (try clear hk); (try clear hi)) | ((with_reducible refine gate_callee (f := 11) rfl ?_); refine goesL_ (some 50) rfl rfl Try.func11 (by kernel_rfl) rfl #[.int .i64 t167] rfl (by (try simp only [m1_, m2_, m3_]); first | done | rfl | (simp only [m4_, m5_]; rfl)) ?_; (with_reducible refine (pouchlaw1_num.calls t167 t171 _ A105.out).mono ?_); rintro e w' ⟨rfl, ⟨nd, rfl⟩⟩; refine ⟨_, rfl, ?_⟩; obtain ⟨Ao115, co115, eo115⟩ := Kd.R_slice HO166.out; subst eo115))
            go_ret
            exact ⟨by first | rfl | (simp [errW_none, errW_some] <;> rfl) | (simp [*, errW_none, errW_some] <;> rfl), by repeat (first | (with_reducible first | exact HB.out | apply ba_ | apply bn_ | apply bd_ | refine bs_ ?_ GE168.out) | exact HB.out)⟩
           ·
            rw [if_neg c107] at H
            have c107b0 : decide (0 < (t164.length : Int)) = false := decide_eq_false c107
            have c107b1 : decide (0 < t164.length) = false := decide_eq_false (by omega)
            clear c107
            have H' := am_ H
            clear H
            have p155 : 0 ≤ (x3_1 : Int) := od_ (by first | (with_reducible assumption) | assumption)
            have q155 : x3_1 < (l0.length : Int) := od_ (by first | (with_reducible assumption) | assumption)
            obtain ⟨ad155, A155_2, c155_2, e155, hx155_0, hx155_1, hx155_2, hl155_2, hi155_2⟩ := at_T28 HR0.out x3_1 p155 q155
            cases e155
            replace hx155_0 := (HB.out.cell (bl_ w _ hx155_0)).trans hx155_0
            replace hx155_1 := (HB.out.cell (bl_ w _ hx155_1)).trans hx155_1
            replace hx155_2 := (HB.out.cell (bl_ w _ hx155_2)).trans hx155_2
            have HR155_2 := am_ hi155_2
            have HC155_2 := am_ hl155_2
            clear hi155_2 hl155_2
            replace p155 := eq_true p155
            replace q155 := eq_true q155
            go_wp2_with (first | ((with_reducible refine gate_callee (f := 7) rfl ?_); refine goesL_ (some 24) rfl rfl Try.func7 (by kernel_rfl) rfl #[.agg #[.string ((rd_T28 l0 x3_1).f0.f0), .bool ((rd_T28 l0 x3_1).f0.f1), .slice A155_2 ((rd_T28 l0 x3_1).f1).length c155_2]] rfl (by (try simp only [m1_, m2_, m3_]); first | done | rfl | (simp only [m4_, m5_]; rfl)) ?_; (with_reducible refine (pouchlaw1_heavy.calls ((rd_T28 l0 x3_1).f0.f0) ((rd_T28 l0 x3_1).f0.f1) _ _ ((rd_T28 l0 x3_1).f1) false _ ?side1 ?side2 A7.out).mono ?_); (case side1 => repeat (first | exact (cb_ HR155_2.out HB.out) | (with_reducible refine ca_ ?_ _) | (with_reducible refine cn_ ?_ _) | (with_reducible refine cd_ ?_))); (case side2 => exact HC155_2.out); rintro e w116 ⟨rfl, hb⟩; refine ⟨_, rfl, ?_⟩; have n0_ := am_ (bt_ (by repeat (first | (with_reducible first | exact HB.out | apply ba_ | apply bn_ | apply bd_) | exact HB.out)) hb); clear HB; have HB := n0_; clear n0_; (try clear hb); (try clear hb2); (try clear hk); (try clear hi); have p157 : 0 ≤ (x3_1 : Int) := od_ (by first | (with_reducible assumption) | assumption); have q157 : x3_1 < (l0.length : Int) := od_ (by first | (with_reducible assumption) | assumption); obtain ⟨ad157, A157_2, c157_2, e157, hx157_0, hx157_1, hx157_2, hl157_2, hi157_2⟩ := at_T28 HR0.out x3_1 p157 q157; obtain rfl : ad155 = ad157 := (by injection e157); replace hx157_0 := (HB.out.cell (bl_ w _ hx157_0)).trans hx157_0; replace hx157_1 := (HB.out.cell (bl_ w _ hx157_1)).trans hx157_1; replace hx157_2 := (HB.out.cell (bl_ w _ hx157_2)).trans hx157_2; have HR157_2 := am_ hi157_2; have HC157_2 := am_ hl157_2; clear hi157_2 hl157_2; replace p157 := eq_true p157; replace q157 := eq_true q157) | ((with_reducible refine gate_callee (f := 8) rfl ?_); refine goesL_ (some 30) rfl rfl Try.func8 (by kernel_rfl) rfl #[.slice A157_2 ((rd_T28 l0 x3_1).f1).length c157_2] rfl (by (try simp only [m1_, m2_, m3_]); first | done | rfl | (simp only [m4_, m5_]; rfl)) ?_; (with_reducible refine (pouchref0_CopyBytes.calls kj1 _ _ ((rd_T28 l0 x3_1).f1) t158 _ ?side1 ?side2 A10.out).mono ?_); (case side1 => repeat (first | exact (cb_ HR157_2.out HB.out) | (with_reducible refine ca_ ?_ _) | (with_reducible refine cn_ ?_ _) | (with_reducible refine cd_ ?_))); (case side2 => exact HC157_2.out); rintro e w117 ⟨v159, rfl, ho0, hb⟩; refine ⟨_, rfl, ?_⟩; have n0_ := am_ (Kd.R_lower ho0 (bz_ (by repeat (first | (with_reducible first | exact HB.out | apply ba_ | apply bn_ | apply bd_) | exact HB.out)))); have n1_ := am_ (bt_ (by repeat (first | (with_reducible first | exact HB.out | apply ba_ | apply bn_ | apply bd_) | exact HB.out)) hb); clear HB; have HO160 := n0_; have HB := n1_; clear n0_ n1_; (try clear hb); (try clear hb2); (try clear hk); (try clear hi); (try clear ho0); have p161 : 0 ≤ (x3_1 : Int) := od_ (by first | (with_reducible assumption) | assumption); have q161 : x3_1 < (l0.length : Int) := od_ (by first | (with_reducible assumption) | assumption); obtain ⟨ad161, A161_2, c161_2, e161, hx161_0, hx161_1, hx161_2, hl161_2, hi161_2⟩ := at_T28 HR0.out x3_1 p161 q161; obtain rfl : ad155 = ad161 := (by injection e161); replace hx161_0 := (HB.out.cell (bl_ w _ hx161_0)).trans hx161_0; replace hx161_1 := (HB.out.cell (bl_ w _ hx161_1)).trans hx161_1; replace hx161_2 := (HB.out.cell (bl_ w _ hx161_2)).trans hx161_2; have HR161_2 := am_ hi161_2; have HC161_2 := am_ hl161_2; clear hi161_2 hl161_2; replace p161 := eq_true p161; replace q161 := eq_true q161; obtain ⟨Ao118, co118, eo118⟩ := Kd.R_slice HO160.out; subst eo118) | ((with_reducible refine gate_callee (f := 9) rfl ?_); refine goesL_ (some 38) rfl rfl Try.func9 (by kernel_rfl) rfl #[.agg #[.string ((rd_T28 l0 x3_1).f0.f0), .bool ((rd_T28 l0 x3_1).f0.f1)], .slice Ao118 t158.length co118] rfl (by (try simp only [m1_, m2_, m3_]); first | done | rfl | (simp only [m4_, m5_]; rfl)) ?_; (with_reducible refine (frame_Feed.calls kj1 ((rd_T28 l0 x3_1).f0.f0) ((rd_T28 l0 x3_1).f0.f1) _ _ t158 t162 t163 t164 t167 _ ?side1 ?side2 ?side3 A11.out).mono ?_); (case side1 => repeat (first | exact (Kd.R_reads' HO160.out).2.2 | (with_reducible refine ca_ ?_ _) | (with_reducible refine cn_ ?_ _) | (with_reducible refine cd_ ?_))); (case side2 => exact (Kd.R_reads' HO160.out).2.1); (case side3 => exact GrOk.below hG (by repeat (first | (with_reducible first | exact HB.out | apply ba_ | apply bn_ | apply bd_) | exact HB.out))); rintro e w119 ⟨v165, rfl, ho0, hb⟩; refine ⟨_, rfl, ?_⟩; have n0_ := am_ (rb_ (by (with_reducible repeat (first | apply ra_ | apply rn_ | apply re_)); exact HO160.out) hb); have n1_ := am_ (Kd.R_lower ho0 (bz_ (by repeat (first | (with_reducible first | exact HB.out | apply ba_ | apply bn_ | apply bd_) | exact HB.out)))); have n2_ := am_ (bt_ (by repeat (first | (with_reducible first | exact HB.out | apply ba_ | apply bn_ | apply bd_) | exact HB.out)) hb); clear HO160; clear HB; have HO160 := n0_; have HO166 := n1_; have HB := n2_; clear n0_ n1_ n2_; (try clear hb); (try clear hb2); (try clear hk); (try clear hi); (try clear ho0)) | ((with_reducible refine gate_dst (N := 5) rfl ?_); (try (refine gate_guard (by rfl) ?_; dsimp only)); refine box_event ?hg (N := 5) ?hd (cs := #[.string (⟨#[]⟩ : ByteArray), .bool false]) (t := 25) ?hr ?_; (case hd => rfl); (case hg => rfl); (case hr => first | (go_simp; done) | (go_simp; rfl)); intro gb168 hg w120 hbox hb; have n0_ := am_ (rb_ (by (with_reducible repeat (first | apply ra_ | apply rn_ | apply re_)); exact HO160.out) hb); have n1_ := am_ (rb_ (by (with_reducible repeat (first | apply ra_ | apply rn_ | apply re_)); exact HO166.out) hb); have n2_ := am_ (bt_ (by repeat (first | (with_reducible first | exact HB.out | apply ba_ | apply bn_ | apply bd_) | exact HB.out)) hb); have n3_ := am_ (hbox); have n4_ := am_ ((by rw [hg]; exact (bz_ (by repeat (first | (with_reducible first | exact HB.out | apply ba_ | apply bn_ | apply bd_) | exact HB.out))) : w.heap.size ≤ gb168)); have n5_ := am_ ((by rw [hg]; exact (bz_ (by repeat (first | (with_reducible first | exact HB.out | apply ba_ | apply bn_ | apply bd_) | exact HB.out))) : w.heap.size ≤ gb168)); clear HO160; clear HO166; clear HB; have HO160 := n0_; have HO166 := n1_; have HB := n2_; have BK168 := n3_; have GW168 := n4_; have GE168 := n5_; clear n0_ n1_ n2_ n3_ n4_ n5_; clear hb hbox hg; have hcz121_0 : w120.cell? ⟨gb168, 0, none⟩ = some (.string (⟨#[]⟩ : ByteArray)) := (blk_cell BK168.out 0).trans rfl; have hcz121_1 : w120.cell? ⟨gb168, 1, none⟩ = some (.bool false) := (blk_cell BK168.out 1).trans rfl; have hfz121_0 := blk_frozen BK168.out 0; have hfz121_1 := blk_frozen BK168.out 1; have p169 : 0 ≤ (x3_1 : Int) := od_ (by first | (with_reducible assumption) | assumption); have q169 : x3_1 < (l0.length : Int) := od_ (by first | (with_reducible assumption) | assumption); obtain ⟨ad169, A169_2, c169_2, e169, hx169_0, hx169_1, hx169_2, hl169_2, hi169_2⟩ := at_T28 HR0.out x3_1 p169 q169; obtain rfl : ad155 = ad169 := (by injection e169); have hn169_0 : ad155.block ≠ gb168 := nl_ (ll_ (by have := bl_ _ _ hx169_0; first | rwa [ab_] at this | exact this) GW168.out); have hn169_1 : ad155.block ≠ gb168 := nl_ (ll_ (by have := bl_ _ _ hx169_0; first | rwa [ab_] at this | exact this) GW168.out); replace hx169_0 := (HB.out.cell (bl_ w _ hx169_0)).trans hx169_0; replace hx169_1 := (HB.out.cell (bl_ w _ hx169_1)).trans hx169_1; replace hx169_2 := (HB.out.cell (bl_ w _ hx169_2)).trans hx169_2; have HR169_2 := am_ hi169_2; have HC169_2 := am_ hl169_2; clear hi169_2 hl169_2; replace hx169_0 := (cf_ (p := ⟨gb168, 0, none⟩) (by first | (rw [ab_]; exact hn169_0) | (show (Addr.add _ _).block ≠ _; rw [ab_]; exact hn169_0) | exact hn169_0) (.string t162)).trans hx169_0; replace hx169_1 := (cf_ (p := ⟨gb168, 0, none⟩) (by first | (rw [ab_]; exact hn169_0) | (show (Addr.add _ _).block ≠ _; rw [ab_]; exact hn169_0) | exact hn169_0) (.string t162)).trans hx169_1; replace hx169_2 := (cf_ (p := ⟨gb168, 0, none⟩) (by first | (rw [ab_]; exact hn169_0) | (show (Addr.add _ _).block ≠ _; rw [ab_]; exact hn169_0) | exact hn169_0) (.string t162)).trans hx169_2; replace hx169_0 := (cf_ (p := ⟨gb168, 1, none⟩) (by first | (rw [ab_]; exact hn169_1) | (show (Addr.add _ _).block ≠ _; rw [ab_]; exact hn169_1) | exact hn169_1) (.bool t163)).trans hx169_0; replace hx169_1 := (cf_ (p := ⟨gb168, 1, none⟩) (by first | (rw [ab_]; exact hn169_1) | (show (Addr.add _ _).block ≠ _; rw [ab_]; exact hn169_1) | exact hn169_1) (.bool t163)).trans hx169_1; replace hx169_2 := (cf_ (p := ⟨gb168, 1, none⟩) (by first | (rw [ab_]; exact hn169_1) | (show (Addr.add _ _).block ≠ _; rw [ab_]; exact hn169_1) | exact hn169_1) (.bool t163)).trans hx169_2; clear hn169_0; clear hn169_1; replace p169 := eq_true p169; replace q169 := eq_true q169) | ((with_reducible refine gate_callee (f := 10) rfl ?_); refine goesL_ (some 47) rfl rfl Try.func10 (by kernel_rfl) rfl #[.agg #[.string ((rd_T28 l0 x3_1).f0.f0), .bool ((rd_T28 l0 x3_1).f0.f1)]] rfl (by (try simp only [m1_, m2_, m3_]); first | done | rfl | (simp only [m4_, m5_]; rfl)) ?_; (with_reducible refine (pouchref1_Framer.calls kj1 ((rd_T28 l0 x3_1).f0.f0) ((rd_T28 l0 x3_1).f0.f1) false _ A12.out).mono ?_); rintro e w122 ⟨rfl, hb⟩; refine ⟨_, rfl, ?_⟩; have n0_ := am_ (rb_ (by (with_reducible repeat (first | apply ra_ | apply rn_ | apply re_)); exact (Kd.R_mono (Kd.R_far (p := ⟨gb168, 1, none⟩) (Kd.R_far (p := ⟨gb168, 0, none⟩) (Kd.R_types HO160.out BK168.out (by decide)) (fun _ hk => hk.2) (.string t162)) (fun _ hk => hk.2) (.bool t163)) (fun _ h_ => h_.1))) hb); have n1_ := am_ (rb_ (by (with_reducible repeat (first | apply ra_ | apply rn_ | apply re_)); exact (Kd.R_mono (Kd.R_far (p := ⟨gb168, 1, none⟩) (Kd.R_far (p := ⟨gb168, 0, none⟩) (Kd.R_types HO166.out BK168.out (by decide)) (fun _ hk => hk.2) (.string t162)) (fun _ hk => hk.2) (.bool t163)) (fun _ h_ => h_.1))) hb); have n2_ := am_ (bb_ (g := gb168) (o := .cells #[.string t162, .bool t163] 25 (0, 0)) (by (with_reducible repeat (first | refine kn_ ?_ _ | refine kd_ ?_ | refine ka_ ?_ _)); refine blk_put (cs := #[.string t162, .bool false]) ?_ 1 _ rfl; (with_reducible repeat (first | refine kn_ ?_ _ | refine kd_ ?_ | refine ka_ ?_ _)); refine blk_put (cs := #[.string (⟨#[]⟩ : ByteArray), .bool false]) ?_ 0 _ rfl; (with_reducible repeat (first | refine kn_ ?_ _ | refine kd_ ?_ | refine ka_ ?_ _)); exact BK168.out) hb); have n3_ := am_ (bt_ (by repeat (first | (with_reducible first | exact HB.out | apply ba_ | apply bn_ | apply bd_ | refine bs_ ?_ GE168.out) | exact HB.out)) hb); clear HO160; clear HO166; clear BK168; clear HB; have HO160 := n0_; have HO166 := n1_; have BK168 := n2_; have HB := n3_; clear n0_ n1_ n2_ n3_; (try clear hb); (try clear hb2); (try clear hk); (try clear hi)) | ((with_reducible refine gate_callee (f := 11) rfl ?_); refine goesL_ (some 50) rfl rfl Try.func11 (by kernel_rfl) rfl #[.int .i64 t167] rfl (by (try simp only [m1_, m2_, m3_]); first | done | rfl | (simp only [m4_, m5_]; rfl)) ?_; (with_reducible refine (pouchlaw1_num.calls t167 t171 _ A105.out).mono ?_); rintro e w' ⟨rfl, ⟨nd, rfl⟩⟩; refine ⟨_, rfl, ?_⟩; obtain ⟨Ao123, co123, eo123⟩ := Kd.R_slice HO166.out; subst eo123))
            go_roundg kj1
            case measure => have := HK1.out; have := HJ1.out; omega
            case rel => exact ⟨(wrap64 (x3_1 + 1)), (by first | rfl | (simp; done) | (simp [*]; done)), H', ⟨by have := HK1.out; have := HJ1.out; omega⟩, ⟨by repeat (first | (with_reducible first | exact HB.out | apply ba_ | apply bn_ | apply bd_ | refine bs_ ?_ GE168.out) | exact HB.out)⟩⟩
          ·
           rw [if_neg c106] at H
           have c106b0 : (t171 == 1) = false := beq_eq_false_iff_ne.mpr c106
           have c106b1 : (t171 != 1) = true := bne_iff_ne.mpr c106
           obtain rfl := Option.some.inj H
           have p155 : 0 ≤ (x3_1 : Int) := od_ (by first | (with_reducible assumption) | assumption)
           have q155 : x3_1 < (l0.length : Int) := od_ (by first | (with_reducible assumption) | assumption)
           obtain ⟨ad155, A155_2, c155_2, e155, hx155_0, hx155_1, hx155_2, hl155_2, hi155_2⟩ := at_T28 HR0.out x3_1 p155 q155
           cases e155
           replace hx155_0 := (HB.out.cell (bl_ w _ hx155_0)).trans hx155_0
           replace hx155_1 := (HB.out.cell (bl_ w _ hx155_1)).trans hx155_1
           replace hx155_2 := (HB.out.cell (bl_ w _ hx155_2)).trans hx155_2
           have HR155_2 := am_ hi155_2
           have HC155_2 := am_ hl155_2
           clear hi155_2 hl155_2
           replace p155 := eq_true p155
           replace q155 := eq_true q155
           go_wp2_with (first | ((with_reducible refine gate_callee (f := 7) rfl ?_); refine goesL_ (some 24) rfl rfl Try.func7 (by kernel_rfl) rfl #[.agg #[.string ((rd_T28 l0 x3_1).f0.f0), .bool ((rd_T28 l0 x3_1).f0.f1), .slice A155_2 ((rd_T28 l0 x3_1).f1).length c155_2]] rfl (by (try simp only [m1_, m2_, m3_]); first | done | rfl | (simp only [m4_, m5_]; rfl)) ?_; (with_reducible refine (pouchlaw1_heavy.calls ((rd_T28 l0 x3_1).f0.f0) ((rd_T28 l0 x3_1).f0.f1) _ _ ((rd_T28 l0 x3_1).f1) false _ ?side1 ?side2 A7.out).mono ?_); (case side1 => repeat (first | exact (cb_ HR155_2.out HB.out) | (with_reducible refine ca_ ?_ _) | (with_reducible refine cn_ ?_ _) | (with_reducible refine cd_ ?_))); (case side2 => exact HC155_2.out); rintro e w124 ⟨rfl, hb⟩; refine ⟨_, rfl, ?_⟩; have n0_ := am_ (bt_ (by repeat (first | (with_reducible first | exact HB.out | apply ba_ | apply bn_ | apply bd_) | exact HB.out)) hb); clear HB; have HB := n0_; clear n0_; (try clear hb); (try clear hb2); (try clear hk); (try clear hi); have p157 : 0 ≤ (x3_1 : Int) := od_ (by first | (with_reducible assumption) | assumption); have q157 : x3_1 < (l0.length : Int) := od_ (by first | (with_reducible assumption) | assumption); obtain ⟨ad157, A157_2, c157_2, e157, hx157_0, hx157_1, hx157_2, hl157_2, hi157_2⟩ := at_T28 HR0.out x3_1 p157 q157; obtain rfl : ad155 = ad157 := (by injection e157); replace hx157_0 := (HB.out.cell (bl_ w _ hx157_0)).trans hx157_0; replace hx157_1 := (HB.out.cell (bl_ w _ hx157_1)).trans hx157_1; replace hx157_2 := (HB.out.cell (bl_ w _ hx157_2)).trans hx157_2; have HR157_2 := am_ hi157_2; have HC157_2 := am_ hl157_2; clear hi157_2 hl157_2; replace p157 := eq_true p157; replace q157 := eq_true q157) | ((with_reducible refine gate_callee (f := 8) rfl ?_); refine goesL_ (some 30) rfl rfl Try.func8 (by kernel_rfl) rfl #[.slice A157_2 ((rd_T28 l0 x3_1).f1).length c157_2] rfl (by (try simp only [m1_, m2_, m3_]); first | done | rfl | (simp only [m4_, m5_]; rfl)) ?_; (with_reducible refine (pouchref0_CopyBytes.calls kj1 _ _ ((rd_T28 l0 x3_1).f1) t158 _ ?side1 ?side2 A10.out).mono ?_); (case side1 => repeat (first | exact (cb_ HR157_2.out HB.out) | (with_reducible refine ca_ ?_ _) | (with_reducible refine cn_ ?_ _) | (with_reducible refine cd_ ?_))); (case side2 => exact HC157_2.out); rintro e w125 ⟨v159, rfl, ho0, hb⟩; refine ⟨_, rfl, ?_⟩; have n0_ := am_ (Kd.R_lower ho0 (bz_ (by repeat (first | (with_reducible first | exact HB.out | apply ba_ | apply bn_ | apply bd_) | exact HB.out)))); have n1_ := am_ (bt_ (by repeat (first | (with_reducible first | exact HB.out | apply ba_ | apply bn_ | apply bd_) | exact HB.out)) hb); clear HB; have HO160 := n0_; have HB := n1_; clear n0_ n1_; (try clear hb); (try clear hb2); (try clear hk); (try clear hi); (try clear ho0); have p161 : 0 ≤ (x3_1 : Int) := od_ (by first | (with_reducible assumption) | assumption); have q161 : x3_1 < (l0.length : Int) := od_ (by first | (with_reducible assumption) | assumption); obtain ⟨ad161, A161_2, c161_2, e161, hx161_0, hx161_1, hx161_2, hl161_2, hi161_2⟩ := at_T28 HR0.out x3_1 p161 q161; obtain rfl : ad155 = ad161 := (by injection e161); replace hx161_0 := (HB.out.cell (bl_ w _ hx161_0)).trans hx161_0; replace hx161_1 := (HB.out.cell (bl_ w _ hx161_1)).trans hx161_1; replace hx161_2 := (HB.out.cell (bl_ w _ hx161_2)).trans hx161_2; have HR161_2 := am_ hi161_2; have HC161_2 := am_ hl161_2; clear hi161_2 hl161_2; replace p161 := eq_true p161; replace q161 := eq_true q161; obtain ⟨Ao126, co126, eo126⟩ := Kd.R_slice HO160.out; subst eo126) | ((with_reducible refine gate_callee (f := 9) rfl ?_); refine goesL_ (some 38) rfl rfl Try.func9 (by kernel_rfl) rfl #[.agg #[.string ((rd_T28 l0 x3_1).f0.f0), .bool ((rd_T28 l0 x3_1).f0.f1)], .slice Ao126 t158.length co126] rfl (by (try simp only [m1_, m2_, m3_]); first | done | rfl | (simp only [m4_, m5_]; rfl)) ?_; (with_reducible refine (frame_Feed.calls kj1 ((rd_T28 l0 x3_1).f0.f0) ((rd_T28 l0 x3_1).f0.f1) _ _ t158 t162 t163 t164 t167 _ ?side1 ?side2 ?side3 A11.out).mono ?_); (case side1 => repeat (first | exact (Kd.R_reads' HO160.out).2.2 | (with_reducible refine ca_ ?_ _) | (with_reducible refine cn_ ?_ _) | (with_reducible refine cd_ ?_))); (case side2 => exact (Kd.R_reads' HO160.out).2.1); (case side3 => exact GrOk.below hG (by repeat (first | (with_reducible first | exact HB.out | apply ba_ | apply bn_ | apply bd_) | exact HB.out))); rintro e w127 ⟨v165, rfl, ho0, hb⟩; refine ⟨_, rfl, ?_⟩; have n0_ := am_ (rb_ (by (with_reducible repeat (first | apply ra_ | apply rn_ | apply re_)); exact HO160.out) hb); have n1_ := am_ (Kd.R_lower ho0 (bz_ (by repeat (first | (with_reducible first | exact HB.out | apply ba_ | apply bn_ | apply bd_) | exact HB.out)))); have n2_ := am_ (bt_ (by repeat (first | (with_reducible first | exact HB.out | apply ba_ | apply bn_ | apply bd_) | exact HB.out)) hb); clear HO160; clear HB; have HO160 := n0_; have HO166 := n1_; have HB := n2_; clear n0_ n1_ n2_; (try clear hb); (try clear hb2); (try clear hk); (try clear hi); (try clear ho0)) | ((with_reducible refine gate_dst (N := 5) rfl ?_); (try (refine gate_guard (by rfl) ?_; dsimp only)); refine box_event ?hg (N := 5) ?hd (cs := #[.string (⟨#[]⟩ : ByteArray), .bool false]) (t := 25) ?hr ?_; (case hd => rfl); (case hg => rfl); (case hr => first | (go_simp; done) | (go_simp; rfl)); intro gb168 hg w128 hbox hb; have n0_ := am_ (rb_ (by (with_reducible repeat (first | apply ra_ | apply rn_ | apply re_)); exact HO160.out) hb); have n1_ := am_ (rb_ (by (with_reducible repeat (first | apply ra_ | apply rn_ | apply re_)); exact HO166.out) hb); have n2_ := am_ (bt_ (by repeat (first | (with_reducible first | exact HB.out | apply ba_ | apply bn_ | apply bd_) | exact HB.out)) hb); have n3_ := am_ (hbox); have n4_ := am_ ((by rw [hg]; exact (bz_ (by repeat (first | (with_reducible first | exact HB.out | apply ba_ | apply bn_ | apply bd_) | exact HB.out))) : w.heap.size ≤ gb168)); have n5_ := am_ ((by rw [hg]; exact (bz_ (by repeat (first | (with_reducible first | exact HB.out | apply ba_ | apply bn_ | apply bd_) | exact HB.out))) : w.heap.size ≤ gb168)); clear HO160; clear HO166; clear HB; have HO160 := n0_; have HO166 := n1_; have HB := n2_; have BK168 := n3_; have GW168 := n4_; have GE168 := n5_; clear n0_ n1_ n2_ n3_ n4_ n5_; clear hb hbox hg; have hcz129_0 : w128.cell? ⟨gb168, 0, none⟩ = some (.string (⟨#[]⟩ : ByteArray)) := (blk_cell BK168.out 0).trans rfl; have hcz129_1 : w128.cell? ⟨gb168, 1, none⟩ = some (.bool false) := (blk_cell BK168.out 1).trans rfl; have hfz129_0 := blk_frozen BK168.out 0; have hfz129_1 := blk_frozen BK168.out 1; have p169 : 0 ≤ (x3_1 : Int) := od_ (by first | (with_reducible assumption) | assumption); have q169 : x3_1 < (l0.length : Int) := od_ (by first | (with_reducible assumption) | assumption); obtain ⟨ad169, A169_2, c169_2, e169, hx169_0, hx169_1, hx169_2, hl169_2, hi169_2⟩ := at_T28 HR0.out x3_1 p169 q169; obtain rfl : ad155 = ad169 := (by injection e169); have hn169_0 : ad155.block ≠ gb168 := nl_ (ll_ (by have := bl_ _ _ hx169_0; first | rwa [ab_] at this | exact this) GW168.out); have hn169_1 : ad155.block ≠ gb168 := nl_ (ll_ (by have := bl_ _ _ hx169_0; first | rwa [ab_] at this | exact this) GW168.out); replace hx169_0 := (HB.out.cell (bl_ w _ hx169_0)).trans hx169_0; replace hx169_1 := (HB.out.cell (bl_ w _ hx169_1)).trans hx169_1; replace hx169_2 := (HB.out.cell (bl_ w _ hx169_2)).trans hx169_2; have HR169_2 := am_ hi169_2; have HC169_2 := am_ hl169_2; clear hi169_2 hl169_2; replace hx169_0 := (cf_ (p := ⟨gb168, 0, none⟩) (by first | (rw [ab_]; exact hn169_0) | (show (Addr.add _ _).block ≠ _; rw [ab_]; exact hn169_0) | exact hn169_0) (.string t162)).trans hx169_0; replace hx169_1 := (cf_ (p := ⟨gb168, 0, none⟩) (by first | (rw [ab_]; exact hn169_0) | (show (Addr.add _ _).block ≠ _; rw [ab_]; exact hn169_0) | exact hn169_0) (.string t162)).trans hx169_1; replace hx169_2 := (cf_ (p := ⟨gb168, 0, none⟩) (by first | (rw [ab_]; exact hn169_0) | (show (Addr.add _ _).block ≠ _; rw [ab_]; exact hn169_0) | exact hn169_0) (.string t162)).trans hx169_2; replace hx169_0 := (cf_ (p := ⟨gb168, 1, none⟩) (by first | (rw [ab_]; exact hn169_1) | (show (Addr.add _ _).block ≠ _; rw [ab_]; exact hn169_1) | exact hn169_1) (.bool t163)).trans hx169_0; replace hx169_1 := (cf_ (p := ⟨gb168, 1, none⟩) (by first | (rw [ab_]; exact hn169_1) | (show (Addr.add _ _).block ≠ _; rw [ab_]; exact hn169_1) | exact hn169_1) (.bool t163)).trans hx169_1; replace hx169_2 := (cf_ (p := ⟨gb168, 1, none⟩) (by first | (rw [ab_]; exact hn169_1) | (show (Addr.add _ _).block ≠ _; rw [ab_]; exact hn169_1) | exact hn169_1) (.bool t163)).trans hx169_2; clear hn169_0; clear hn169_1; replace p169 := eq_true p169; replace q169 := eq_true q169) | ((with_reducible refine gate_callee (f := 10) rfl ?_); refine goesL_ (some 47) rfl rfl Try.func10 (by kernel_rfl) rfl #[.agg #[.string ((rd_T28 l0 x3_1).f0.f0), .bool ((rd_T28 l0 x3_1).f0.f1)]] rfl (by (try simp only [m1_, m2_, m3_]); first | done | rfl | (simp only [m4_, m5_]; rfl)) ?_; (with_reducible refine (pouchref1_Framer.calls kj1 ((rd_T28 l0 x3_1).f0.f0) ((rd_T28 l0 x3_1).f0.f1) false _ A12.out).mono ?_); rintro e w130 ⟨rfl, hb⟩; refine ⟨_, rfl, ?_⟩; have n0_ := am_ (rb_ (by (with_reducible repeat (first | apply ra_ | apply rn_ | apply re_)); exact (Kd.R_mono (Kd.R_far (p := ⟨gb168, 1, none⟩) (Kd.R_far (p := ⟨gb168, 0, none⟩) (Kd.R_types HO160.out BK168.out (by decide)) (fun _ hk => hk.2) (.string t162)) (fun _ hk => hk.2) (.bool t163)) (fun _ h_ => h_.1))) hb); have n1_ := am_ (rb_ (by (with_reducible repeat (first | apply ra_ | apply rn_ | apply re_)); exact (Kd.R_mono (Kd.R_far (p := ⟨gb168, 1, none⟩) (Kd.R_far (p := ⟨gb168, 0, none⟩) (Kd.R_types HO166.out BK168.out (by decide)) (fun _ hk => hk.2) (.string t162)) (fun _ hk => hk.2) (.bool t163)) (fun _ h_ => h_.1))) hb); have n2_ := am_ (bb_ (g := gb168) (o := .cells #[.string t162, .bool t163] 25 (0, 0)) (by (with_reducible repeat (first | refine kn_ ?_ _ | refine kd_ ?_ | refine ka_ ?_ _)); refine blk_put (cs := #[.string t162, .bool false]) ?_ 1 _ rfl; (with_reducible repeat (first | refine kn_ ?_ _ | refine kd_ ?_ | refine ka_ ?_ _)); refine blk_put (cs := #[.string (⟨#[]⟩ : ByteArray), .bool false]) ?_ 0 _ rfl; (with_reducible repeat (first | refine kn_ ?_ _ | refine kd_ ?_ | refine ka_ ?_ _)); exact BK168.out) hb); have n3_ := am_ (bt_ (by repeat (first | (with_reducible first | exact HB.out | apply ba_ | apply bn_ | apply bd_ | refine bs_ ?_ GE168.out) | exact HB.out)) hb); clear HO160; clear HO166; clear BK168; clear HB; have HO160 := n0_; have HO166 := n1_; have BK168 := n2_; have HB := n3_; clear n0_ n1_ n2_ n3_; (try clear hb); (try clear hb2); (try clear hk); (try clear hi)) | ((with_reducible refine gate_callee (f := 11) rfl ?_); refine goesL_ (some 50) rfl rfl Try.func11 (by kernel_rfl) rfl #[.int .i64 t167] rfl (by (try simp only [m1_, m2_, m3_]); first | done | rfl | (simp only [m4_, m5_]; rfl)) ?_; (with_reducible refine (pouchlaw1_num.calls t167 t171 _ A105.out).mono ?_); rintro e w' ⟨rfl, ⟨nd, rfl⟩⟩; refine ⟨_, rfl, ?_⟩))
           go_ret
           exact ⟨by first | rfl | (simp [errW_none, errW_some] <;> rfl) | (simp [*, errW_none, errW_some] <;> rfl), by repeat (first | (with_reducible first | exact HB.out | apply ba_ | apply bn_ | apply bd_ | refine bs_ ?_ GE168.out) | exact HB.out)⟩
       ·
        rw [if_neg c6] at H
        exact absurd H (by simp)
      ·
       rw [if_neg c5] at H
       exact absurd H (by simp)
     ·
      replace c4 := Bool.eq_false_iff.mpr c4
      subst c4
      have H1 : ((pouchlaw1_wakes.f).bind fun t154 => (some t154)) = some r := by rw [if_neg (show ¬ (false = true) by decide)] at H; exact H
      clear H; have H := H1; clear H1
      replace H := Option.bind_eq_some_iff.mp H
      obtain ⟨t154, A1310, H⟩ := H
      replace H : (some t154) = some r := H
      have A131 := am_ A1310
      clear A1310
      obtain rfl := Option.some.inj H
      go_wp2_with (first | ((with_reducible refine gate_callee (f := 15) rfl ?_); refine goesL_ (some 95) rfl rfl Try.func15 (by kernel_rfl) rfl #[] rfl (by (try simp only [m1_, m2_, m3_]); first | done | rfl | (simp only [m4_, m5_]; rfl)) ?_; (with_reducible refine (pouchlaw1_wakes.calls  t154 _ ?side1 A131.out).mono ?_); (case side1 => exact GrOk.below hG (by repeat (first | (with_reducible first | exact HB.out | apply ba_ | apply bn_ | apply bd_) | exact HB.out))); rintro e w132 ⟨rfl, hb⟩; refine ⟨_, rfl, ?_⟩; have n0_ := am_ (bt_ (by repeat (first | (with_reducible first | exact HB.out | apply ba_ | apply bn_ | apply bd_) | exact HB.out)) hb); clear HB; have HB := n0_; clear n0_; (try clear hb); (try clear hb2); (try clear hk); (try clear hi)))
      go_ret
      exact ⟨by first | rfl | (simp [errW_none, errW_some] <;> rfl) | (simp [*, errW_none, errW_some] <;> rfl), by repeat (first | (with_reducible first | exact HB.out | apply ba_ | apply bn_ | apply bd_) | exact HB.out)⟩

end Go.Proofs.Ytcaibcefgfolbaa.PFr
