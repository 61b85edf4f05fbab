-- Written for this claim by a program: the kit's print.py from a scratch copy, turned by wip/tools/ghostprint.py
import Derived.Test.YtdedodfeopdkaaaPDox0
import Derived.Test.YtdedodfeopdkaaaPDox2
import Derived.Test.YtdedodfeopdkaaaPDox3
namespace Go.Proofs.Ytdedodfeopdkaaa.PDo
open Go.RowKit Go.Proofs.YtdedodfeopdkaaaW.PrintWords Go.Proofs.YtdedodfeopdkaaaW.PrintLast Go.Proofs.YtdedodfeopdkaaaW.PrintMore
attribute [local go_sem] max2_int min2_int max_two min_two max_three min_three max_four min_four   -- for this text's walks alone
set_option linter.unusedVariables false
set_option linter.unusedSimpArgs false

/-! ### pouchlaw2_DotsBack: function 6 -/
mutual
def pouchlaw2_DotsBack.l0 : Nat → List ByteArray → Int → Option (Bool)
 | 0, _, _ => none
 | k + 1, x0, x3 => if x3 < (x0.length : Int) then (pouchlaw2_DotsBack.j1 k x0 x3 (decide (x3 < 10))) else (pouchlaw2_DotsBack.j1 k x0 x3 false)
def pouchlaw2_DotsBack.j1 : Nat → List ByteArray → Int → Bool → Option (Bool)
 | 0, _, _, _ => none
 | k + 1, x0, x3, x19 => if x19 = true then (if 0 ≤ x3 then (if x3 < (x0.length : Int) then (if ((rdOf ByteArray.empty x0 x3).size : Int) > 5000 then (some true) else ((dots_Stuff.f k (rdOf ByteArray.empty x0 x3)).bind fun bt188 => ((pouchlaw2_num.f bt188.2).bind fun t190 => (if t190 = 0 then (pouchlaw2_DotsBack.l1 k x0 x3 bt188.1 (⟨#[]⟩ : ByteArray) 0 false 1) else (pouchlaw2_DotsBack.l0 k x0 (wrap64 (x3 + 1))))))) else (none)) else (none)) else ((pouchlaw2_wakes.f k).bind fun t185 => (some t185))
def pouchlaw2_DotsBack.l1 : Nat → List ByteArray → Int → ByteArray → ByteArray → Int → Bool → Int → Option (Bool)
 | 0, _, _, _, _, _, _, _ => none
 | k + 1, x0, x3, x4, x6, x7, x8, x9 => if x9 < (x4.size : Int) then (if 0 ≤ x9 then (if (bt x4 x9) = 10 then (if 0 ≤ (wrap64 (x9 - 1)) then (if (wrap64 (x9 - 1)) < (x4.size : Int) then (pouchlaw2_DotsBack.j3 k x0 x3 x4 x6 x7 x8 x9 ((bt x4 (wrap64 (x9 - 1))) != 13)) else (none)) else (none)) else (pouchlaw2_DotsBack.j3 k x0 x3 x4 x6 x7 x8 x9 true)) else (none)) else (if x8 = true then (if x7 = (x4.size : Int) then (if 0 ≤ x3 then (if x3 < (x0.length : Int) then (if x6.toList = (rdOf ByteArray.empty x0 x3).toList then (if (x4.size : Int) < (wrap64 (((rdOf ByteArray.empty x0 x3).size : Int) + 3)) then (some false) else (pouchlaw2_DotsBack.l0 k x0 (wrap64 (x3 + 1)))) else (some false)) else (none)) else (none)) else (some false)) else (some false))
def pouchlaw2_DotsBack.j3 : Nat → List ByteArray → Int → ByteArray → ByteArray → Int → Bool → Int → Bool → Option (Bool)
 | 0, _, _, _, _, _, _, _, _ => none
 | k + 1, x0, x3, x4, x6, x7, x8, x9, x55 => if x55 = true then (pouchlaw2_DotsBack.l1 k x0 x3 x4 x6 x7 x8 (wrap64 (x9 + 1))) else (if 0 ≤ x7 then (if x7 ≤ (wrap64 (x9 - 1)) then (if (wrap64 (x9 - 1)) ≤ (x4.size : Int) then ((dots_Take.f (x4.extract (x7 : Int).toNat ((wrap64 (x9 - 1)) : Int).toNat)).bind fun bt193 => (if x8 = true then (some false) else (if bt193.2 = true then (pouchlaw2_DotsBack.l1 k x0 x3 x4 x6 (wrap64 (x9 + 1)) bt193.2 (wrap64 (x9 + 1))) else (if x6.size + bt193.1.size ≤ 9223372036854775807 then (if (x6 ++ bt193.1).size + 2 ≤ 9223372036854775807 then (pouchlaw2_DotsBack.l1 k x0 x3 x4 ((x6 ++ bt193.1) ++ (⟨#[13, 10]⟩ : ByteArray)) (wrap64 (x9 + 1)) bt193.2 (wrap64 (x9 + 1))) else (none)) else (none))))) else (none)) else (none)) else (none))
end
def pouchlaw2_DotsBack.f (k : Nat) (l0 : List ByteArray) : Option (Bool) := pouchlaw2_DotsBack.l0 k l0 0
theorem pouchlaw2_DotsBack.mono_l : ∀ k, (∀ y0 y1, LeO (pouchlaw2_DotsBack.l0 k y0 y1) (pouchlaw2_DotsBack.l0 (k + 1) y0 y1)) ∧ (∀ y0 y1 y2, LeO (pouchlaw2_DotsBack.j1 k y0 y1 y2) (pouchlaw2_DotsBack.j1 (k + 1) y0 y1 y2)) ∧ (∀ y0 y1 y2 y3 y4 y5 y6, LeO (pouchlaw2_DotsBack.l1 k y0 y1 y2 y3 y4 y5 y6) (pouchlaw2_DotsBack.l1 (k + 1) y0 y1 y2 y3 y4 y5 y6)) ∧ (∀ y0 y1 y2 y3 y4 y5 y6 y7, LeO (pouchlaw2_DotsBack.j3 k y0 y1 y2 y3 y4 y5 y6 y7) (pouchlaw2_DotsBack.j3 (k + 1) y0 y1 y2 y3 y4 y5 y6 y7))
 | 0 => ⟨fun _ _ r h => by simp [pouchlaw2_DotsBack.l0] at h, fun _ _ _ r h => by simp [pouchlaw2_DotsBack.j1] at h, fun _ _ _ _ _ _ _ r h => by simp [pouchlaw2_DotsBack.l1] at h, fun _ _ _ _ _ _ _ _ r h => by simp [pouchlaw2_DotsBack.j3] at h⟩
 | k + 1 => by
  obtain ⟨ih0, ih1, ih2, ih3⟩ := pouchlaw2_DotsBack.mono_l k
  refine ⟨?_, ?_, ?_, ?_⟩
  ·
   intro y0 y1
   unfold pouchlaw2_DotsBack.l0
   repeat' first
   | (with_reducible exact ih0 _ _)
   | (with_reducible exact ih1 _ _ _)
   | (with_reducible exact ih2 _ _ _ _ _ _ _)
   | (with_reducible exact ih3 _ _ _ _ _ _ _ _)
   | (with_reducible exact dots_Stuff.mono _ _)
   | (with_reducible exact pouchlaw2_wakes.mono _)
   | (with_reducible exact LeO.refl _)
   | (with_reducible exact LeO.none _)
   | (with_reducible refine LeO.ite ?_ ?_)
   | (with_reducible refine LeO.bind ?_ (fun _ => ?_))
   | exact ih0 _ _
   | exact ih1 _ _ _
   | exact ih2 _ _ _ _ _ _ _
   | exact ih3 _ _ _ _ _ _ _ _
   | exact dots_Stuff.mono _ _
   | exact pouchlaw2_wakes.mono _
   | exact LeO.none _
   | refine LeO.ite ?_ ?_
   | refine LeO.bind ?_ (fun _ => ?_)
  ·
   intro y0 y1 y2
   unfold pouchlaw2_DotsBack.j1
   repeat' first
   | (with_reducible exact ih0 _ _)
   | (with_reducible exact ih1 _ _ _)
   | (with_reducible exact ih2 _ _ _ _ _ _ _)
   | (with_reducible exact ih3 _ _ _ _ _ _ _ _)
   | (with_reducible exact dots_Stuff.mono _ _)
   | (with_reducible exact pouchlaw2_wakes.mono _)
   | (with_reducible exact LeO.refl _)
   | (with_reducible exact LeO.none _)
   | (with_reducible refine LeO.ite ?_ ?_)
   | (with_reducible refine LeO.bind ?_ (fun _ => ?_))
   | exact ih0 _ _
   | exact ih1 _ _ _
   | exact ih2 _ _ _ _ _ _ _
   | exact ih3 _ _ _ _ _ _ _ _
   | exact dots_Stuff.mono _ _
   | exact pouchlaw2_wakes.mono _
   | exact LeO.none _
   | refine LeO.ite ?_ ?_
   | refine LeO.bind ?_ (fun _ => ?_)
  ·
   intro y0 y1 y2 y3 y4 y5 y6
   unfold pouchlaw2_DotsBack.l1
   repeat' first
   | (with_reducible exact ih0 _ _)
   | (with_reducible exact ih1 _ _ _)
   | (with_reducible exact ih2 _ _ _ _ _ _ _)
   | (with_reducible exact ih3 _ _ _ _ _ _ _ _)
   | (with_reducible exact dots_Stuff.mono _ _)
   | (with_reducible exact pouchlaw2_wakes.mono _)
   | (with_reducible exact LeO.refl _)
   | (with_reducible exact LeO.none _)
   | (with_reducible refine LeO.ite ?_ ?_)
   | (with_reducible refine LeO.bind ?_ (fun _ => ?_))
   | exact ih0 _ _
   | exact ih1 _ _ _
   | exact ih2 _ _ _ _ _ _ _
   | exact ih3 _ _ _ _ _ _ _ _
   | exact dots_Stuff.mono _ _
   | exact pouchlaw2_wakes.mono _
   | exact LeO.none _
   | refine LeO.ite ?_ ?_
   | refine LeO.bind ?_ (fun _ => ?_)
  ·
   intro y0 y1 y2 y3 y4 y5 y6 y7
   unfold pouchlaw2_DotsBack.j3
   repeat' first
   | (with_reducible exact ih0 _ _)
   | (with_reducible exact ih1 _ _ _)
   | (with_reducible exact ih2 _ _ _ _ _ _ _)
   | (with_reducible exact ih3 _ _ _ _ _ _ _ _)
   | (with_reducible exact dots_Stuff.mono _ _)
   | (with_reducible exact pouchlaw2_wakes.mono _)
   | (with_reducible exact LeO.refl _)
   | (with_reducible exact LeO.none _)
   | (with_reducible refine LeO.ite ?_ ?_)
   | (with_reducible refine LeO.bind ?_ (fun _ => ?_))
   | exact ih0 _ _
   | exact ih1 _ _ _
   | exact ih2 _ _ _ _ _ _ _
   | exact ih3 _ _ _ _ _ _ _ _
   | exact dots_Stuff.mono _ _
   | exact pouchlaw2_wakes.mono _
   | exact LeO.none _
   | refine LeO.ite ?_ ?_
   | refine LeO.bind ?_ (fun _ => ?_)
theorem pouchlaw2_DotsBack.mono : ∀ a0 k, LeO (pouchlaw2_DotsBack.f k a0) (pouchlaw2_DotsBack.f (k + 1) a0) := by
 intro a0 k
 obtain ⟨ih0, ih1, ih2, ih3⟩ := pouchlaw2_DotsBack.mono_l k
 unfold pouchlaw2_DotsBack.f
 repeat' first
   | (with_reducible exact ih0 _ _)
   | (with_reducible exact ih1 _ _ _)
   | (with_reducible exact ih2 _ _ _ _ _ _ _)
   | (with_reducible exact ih3 _ _ _ _ _ _ _ _)
   | (with_reducible exact dots_Stuff.mono _ _)
   | (with_reducible exact pouchlaw2_wakes.mono _)
   | (with_reducible exact LeO.refl _)
   | (with_reducible exact LeO.none _)
   | (with_reducible refine LeO.ite ?_ ?_)
   | (with_reducible refine LeO.bind ?_ (fun _ => ?_))
   | exact ih0 _ _
   | exact ih1 _ _ _
   | exact ih2 _ _ _ _ _ _ _
   | exact ih3 _ _ _ _ _ _ _ _
   | exact dots_Stuff.mono _ _
   | exact pouchlaw2_wakes.mono _
   | exact LeO.none _
   | refine LeO.ite ?_ ?_
   | refine LeO.bind ?_ (fun _ => ?_)
set_option maxHeartbeats 8000000 in
set_option maxRecDepth 100000 in
theorem pouchlaw2_DotsBack.calls (k : Nat) (A0 : Option Addr) (c0 : Nat) (l0 : List ByteArray) (r : Bool) (w : World) (hr0 : Kd.C Kd.string w A0 l0.length l0) (hc0 : l0.length ≤ c0) (hG : GrOk w) (h : pouchlaw2_DotsBack.f k l0 = some r) :
  Calls Try.prog 6 #[.slice A0 l0.length c0] w fun e w' => e = .returned (.bool r) ∧ Below w.heap.size w w' := by
 have HR0 := am_ hr0
 have HC0 := am_ hc0
 clear hr0 hc0
 have HB := am_ (Below.refl w.heap.size w)
 have H : (pouchlaw2_DotsBack.l0 k l0 0) = some r := h
 clear h
 have H' := am_ H
 clear H
 go_enter Try.func6, Try.ntmps6
 go_wp2
 go_loopg [3] k (fun kq v3 w' => ∃ (x3_1 : Int), v3 = .int .i64 x3_1 ∧ Aside0 (pouchlaw2_DotsBack.l0 kq l0 x3_1 = some r) ∧ Aside0 (kq ≤ k) ∧ Aside0 (Below w.heap.size w w'))
 case atStart => exact ⟨(0), (by first | rfl | (simp; done) | (simp [*]; done)), H', ⟨Nat.le_refl _⟩, ⟨by repeat (first | (with_reducible first | exact HB.out | apply ba_ | apply bn_ | apply bd_) | exact HB.out)⟩⟩
 case round =>
  clear H'
  obtain ⟨x3_1, rfl, HA, HK1, HB⟩ := hrel
  cases gk with
  | zero => exact absurd HA.out (by simp [pouchlaw2_DotsBack.l0])
  | succ k1 =>
   have H := HA.out
   clear HA
   simp only [pouchlaw2_DotsBack.l0] at H
   have HC2 := am_ H
   clear H
   go_upto_region 2 with (fail)
   go_cut [19] (fun v19 wc => ∃ (kq : Nat) (x19_1 : Bool), v19 = .bool x19_1 ∧ Aside0 (pouchlaw2_DotsBack.j1 kq l0 x3_1 x19_1 = some r) ∧ Aside0 (kq ≤ k1) ∧ Aside0 (Below w.heap.size w wc))
   case first =>
    have H := HC2.out
    clear HC2
    by_cases c3 : x3_1 < (l0.length : Int)
    ·
     rw [if_pos c3] at H
     have c3b0 : decide (x3_1 < (l0.length : Int)) = true := decide_eq_true c3
     clear c3
     (first | rw [c3b0] | (simp only [i64_w, i32_w]; rw [c3b0]) | skip)
     have H' := am_ H
     clear H
     go_wp2
     go_meet
     case rel => exact ⟨_, (decide (x3_1 < 10)), (by first | rfl | (simp; done) | (simp [*]; done)), H', ⟨by have := HK1.out; first | omega | exact Nat.le_refl _⟩, ⟨by repeat (first | (with_reducible first | exact HB.out | apply ba_ | apply bn_ | apply bd_) | exact HB.out)⟩⟩
    ·
     rw [if_neg c3] at H
     have c3b0 : decide (x3_1 < (l0.length : Int)) = false := decide_eq_false c3
     clear c3
     (first | rw [c3b0] | (simp only [i64_w, i32_w]; rw [c3b0]) | skip)
     have H' := am_ H
     clear H
     go_wp2
     go_meet
     case rel => exact ⟨_, (false), (by first | rfl | (simp; done) | (simp [*]; done)), H', ⟨by have := HK1.out; first | omega | exact Nat.le_refl _⟩, ⟨by repeat (first | (with_reducible first | exact HB.out | apply ba_ | apply bn_ | apply bd_) | exact HB.out)⟩⟩
   case rest =>
    clear HC2
    try clear p2
    try clear c3
    try clear c3b0
    obtain ⟨kq, x19_1, rfl, HA, HJ1, HB⟩ := hcut
    cases kq with
    | zero => exact absurd HA.out (by simp [pouchlaw2_DotsBack.j1])
    | succ kj1 =>
     have H := HA.out
     clear HA
     simp only [pouchlaw2_DotsBack.j1] at H
     by_cases c4 : x19_1 = true
     ·
      subst c4
      have H1 : (if 0 ≤ x3_1 then (if x3_1 < (l0.length : Int) then (if ((rdOf ByteArray.empty l0 x3_1).size : Int) > 5000 then (some true) else ((dots_Stuff.f kj1 (rdOf ByteArray.empty l0 x3_1)).bind fun bt188 => ((pouchlaw2_num.f bt188.2).bind fun t190 => (if t190 = 0 then (pouchlaw2_DotsBack.l1 kj1 l0 x3_1 bt188.1 (⟨#[]⟩ : ByteArray) 0 false 1) else (pouchlaw2_DotsBack.l0 kj1 l0 (wrap64 (x3_1 + 1))))))) else (none)) else (none)) = some r := by rw [if_pos rfl] at H; exact H
      clear H; have H := H1; clear H1
      by_cases c5 : 0 ≤ x3_1
      ·
       rw [if_pos c5] at H
       have c5b0 : decide (0 ≤ x3_1) = true := decide_eq_true c5
       clear c5
       by_cases c6 : x3_1 < (l0.length : Int)
       ·
        rw [if_pos c6] at H
        have c6b0 : decide (x3_1 < (l0.length : Int)) = true := decide_eq_true c6
        clear c6
        by_cases c7 : ((rdOf ByteArray.empty l0 x3_1).size : Int) > 5000
        ·
         rw [if_pos c7] at H
         have c7b0 : decide (5000 < ((rdOf ByteArray.empty l0 x3_1).size : Int)) = true := decide_eq_true c7
         have c7b1 : decide (5000 < (rdOf ByteArray.empty l0 x3_1).size) = true := decide_eq_true (by omega)
         clear c7
         obtain rfl := Option.some.inj H
         have p186 : 0 ≤ (x3_1 : Int) := od_ (by first | (with_reducible assumption) | assumption)
         have q186 : x3_1 < (l0.length : Int) := od_ (by first | (with_reducible assumption) | assumption)
         obtain ⟨ad186, e186, hx186_0⟩ := Kd.at_string HR0.out x3_1 p186 q186
         cases e186
         replace hx186_0 := (HB.out.cell (bl_ w _ hx186_0)).trans hx186_0
         replace p186 := eq_true p186
         replace q186 := eq_true q186
         go_wp2
         go_ret
         exact ⟨by first | rfl | (simp [errW_none, errW_some] <;> rfl) | (simp [*, errW_none, errW_some] <;> rfl), by repeat (first | (with_reducible first | exact HB.out | apply ba_ | apply bn_ | apply bd_) | exact HB.out)⟩
        ·
         rw [if_neg c7] at H
         have c7b0 : decide (5000 < ((rdOf ByteArray.empty l0 x3_1).size : Int)) = false := decide_eq_false c7
         have c7b1 : decide (5000 < (rdOf ByteArray.empty l0 x3_1).size) = false := decide_eq_false (by omega)
         clear c7
         replace H := Option.bind_eq_some_iff.mp H
         obtain ⟨⟨t188, t189⟩, A80, H⟩ := H
         replace H : ((pouchlaw2_num.f t189).bind fun t190 => (if t190 = 0 then (pouchlaw2_DotsBack.l1 kj1 l0 x3_1 t188 (⟨#[]⟩ : ByteArray) 0 false 1) else (pouchlaw2_DotsBack.l0 kj1 l0 (wrap64 (x3_1 + 1))))) = some r := H
         have A8 := am_ A80
         clear A80
         replace H := Option.bind_eq_some_iff.mp H
         obtain ⟨t190, A90, H⟩ := H
         replace H : (if t190 = 0 then (pouchlaw2_DotsBack.l1 kj1 l0 x3_1 t188 (⟨#[]⟩ : ByteArray) 0 false 1) else (pouchlaw2_DotsBack.l0 kj1 l0 (wrap64 (x3_1 + 1)))) = some r := H
         have A9 := am_ A90
         clear A90
         by_cases c10 : t190 = 0
         ·
          rw [if_pos c10] at H
          have c10b0 : (t190 == 0) = true := beq_iff_eq.mpr c10
          have c10b1 : (t190 != 0) = false := bne_eq_false_iff_eq.mpr c10
          clear c10
          have H' := am_ H
          clear H
          have p186 : 0 ≤ (x3_1 : Int) := od_ (by first | (with_reducible assumption) | assumption)
          have q186 : x3_1 < (l0.length : Int) := od_ (by first | (with_reducible assumption) | assumption)
          obtain ⟨ad186, e186, hx186_0⟩ := Kd.at_string HR0.out x3_1 p186 q186
          cases e186
          replace hx186_0 := (HB.out.cell (bl_ w _ hx186_0)).trans hx186_0
          replace p186 := eq_true p186
          replace q186 := eq_true q186
          have p187 : 0 ≤ (x3_1 : Int) := od_ (by first | (with_reducible assumption) | assumption)
          have q187 : x3_1 < (l0.length : Int) := od_ (by first | (with_reducible assumption) | assumption)
          obtain ⟨ad187, e187, hx187_0⟩ := Kd.at_string HR0.out x3_1 p187 q187
          obtain rfl : ad186 = ad187 := (by injection e187)
          replace hx187_0 := (HB.out.cell (bl_ w _ hx187_0)).trans hx187_0
          replace p187 := eq_true p187
          replace q187 := eq_true q187
          go_wp2_with (first | ((with_reducible refine gate_callee (f := 9) rfl ?_); refine goesL_ (some 33) rfl rfl Try.func9 (by kernel_rfl) rfl #[.string (rdOf ByteArray.empty l0 x3_1)] rfl (by (try simp only [m1_, m2_, m3_]); first | done | rfl | (simp only [m4_, m5_]; rfl)) ?_; (with_reducible refine (dots_Stuff.calls kj1 (rdOf ByteArray.empty l0 x3_1) t188 t189 _ ?side1 A8.out).mono ?_); (case side1 => exact GrOk.below hG (by repeat (first | (with_reducible first | exact HB.out | apply ba_ | apply bn_ | apply bd_) | exact HB.out))); rintro e w11 ⟨rfl, hb⟩; refine ⟨_, rfl, ?_⟩; have n0_ := am_ (bt_ (by repeat (first | (with_reducible first | exact HB.out | apply ba_ | apply bn_ | apply bd_) | exact HB.out)) hb); clear HB; have HB := n0_; clear n0_; (try clear hb); (try clear hb2); (try clear hk); (try clear hi)) | ((with_reducible refine gate_callee (f := 10) rfl ?_); refine goesL_ (some 37) rfl rfl Try.func10 (by kernel_rfl) rfl #[.int .i64 t189] rfl (by (try simp only [m1_, m2_, m3_]); first | done | rfl | (simp only [m4_, m5_]; rfl)) ?_; (with_reducible refine (pouchlaw2_num.calls t189 t190 _ A9.out).mono ?_); rintro e w' ⟨rfl, ⟨nd, rfl⟩⟩; refine ⟨_, rfl, ?_⟩))
          go_loopg [6, 7, 8, 9] kj1 (fun kq v6 v7 v8 v9 w' => ∃ (x6_3 : ByteArray) (x7_3 : Int) (x8_3 : Bool) (x9_3 : Int), v6 = .string x6_3 ∧ v7 = .int .i64 x7_3 ∧ v8 = .bool x8_3 ∧ v9 = .int .i64 x9_3 ∧ Aside0 (pouchlaw2_DotsBack.l1 kq l0 x3_1 t188 x6_3 x7_3 x8_3 x9_3 = some r) ∧ Aside0 (kq ≤ kj1) ∧ Aside0 (Below w.heap.size w w'))
          case atStart => exact ⟨((⟨#[]⟩ : ByteArray)), (0), (false), (1), (by first | rfl | (simp; done) | (simp [*]; done)), (by first | rfl | (simp; done) | (simp [*]; done)), (by first | rfl | (simp; done) | (simp [*]; done)), (by first | rfl | (simp; done) | (simp [*]; done)), H', ⟨Nat.le_refl _⟩, ⟨by repeat (first | (with_reducible first | exact HB.out | apply ba_ | apply bn_ | apply bd_) | exact HB.out)⟩⟩
          case round =>
           clear H'
           try clear c1
           try clear p1
           try clear q1
           try clear hx1
           try clear p2
           try clear c3
           try clear c3b0
           try clear c4
           try clear c5
           try clear c5b0
           try clear c6
           try clear c6b0
           try clear p6
           try clear c7
           try clear c7b0
           try clear c7b1
           try clear c9
           try clear c10
           try clear c10b0
           try clear c10b1
           try clear hx186_0
           try clear hx187_0
           try clear p186
           try clear p187
           try clear p2
           try clear q186
           try clear q187
           obtain ⟨x6_3, x7_3, x8_3, x9_3, rfl, rfl, rfl, rfl, HA, HK3, HB⟩ := hrel
           cases gk with
           | zero => exact absurd HA.out (by simp [pouchlaw2_DotsBack.l1])
           | succ k3 =>
            have H := HA.out
            clear HA
            simp only [pouchlaw2_DotsBack.l1] at H
            by_cases c12 : x9_3 < (t188.size : Int)
            ·
             rw [if_pos c12] at H
             have c12b0 : decide (x9_3 < (t188.size : Int)) = true := decide_eq_true c12
             clear c12
             have HC13 := am_ H
             clear H
             go_upto_region 12 with (fail)
             go_cut [55] (fun v55 wc => ∃ (kq : Nat) (x55_12 : Bool), v55 = .bool x55_12 ∧ Aside0 (pouchlaw2_DotsBack.j3 kq l0 x3_1 t188 x6_3 x7_3 x8_3 x9_3 x55_12 = some r) ∧ Aside0 (kq ≤ k3) ∧ Aside0 (Below w.heap.size w wc))
             case first =>
              have H := HC13.out
              clear HC13
              by_cases c14 : 0 ≤ x9_3
              ·
               rw [if_pos c14] at H
               have c14b0 : decide (0 ≤ x9_3) = true := decide_eq_true c14
               clear c14
               (first | rw [c14b0] | (simp only [i64_w, i32_w]; rw [c14b0]) | skip)
               by_cases c16 : (bt t188 x9_3) = 10
               ·
                rw [if_pos c16] at H
                have c16b0 : ((bt t188 x9_3) == 10) = true := beq_iff_eq.mpr c16
                have c16b1 : ((bt t188 x9_3) != 10) = false := bne_eq_false_iff_eq.mpr c16
                clear c16
                obtain ⟨ji17, hji17⟩ : ∃ j_ : Int, (wrap64 (x9_3 - 1)) = j_ := ⟨_, rfl⟩
                replace H : (if 0 ≤ (ji17) then (if (ji17) < (t188.size : Int) then (pouchlaw2_DotsBack.j3 k3 l0 x3_1 t188 x6_3 x7_3 x8_3 x9_3 ((bt t188 (ji17)) != 13)) else (none)) else (none)) = some r := by first | (rw [hji17] at H; exact H) | (simp only [hji17] at H ⊢; exact H)
                have hji17w : (IntKind.i64.wrap (x9_3 - 1)) = ji17 := (i64_w _).trans hji17
                by_cases c18 : 0 ≤ (ji17)
                ·
                 rw [if_pos c18] at H
                 have c18b0 : decide (0 ≤ (ji17)) = true := decide_eq_true c18
                 clear c18
                 by_cases c19 : (ji17) < (t188.size : Int)
                 ·
                  rw [if_pos c19] at H
                  have c19b0 : decide ((ji17) < (t188.size : Int)) = true := decide_eq_true c19
                  clear c19
                  have H' := am_ H
                  clear H
                  have p15 : 0 ≤ (x9_3 : Int) := od_ (by first | (with_reducible assumption) | assumption)
                  have q15 : x9_3 < (t188.size : Int) := od_ (by first | (with_reducible assumption) | assumption)
                  have hx15 := bt_at t188 x9_3
                  replace p15 := eq_true p15
                  replace q15 := eq_true q15
                  have p20 : 0 ≤ ((ji17) : Int) := od_ (by first | (with_reducible assumption) | assumption)
                  have q20 : (ji17) < (t188.size : Int) := od_ (by first | (with_reducible assumption) | assumption)
                  have hx20 := bt_at t188 (ji17)
                  replace p20 := eq_true p20
                  replace q20 := eq_true q20
                  go_wp2
                  go_meet
                  case rel => exact ⟨_, (((bt t188 (ji17)) != 13)), (by first | rfl | (simp; done) | (simp only [← hji17] <;> (first | rfl | simp)) | (simp [*]; done)), H', ⟨by have := HK1.out; have := HJ1.out; have := HK3.out; first | omega | exact Nat.le_refl _⟩, ⟨by repeat (first | (with_reducible first | exact HB.out | apply ba_ | apply bn_ | apply bd_) | exact HB.out)⟩⟩
                 ·
                  rw [if_neg c19] at H
                  exact absurd H (by simp)
                ·
                 rw [if_neg c18] at H
                 exact absurd H (by simp)
               ·
                rw [if_neg c16] at H
                have c16b0 : ((bt t188 x9_3) == 10) = false := beq_eq_false_iff_ne.mpr c16
                have c16b1 : ((bt t188 x9_3) != 10) = true := bne_iff_ne.mpr c16
                have H' := am_ H
                clear H
                have p15 : 0 ≤ (x9_3 : Int) := od_ (by first | (with_reducible assumption) | assumption)
                have q15 : x9_3 < (t188.size : Int) := od_ (by first | (with_reducible assumption) | assumption)
                have hx15 := bt_at t188 x9_3
                replace p15 := eq_true p15
                replace q15 := eq_true q15
                go_wp2
                go_meet
                case rel => exact ⟨_, (true), (by first | rfl | (simp; done) | (simp [*]; done)), H', ⟨by have := HK1.out; have := HJ1.out; have := HK3.out; first | omega | exact Nat.le_refl _⟩, ⟨by repeat (first | (with_reducible first | exact HB.out | apply ba_ | apply bn_ | apply bd_) | exact HB.out)⟩⟩
              ·
               rw [if_neg c14] at H
               exact absurd H (by simp)
             case rest =>
              clear HC13
              try clear c1
              try clear p1
              try clear q1
              try clear hx1
              try clear p2
              try clear q2
              try clear hx2
              try clear c3
              try clear c3b0
              try clear c4
              try clear c5
              try clear c5b0
              try clear c6
              try clear c6b0
              try clear p6
              try clear c7
              try clear c7b0
              try clear c7b1
              try clear c9
              try clear c10
              try clear c10b0
              try clear c10b1
              try clear c12
              try clear c12b0
              try clear c14
              try clear c14b0
              try clear p15
              try clear q15
              try clear hx15
              try clear c16
              try clear c16b0
              try clear c16b1
              try clear c18
              try clear c18b0
              try clear p18
              try clear q18
              try clear hx18
              try clear c19
              try clear c19b0
              try clear p20
              try clear q20
              try clear hx20
              try clear hx186_0
              try clear hx187_0
              try clear p1
              try clear p15
              try clear p186
              try clear p187
              try clear p2
              try clear p20
              try clear p6
              try clear q1
              try clear q15
              try clear q186
              try clear q187
              try clear q20
              obtain ⟨kq, x55_12, rfl, HA, HJ12, HB⟩ := hcut
              cases kq with
              | zero => exact absurd HA.out (by simp [pouchlaw2_DotsBack.j3])
              | succ kj12 =>
               have H := HA.out
               clear HA
               simp only [pouchlaw2_DotsBack.j3] at H
               by_cases c21 : x55_12 = true
               ·
                subst c21
                have H1 : (pouchlaw2_DotsBack.l1 kj12 l0 x3_1 t188 x6_3 x7_3 x8_3 (wrap64 (x9_3 + 1))) = some r := by rw [if_pos rfl] at H; exact H
                clear H; have H := H1; clear H1
                have H' := am_ H
                clear H
                go_wp2
                go_roundg kj12
                case measure => have := HK1.out; have := HJ1.out; have := HK3.out; have := HJ12.out; omega
                case rel => exact ⟨(x6_3), (x7_3), (x8_3), (wrap64 (x9_3 + 1)), (by first | rfl | (simp; done) | (simp [*]; done)), (by first | rfl | (simp; done) | (simp [*]; done)), (by first | rfl | (simp; done) | (simp [*]; done)), (by first | rfl | (simp; done) | (simp [*]; done)), H', ⟨by have := HK1.out; have := HJ1.out; have := HK3.out; have := HJ12.out; omega⟩, ⟨by repeat (first | (with_reducible first | exact HB.out | apply ba_ | apply bn_ | apply bd_) | exact HB.out)⟩⟩
               ·
                replace c21 := Bool.eq_false_iff.mpr c21
                subst c21
                have H1 : (if 0 ≤ x7_3 then (if x7_3 ≤ (wrap64 (x9_3 - 1)) then (if (wrap64 (x9_3 - 1)) ≤ (t188.size : Int) then ((dots_Take.f (t188.extract (x7_3 : Int).toNat ((wrap64 (x9_3 - 1)) : Int).toNat)).bind fun bt193 => (if x8_3 = true then (some false) else (if bt193.2 = true then (pouchlaw2_DotsBack.l1 kj12 l0 x3_1 t188 x6_3 (wrap64 (x9_3 + 1)) bt193.2 (wrap64 (x9_3 + 1))) else (if x6_3.size + bt193.1.size ≤ 9223372036854775807 then (if (x6_3 ++ bt193.1).size + 2 ≤ 9223372036854775807 then (pouchlaw2_DotsBack.l1 kj12 l0 x3_1 t188 ((x6_3 ++ bt193.1) ++ (⟨#[13, 10]⟩ : ByteArray)) (wrap64 (x9_3 + 1)) bt193.2 (wrap64 (x9_3 + 1))) else (none)) else (none))))) else (none)) else (none)) else (none)) = some r := by rw [if_neg (show ¬ (false = true) by decide)] at H; exact H
                clear H; have H := H1; clear H1
                by_cases c22 : 0 ≤ x7_3
                ·
                 rw [if_pos c22] at H
                 have c22b0 := eq_true c22
                 have c22b1 : decide (0 ≤ x7_3) = true := decide_eq_true c22
                 clear c22
                 by_cases c23 : x7_3 ≤ (wrap64 (x9_3 - 1))
                 ·
                  rw [if_pos c23] at H
                  have c23b0 := eq_true c23
                  have c23b1 : decide (x7_3 ≤ (wrap64 (x9_3 - 1))) = true := decide_eq_true c23
                  clear c23
                  by_cases c24 : (wrap64 (x9_3 - 1)) ≤ (t188.size : Int)
                  ·
                   rw [if_pos c24] at H
                   have c24b0 := eq_true c24
                   have c24b1 : decide ((wrap64 (x9_3 - 1)) ≤ (t188.size : Int)) = true := decide_eq_true c24
                   clear c24
                   replace H := Option.bind_eq_some_iff.mp H
                   obtain ⟨⟨t193, t194⟩, A250, H⟩ := H
                   replace H : (if x8_3 = true then (some false) else (if t194 = true then (pouchlaw2_DotsBack.l1 kj12 l0 x3_1 t188 x6_3 (wrap64 (x9_3 + 1)) t194 (wrap64 (x9_3 + 1))) else (if x6_3.size + t193.size ≤ 9223372036854775807 then (if (x6_3 ++ t193).size + 2 ≤ 9223372036854775807 then (pouchlaw2_DotsBack.l1 kj12 l0 x3_1 t188 ((x6_3 ++ t193) ++ (⟨#[13, 10]⟩ : ByteArray)) (wrap64 (x9_3 + 1)) t194 (wrap64 (x9_3 + 1))) else (none)) else (none)))) = some r := H
                   have A25 := am_ A250
                   clear A250
                   by_cases c26 : x8_3 = true
                   ·
                    subst c26
                    have H1 : (some false) = some r := by rw [if_pos rfl] at H; exact H
                    clear H; have H := H1; clear H1
                    obtain rfl := Option.some.inj H
                    go_wp2_with (first | ((with_reducible refine gate_callee (f := 14) rfl ?_); refine goesL_ (some 62) rfl rfl Try.func14 (by kernel_rfl) rfl #[.string (t188.extract (x7_3 : Int).toNat ((wrap64 (x9_3 - 1)) : Int).toNat)] rfl (by (try simp only [m1_, m2_, m3_]); first | done | rfl | (simp only [m4_, m5_]; rfl)) ?_; (with_reducible refine (dots_Take.calls (t188.extract (x7_3 : Int).toNat ((wrap64 (x9_3 - 1)) : Int).toNat) t193 t194 _ A25.out).mono ?_); rintro e w' ⟨rfl, ⟨nd, rfl⟩⟩; refine ⟨_, rfl, ?_⟩))
                    go_ret
                    exact ⟨by first | rfl | (simp [errW_none, errW_some] <;> rfl) | (simp [*, errW_none, errW_some] <;> rfl), by repeat (first | (with_reducible first | exact HB.out | apply ba_ | apply bn_ | apply bd_) | exact HB.out)⟩
                   ·
                    replace c26 := Bool.eq_false_iff.mpr c26
                    subst c26
                    have H1 : (if t194 = true then (pouchlaw2_DotsBack.l1 kj12 l0 x3_1 t188 x6_3 (wrap64 (x9_3 + 1)) t194 (wrap64 (x9_3 + 1))) else (if x6_3.size + t193.size ≤ 9223372036854775807 then (if (x6_3 ++ t193).size + 2 ≤ 9223372036854775807 then (pouchlaw2_DotsBack.l1 kj12 l0 x3_1 t188 ((x6_3 ++ t193) ++ (⟨#[13, 10]⟩ : ByteArray)) (wrap64 (x9_3 + 1)) t194 (wrap64 (x9_3 + 1))) else (none)) else (none))) = some r := by rw [if_neg (show ¬ (false = true) by decide)] at H; exact H
                    clear H; have H := H1; clear H1
                    by_cases c27 : t194 = true
                    ·
                     subst c27
                     have H1 : (pouchlaw2_DotsBack.l1 kj12 l0 x3_1 t188 x6_3 (wrap64 (x9_3 + 1)) true (wrap64 (x9_3 + 1))) = some r := by rw [if_pos rfl] at H; exact H
                     clear H; have H := H1; clear H1
                     have H' := am_ H
                     clear H
                     go_wp2_with (first | ((with_reducible refine gate_callee (f := 14) rfl ?_); refine goesL_ (some 62) rfl rfl Try.func14 (by kernel_rfl) rfl #[.string (t188.extract (x7_3 : Int).toNat ((wrap64 (x9_3 - 1)) : Int).toNat)] rfl (by (try simp only [m1_, m2_, m3_]); first | done | rfl | (simp only [m4_, m5_]; rfl)) ?_; (with_reducible refine (dots_Take.calls (t188.extract (x7_3 : Int).toNat ((wrap64 (x9_3 - 1)) : Int).toNat) t193 true _ A25.out).mono ?_); rintro e w' ⟨rfl, ⟨nd, rfl⟩⟩; refine ⟨_, rfl, ?_⟩))
                     go_roundg kj12
                     case measure => have := HK1.out; have := HJ1.out; have := HK3.out; have := HJ12.out; omega
                     case rel => exact ⟨(x6_3), (wrap64 (x9_3 + 1)), (true), (wrap64 (x9_3 + 1)), (by first | rfl | (simp; done) | (simp [*]; done)), (by first | rfl | (simp; done) | (simp [*]; done)), (by first | rfl | (simp; done) | (simp [*]; done)), (by first | rfl | (simp; done) | (simp [*]; done)), H', ⟨by have := HK1.out; have := HJ1.out; have := HK3.out; have := HJ12.out; omega⟩, ⟨by repeat (first | (with_reducible first | exact HB.out | apply ba_ | apply bn_ | apply bd_) | exact HB.out)⟩⟩
                    ·
                     replace c27 := Bool.eq_false_iff.mpr c27
                     subst c27
                     have H1 : (if x6_3.size + t193.size ≤ 9223372036854775807 then (if (x6_3 ++ t193).size + 2 ≤ 9223372036854775807 then (pouchlaw2_DotsBack.l1 kj12 l0 x3_1 t188 ((x6_3 ++ t193) ++ (⟨#[13, 10]⟩ : ByteArray)) (wrap64 (x9_3 + 1)) false (wrap64 (x9_3 + 1))) else (none)) else (none)) = some r := by rw [if_neg (show ¬ (false = true) by decide)] at H; exact H
                     clear H; have H := H1; clear H1
                     by_cases c28 : x6_3.size + t193.size ≤ 9223372036854775807
                     ·
                      rw [if_pos c28] at H
                      have c28b0 := eq_true c28
                      have c28b1 : decide (x6_3.size + t193.size ≤ 9223372036854775807) = true := decide_eq_true c28
                      try have c28b2 : (9223372036854775807 < x6_3.size + t193.size) = False := eq_false (Nat.not_lt.2 c28)
                      obtain ⟨sc29, hsc29⟩ : ∃ j_ : ByteArray, (x6_3 ++ t193) = j_ := ⟨_, rfl⟩
                      replace H : (if (sc29).size + 2 ≤ 9223372036854775807 then (pouchlaw2_DotsBack.l1 kj12 l0 x3_1 t188 ((sc29) ++ (⟨#[13, 10]⟩ : ByteArray)) (wrap64 (x9_3 + 1)) false (wrap64 (x9_3 + 1))) else (none)) = some r := by first | (rw [hsc29] at H; exact H) | (simp only [hsc29] at H ⊢; exact H)
                      (try rw [hsc29] at A25)
                      by_cases c30 : (sc29).size + 2 ≤ 9223372036854775807
                      ·
                       rw [if_pos c30] at H
                       have c30b0 := eq_true c30
                       have c30b1 : decide ((sc29).size + 2 ≤ 9223372036854775807) = true := decide_eq_true c30
                       try have c30b2 : (9223372036854775807 < (sc29).size + 2) = False := eq_false (Nat.not_lt.2 c30)
                       have H' := am_ H
                       clear H
                       go_wp2_with (first | ((with_reducible refine gate_callee (f := 14) rfl ?_); refine goesL_ (some 62) rfl rfl Try.func14 (by kernel_rfl) rfl #[.string (t188.extract (x7_3 : Int).toNat ((wrap64 (x9_3 - 1)) : Int).toNat)] rfl (by (try simp only [m1_, m2_, m3_]); first | done | rfl | (simp only [m4_, m5_]; rfl)) ?_; (with_reducible refine (dots_Take.calls (t188.extract (x7_3 : Int).toNat ((wrap64 (x9_3 - 1)) : Int).toNat) t193 false _ A25.out).mono ?_); rintro e w' ⟨rfl, ⟨nd, rfl⟩⟩; refine ⟨_, rfl, ?_⟩))
                       go_roundg kj12
                       case measure => have := HK1.out; have := HJ1.out; have := HK3.out; have := HJ12.out; omega
                       case rel => exact ⟨((sc29) ++ (⟨#[13, 10]⟩ : ByteArray)), (wrap64 (x9_3 + 1)), (false), (wrap64 (x9_3 + 1)), (by first | rfl | (simp; done) | (simp only [← hsc29] <;> (first | rfl | simp)) | (simp [*]; done)), (by first | rfl | (simp; done) | (simp [*]; done)), (by first | rfl | (simp; done) | (simp [*]; done)), (by first | rfl | (simp; done) | (simp [*]; done)), H', ⟨by have := HK1.out; have := HJ1.out; have := HK3.out; have := HJ12.out; omega⟩, ⟨by repeat (first | (with_reducible first | exact HB.out | apply ba_ | apply bn_ | apply bd_) | exact HB.out)⟩⟩
                      ·
                       rw [if_neg c30] at H
                       exact absurd H (by simp)
                     ·
                      rw [if_neg c28] at H
                      exact absurd H (by simp)
                  ·
                   rw [if_neg c24] at H
                   exact absurd H (by simp)
                 ·
                  rw [if_neg c23] at H
                  exact absurd H (by simp)
                ·
                 rw [if_neg c22] at H
                 exact absurd H (by simp)
            ·
             rw [if_neg c12] at H
             have c12b0 : decide (x9_3 < (t188.size : Int)) = false := decide_eq_false c12
             clear c12
             by_cases c31 : x8_3 = true
             ·
              subst c31
              have H1 : (if x7_3 = (t188.size : Int) then (if 0 ≤ x3_1 then (if x3_1 < (l0.length : Int) then (if x6_3.toList = (rdOf ByteArray.empty l0 x3_1).toList then (if (t188.size : Int) < (wrap64 (((rdOf ByteArray.empty l0 x3_1).size : Int) + 3)) then (some false) else (pouchlaw2_DotsBack.l0 k3 l0 (wrap64 (x3_1 + 1)))) else (some false)) else (none)) else (none)) else (some false)) = some r := by rw [if_pos rfl] at H; exact H
              clear H; have H := H1; clear H1
              by_cases c32 : x7_3 = (t188.size : Int)
              ·
               rw [if_pos c32] at H
               have c32b0 : (x7_3 == (t188.size : Int)) = true := beq_iff_eq.mpr c32
               have c32b1 : (x7_3 != (t188.size : Int)) = false := bne_eq_false_iff_eq.mpr c32
               clear c32
               by_cases c33 : 0 ≤ x3_1
               ·
                rw [if_pos c33] at H
                have c33b0 : decide (0 ≤ x3_1) = true := decide_eq_true c33
                clear c33
                by_cases c34 : x3_1 < (l0.length : Int)
                ·
                 rw [if_pos c34] at H
                 have c34b0 : decide (x3_1 < (l0.length : Int)) = true := decide_eq_true c34
                 clear c34
                 by_cases c35 : x6_3.toList = (rdOf ByteArray.empty l0 x3_1).toList
                 ·
                  rw [if_pos c35] at H
                  have c35b0 : (x6_3.toList == (rdOf ByteArray.empty l0 x3_1).toList) = true := beq_iff_eq.mpr c35
                  have c35b1 : (x6_3.toList != (rdOf ByteArray.empty l0 x3_1).toList) = false := bne_eq_false_iff_eq.mpr c35
                  clear c35
                  by_cases c36 : (t188.size : Int) < (wrap64 (((rdOf ByteArray.empty l0 x3_1).size : Int) + 3))
                  ·
                   rw [if_pos c36] at H
                   have c36b0 : decide ((t188.size : Int) < (wrap64 (((rdOf ByteArray.empty l0 x3_1).size : Int) + 3))) = true := decide_eq_true c36
                   clear c36
                   obtain rfl := Option.some.inj H
                   have p191 : 0 ≤ (x3_1 : Int) := od_ (by first | (with_reducible assumption) | assumption)
                   have q191 : x3_1 < (l0.length : Int) := od_ (by first | (with_reducible assumption) | assumption)
                   obtain ⟨ad191, e191, hx191_0⟩ := Kd.at_string HR0.out x3_1 p191 q191
                   obtain rfl : ad186 = ad191 := (by injection e191)
                   replace hx191_0 := (HB.out.cell (bl_ w _ hx191_0)).trans hx191_0
                   replace p191 := eq_true p191
                   replace q191 := eq_true q191
                   have p192 : 0 ≤ (x3_1 : Int) := od_ (by first | (with_reducible assumption) | assumption)
                   have q192 : x3_1 < (l0.length : Int) := od_ (by first | (with_reducible assumption) | assumption)
                   obtain ⟨ad192, e192, hx192_0⟩ := Kd.at_string HR0.out x3_1 p192 q192
                   obtain rfl : ad186 = ad192 := (by injection e192)
                   replace hx192_0 := (HB.out.cell (bl_ w _ hx192_0)).trans hx192_0
                   replace p192 := eq_true p192
                   replace q192 := eq_true q192
                   go_wp2
                   go_ret
                   exact ⟨by first | rfl | (simp [errW_none, errW_some] <;> rfl) | (simp [*, errW_none, errW_some] <;> rfl), by repeat (first | (with_reducible first | exact HB.out | apply ba_ | apply bn_ | apply bd_) | exact HB.out)⟩
                  ·
                   rw [if_neg c36] at H
                   have c36b0 : decide ((t188.size : Int) < (wrap64 (((rdOf ByteArray.empty l0 x3_1).size : Int) + 3))) = false := decide_eq_false c36
                   clear c36
                   have H' := am_ H
                   clear H
                   have p191 : 0 ≤ (x3_1 : Int) := od_ (by first | (with_reducible assumption) | assumption)
                   have q191 : x3_1 < (l0.length : Int) := od_ (by first | (with_reducible assumption) | assumption)
                   obtain ⟨ad191, e191, hx191_0⟩ := Kd.at_string HR0.out x3_1 p191 q191
                   obtain rfl : ad186 = ad191 := (by injection e191)
                   replace hx191_0 := (HB.out.cell (bl_ w _ hx191_0)).trans hx191_0
                   replace p191 := eq_true p191
                   replace q191 := eq_true q191
                   have p192 : 0 ≤ (x3_1 : Int) := od_ (by first | (with_reducible assumption) | assumption)
                   have q192 : x3_1 < (l0.length : Int) := od_ (by first | (with_reducible assumption) | assumption)
                   obtain ⟨ad192, e192, hx192_0⟩ := Kd.at_string HR0.out x3_1 p192 q192
                   obtain rfl : ad186 = ad192 := (by injection e192)
                   replace hx192_0 := (HB.out.cell (bl_ w _ hx192_0)).trans hx192_0
                   replace p192 := eq_true p192
                   replace q192 := eq_true q192
                   go_wp2
                   go_roundg k3
                   case measure => have := HK1.out; have := HJ1.out; have := HK3.out; omega
                   case rel => exact ⟨(wrap64 (x3_1 + 1)), (by first | rfl | (simp; done) | (simp [*]; done)), H', ⟨by have := HK1.out; have := HJ1.out; have := HK3.out; omega⟩, ⟨by repeat (first | (with_reducible first | exact HB.out | apply ba_ | apply bn_ | apply bd_) | exact HB.out)⟩⟩
                 ·
                  rw [if_neg c35] at H
                  have c35b0 : (x6_3.toList == (rdOf ByteArray.empty l0 x3_1).toList) = false := beq_eq_false_iff_ne.mpr c35
                  have c35b1 : (x6_3.toList != (rdOf ByteArray.empty l0 x3_1).toList) = true := bne_iff_ne.mpr c35
                  obtain rfl := Option.some.inj H
                  have p191 : 0 ≤ (x3_1 : Int) := od_ (by first | (with_reducible assumption) | assumption)
                  have q191 : x3_1 < (l0.length : Int) := od_ (by first | (with_reducible assumption) | assumption)
                  obtain ⟨ad191, e191, hx191_0⟩ := Kd.at_string HR0.out x3_1 p191 q191
                  obtain rfl : ad186 = ad191 := (by injection e191)
                  replace hx191_0 := (HB.out.cell (bl_ w _ hx191_0)).trans hx191_0
                  replace p191 := eq_true p191
                  replace q191 := eq_true q191
                  go_wp2
                  go_ret
                  exact ⟨by first | rfl | (simp [errW_none, errW_some] <;> rfl) | (simp [*, errW_none, errW_some] <;> rfl), by repeat (first | (with_reducible first | exact HB.out | apply ba_ | apply bn_ | apply bd_) | exact HB.out)⟩
                ·
                 rw [if_neg c34] at H
                 exact absurd H (by simp)
               ·
                rw [if_neg c33] at H
                exact absurd H (by simp)
              ·
               rw [if_neg c32] at H
               have c32b0 : (x7_3 == (t188.size : Int)) = false := beq_eq_false_iff_ne.mpr c32
               have c32b1 : (x7_3 != (t188.size : Int)) = true := bne_iff_ne.mpr c32
               obtain rfl := Option.some.inj H
               go_wp2
               go_ret
               exact ⟨by first | rfl | (simp [errW_none, errW_some] <;> rfl) | (simp [*, errW_none, errW_some] <;> rfl), by repeat (first | (with_reducible first | exact HB.out | apply ba_ | apply bn_ | apply bd_) | exact HB.out)⟩
             ·
              replace c31 := Bool.eq_false_iff.mpr c31
              subst c31
              have H1 : (some false) = some r := by rw [if_neg (show ¬ (false = true) by decide)] at H; exact H
              clear H; have H := H1; clear H1
              obtain rfl := Option.some.inj H
              go_wp2
              go_ret
              exact ⟨by first | rfl | (simp [errW_none, errW_some] <;> rfl) | (simp [*, errW_none, errW_some] <;> rfl), by repeat (first | (with_reducible first | exact HB.out | apply ba_ | apply bn_ | apply bd_) | exact HB.out)⟩
         ·
          rw [if_neg c10] at H
          have c10b0 : (t190 == 0) = false := beq_eq_false_iff_ne.mpr c10
          have c10b1 : (t190 != 0) = true := bne_iff_ne.mpr c10
          have H' := am_ H
          clear H
          have p186 : 0 ≤ (x3_1 : Int) := od_ (by first | (with_reducible assumption) | assumption)
          have q186 : x3_1 < (l0.length : Int) := od_ (by first | (with_reducible assumption) | assumption)
          obtain ⟨ad186, e186, hx186_0⟩ := Kd.at_string HR0.out x3_1 p186 q186
          cases e186
          replace hx186_0 := (HB.out.cell (bl_ w _ hx186_0)).trans hx186_0
          replace p186 := eq_true p186
          replace q186 := eq_true q186
          have p187 : 0 ≤ (x3_1 : Int) := od_ (by first | (with_reducible assumption) | assumption)
          have q187 : x3_1 < (l0.length : Int) := od_ (by first | (with_reducible assumption) | assumption)
          obtain ⟨ad187, e187, hx187_0⟩ := Kd.at_string HR0.out x3_1 p187 q187
          obtain rfl : ad186 = ad187 := (by injection e187)
          replace hx187_0 := (HB.out.cell (bl_ w _ hx187_0)).trans hx187_0
          replace p187 := eq_true p187
          replace q187 := eq_true q187
          go_wp2_with (first | ((with_reducible refine gate_callee (f := 9) rfl ?_); refine goesL_ (some 33) rfl rfl Try.func9 (by kernel_rfl) rfl #[.string (rdOf ByteArray.empty l0 x3_1)] rfl (by (try simp only [m1_, m2_, m3_]); first | done | rfl | (simp only [m4_, m5_]; rfl)) ?_; (with_reducible refine (dots_Stuff.calls kj1 (rdOf ByteArray.empty l0 x3_1) t188 t189 _ ?side1 A8.out).mono ?_); (case side1 => exact GrOk.below hG (by repeat (first | (with_reducible first | exact HB.out | apply ba_ | apply bn_ | apply bd_) | exact HB.out))); rintro e w37 ⟨rfl, hb⟩; refine ⟨_, rfl, ?_⟩; have n0_ := am_ (bt_ (by repeat (first | (with_reducible first | exact HB.out | apply ba_ | apply bn_ | apply bd_) | exact HB.out)) hb); clear HB; have HB := n0_; clear n0_; (try clear hb); (try clear hb2); (try clear hk); (try clear hi)) | ((with_reducible refine gate_callee (f := 10) rfl ?_); refine goesL_ (some 37) rfl rfl Try.func10 (by kernel_rfl) rfl #[.int .i64 t189] rfl (by (try simp only [m1_, m2_, m3_]); first | done | rfl | (simp only [m4_, m5_]; rfl)) ?_; (with_reducible refine (pouchlaw2_num.calls t189 t190 _ A9.out).mono ?_); rintro e w' ⟨rfl, ⟨nd, rfl⟩⟩; refine ⟨_, rfl, ?_⟩))
          go_roundg kj1
          case measure => have := HK1.out; have := HJ1.out; omega
          case rel => exact ⟨(wrap64 (x3_1 + 1)), (by first | rfl | (simp; done) | (simp [*]; done)), H', ⟨by have := HK1.out; have := HJ1.out; omega⟩, ⟨by repeat (first | (with_reducible first | exact HB.out | apply ba_ | apply bn_ | apply bd_) | exact HB.out)⟩⟩
       ·
        rw [if_neg c6] at H
        exact absurd H (by simp)
      ·
       rw [if_neg c5] at H
       exact absurd H (by simp)
     ·
      replace c4 := Bool.eq_false_iff.mpr c4
      subst c4
      have H1 : ((pouchlaw2_wakes.f kj1).bind fun t185 => (some t185)) = some r := by rw [if_neg (show ¬ (false = true) by decide)] at H; exact H
      clear H; have H := H1; clear H1
      replace H := Option.bind_eq_some_iff.mp H
      obtain ⟨t185, A380, H⟩ := H
      replace H : (some t185) = some r := H
      have A38 := am_ A380
      clear A380
      obtain rfl := Option.some.inj H
      go_wp2_with (first | ((with_reducible refine gate_callee (f := 12) rfl ?_); refine goesL_ (some 102) rfl rfl Try.func12 (by kernel_rfl) rfl #[] rfl (by (try simp only [m1_, m2_, m3_]); first | done | rfl | (simp only [m4_, m5_]; rfl)) ?_; (with_reducible refine (pouchlaw2_wakes.calls kj1  t185 _ ?side1 A38.out).mono ?_); (case side1 => exact GrOk.below hG (by repeat (first | (with_reducible first | exact HB.out | apply ba_ | apply bn_ | apply bd_) | exact HB.out))); rintro e w39 ⟨rfl, hb⟩; refine ⟨_, rfl, ?_⟩; have n0_ := am_ (bt_ (by repeat (first | (with_reducible first | exact HB.out | apply ba_ | apply bn_ | apply bd_) | exact HB.out)) hb); clear HB; have HB := n0_; clear n0_; (try clear hb); (try clear hb2); (try clear hk); (try clear hi)))
      go_ret
      exact ⟨by first | rfl | (simp [errW_none, errW_some] <;> rfl) | (simp [*, errW_none, errW_some] <;> rfl), by repeat (first | (with_reducible first | exact HB.out | apply ba_ | apply bn_ | apply bd_) | exact HB.out)⟩

end Go.Proofs.Ytdedodfeopdkaaa.PDo
