-- Written for this claim by a program: the kit's print.py from a scratch copy, turned by wip/tools/ghostprint.py
import Derived.Test.YtdedodfeopdkaaaPDox0
namespace Go.Proofs.Ytdedodfeopdkaaa.PDo
open Go.RowKit Go.Proofs.YtdedodfeopdkaaaW.PrintWords Go.Proofs.YtdedodfeopdkaaaW.PrintLast Go.Proofs.YtdedodfeopdkaaaW.PrintMore
attribute [local go_sem] max2_int min2_int max_two min_two max_three min_three max_four min_four   -- for this text's walks alone
set_option linter.unusedVariables false
set_option linter.unusedSimpArgs false

/-! ### pouchref1_Clean: function 16 -/
def pouchref1_Clean.l0 : Nat → ByteArray → Int → Option (Bool)
 | 0, _, _ => none
 | k + 1, x0, x3 => if x3 < (x0.size : Int) then (if 0 ≤ x3 then (if (bt x0 x3) = 13 then (some false) else (if (bt x0 x3) = 10 then (some false) else (pouchref1_Clean.l0 k x0 (wrap64 (x3 + 1))))) else (none)) else (some (decide ((x0.size : Int) ≤ 509)))
def pouchref1_Clean.f (k : Nat) (a0 : ByteArray) : Option (Bool) := pouchref1_Clean.l0 k a0 0
theorem pouchref1_Clean.mono_l : ∀ k, (∀ y0 y1, LeO (pouchref1_Clean.l0 k y0 y1) (pouchref1_Clean.l0 (k + 1) y0 y1))
 | 0 => fun _ _ r h => by simp [pouchref1_Clean.l0] at h
 | k + 1 => by
  have ih0 := pouchref1_Clean.mono_l k
  ·
   intro y0 y1
   unfold pouchref1_Clean.l0
   repeat' first
   | (with_reducible exact ih0 _ _)
   | (with_reducible exact LeO.refl _)
   | (with_reducible exact LeO.none _)
   | (with_reducible refine LeO.ite ?_ ?_)
   | (with_reducible refine LeO.bind ?_ (fun _ => ?_))
   | exact ih0 _ _
   | exact LeO.none _
   | refine LeO.ite ?_ ?_
   | refine LeO.bind ?_ (fun _ => ?_)
theorem pouchref1_Clean.mono : ∀ a0 k, LeO (pouchref1_Clean.f k a0) (pouchref1_Clean.f (k + 1) a0) := by
 intro a0 k
 have ih0 := pouchref1_Clean.mono_l k
 unfold pouchref1_Clean.f
 repeat' first
   | (with_reducible exact ih0 _ _)
   | (with_reducible exact LeO.refl _)
   | (with_reducible exact LeO.none _)
   | (with_reducible refine LeO.ite ?_ ?_)
   | (with_reducible refine LeO.bind ?_ (fun _ => ?_))
   | exact ih0 _ _
   | exact LeO.none _
   | refine LeO.ite ?_ ?_
   | refine LeO.bind ?_ (fun _ => ?_)
set_option maxHeartbeats 8000000 in
set_option maxRecDepth 100000 in
theorem pouchref1_Clean.calls (k : Nat) (a0 : ByteArray) (r : Bool) (w : World) (h : pouchref1_Clean.f k a0 = some r) :
  Calls Try.prog 16 #[.string a0] w fun e w' => e = .returned (.bool r) ∧ Drawn0 w w' := by
 have H : (pouchref1_Clean.l0 k a0 0) = some r := h
 clear h
 have H' := am_ H
 clear H
 go_enter Try.func16, Try.ntmps16
 go_wp2
 go_loopg [3] k (fun kq v3 w' => ∃ (x3_1 : Int), v3 = .int .i64 x3_1 ∧ Aside0 (pouchref1_Clean.l0 kq a0 x3_1 = some r) ∧ Aside0 (kq ≤ k) ∧ Drawn0 w w')
 case atStart => exact ⟨(0), (by first | rfl | (simp; done) | (simp [*]; done)), H', ⟨Nat.le_refl _⟩, by repeat (first | exact Drawn0.refl _ | apply Drawn0.step)⟩
 case round =>
  clear H'
  try clear c1
  obtain ⟨x3_1, rfl, HA, HK1, ⟨m1, rfl⟩⟩ := hrel
  cases gk with
  | zero => exact absurd HA.out (by simp [pouchref1_Clean.l0])
  | succ k1 =>
   have H := HA.out
   clear HA
   simp only [pouchref1_Clean.l0] at H
   by_cases c2 : x3_1 < (a0.size : Int)
   ·
    rw [if_pos c2] at H
    have c2b0 : decide (x3_1 < (a0.size : Int)) = true := decide_eq_true c2
    clear c2
    by_cases c3 : 0 ≤ x3_1
    ·
     rw [if_pos c3] at H
     have c3b0 : decide (0 ≤ x3_1) = true := decide_eq_true c3
     clear c3
     by_cases c5 : (bt a0 x3_1) = 13
     ·
      rw [if_pos c5] at H
      have c5b0 : ((bt a0 x3_1) == 13) = true := beq_iff_eq.mpr c5
      have c5b1 : ((bt a0 x3_1) != 13) = false := bne_eq_false_iff_eq.mpr c5
      clear c5
      obtain rfl := Option.some.inj H
      have p4 : 0 ≤ (x3_1 : Int) := od_ (by first | (with_reducible assumption) | assumption)
      have q4 : x3_1 < (a0.size : Int) := od_ (by first | (with_reducible assumption) | assumption)
      have hx4 := bt_at a0 x3_1
      replace p4 := eq_true p4
      replace q4 := eq_true q4
      go_wp2
      go_ret
      exact ⟨by first | rfl | (simp; done) | (simp [*]; done), by repeat (first | exact Drawn0.refl _ | apply Drawn0.step)⟩
     ·
      rw [if_neg c5] at H
      have c5b0 : ((bt a0 x3_1) == 13) = false := beq_eq_false_iff_ne.mpr c5
      have c5b1 : ((bt a0 x3_1) != 13) = true := bne_iff_ne.mpr c5
      by_cases c7 : (bt a0 x3_1) = 10
      ·
       rw [if_pos c7] at H
       have c7b0 : ((bt a0 x3_1) == 10) = true := beq_iff_eq.mpr c7
       have c7b1 : ((bt a0 x3_1) != 10) = false := bne_eq_false_iff_eq.mpr c7
       clear c7
       obtain rfl := Option.some.inj H
       have p4 : 0 ≤ (x3_1 : Int) := od_ (by first | (with_reducible assumption) | assumption)
       have q4 : x3_1 < (a0.size : Int) := od_ (by first | (with_reducible assumption) | assumption)
       have hx4 := bt_at a0 x3_1
       replace p4 := eq_true p4
       replace q4 := eq_true q4
       have p6 : 0 ≤ (x3_1 : Int) := od_ (by first | (with_reducible assumption) | assumption)
       have q6 : x3_1 < (a0.size : Int) := od_ (by first | (with_reducible assumption) | assumption)
       have hx6 := bt_at a0 x3_1
       replace p6 := eq_true p6
       replace q6 := eq_true q6
       go_wp2
       go_ret
       exact ⟨by first | rfl | (simp; done) | (simp [*]; done), by repeat (first | exact Drawn0.refl _ | apply Drawn0.step)⟩
      ·
       rw [if_neg c7] at H
       have c7b0 : ((bt a0 x3_1) == 10) = false := beq_eq_false_iff_ne.mpr c7
       have c7b1 : ((bt a0 x3_1) != 10) = true := bne_iff_ne.mpr c7
       have H' := am_ H
       clear H
       have p4 : 0 ≤ (x3_1 : Int) := od_ (by first | (with_reducible assumption) | assumption)
       have q4 : x3_1 < (a0.size : Int) := od_ (by first | (with_reducible assumption) | assumption)
       have hx4 := bt_at a0 x3_1
       replace p4 := eq_true p4
       replace q4 := eq_true q4
       have p6 : 0 ≤ (x3_1 : Int) := od_ (by first | (with_reducible assumption) | assumption)
       have q6 : x3_1 < (a0.size : Int) := od_ (by first | (with_reducible assumption) | assumption)
       have hx6 := bt_at a0 x3_1
       replace p6 := eq_true p6
       replace q6 := eq_true q6
       go_wp2
       go_roundg k1
       case measure => have := HK1.out; omega
       case rel => exact ⟨(wrap64 (x3_1 + 1)), (by first | rfl | (simp; done) | (simp [*]; done)), H', ⟨by have := HK1.out; omega⟩, by repeat (first | exact Drawn0.refl _ | apply Drawn0.step)⟩
    ·
     rw [if_neg c3] at H
     exact absurd H (by simp)
   ·
    rw [if_neg c2] at H
    have c2b0 : decide (x3_1 < (a0.size : Int)) = false := decide_eq_false c2
    clear c2
    obtain rfl := Option.some.inj H
    go_wp2
    go_ret
    exact ⟨by first | rfl | (simp; done) | (simp [*]; done), by repeat (first | exact Drawn0.refl _ | apply Drawn0.step)⟩

/-! ### pouchref1_Rows: function 7 -/
mutual
def pouchref1_Rows.l0 : Nat → ByteArray → List ByteArray → Int → Int → Option (List ByteArray × Bool)
 | 0, _, _, _, _ => none
 | k + 1, x0, x4, x5, x6 => if x6 < (x0.size : Int) then (if 0 ≤ x6 then (if (bt x0 x6) = 10 then (if x6 = x5 then (pouchref1_Rows.j1 k x0 x4 x5 x6 true) else (if 0 ≤ (wrap64 (x6 - 1)) then (if (wrap64 (x6 - 1)) < (x0.size : Int) then (pouchref1_Rows.j1 k x0 x4 x5 x6 ((bt x0 (wrap64 (x6 - 1))) != 13)) else (none)) else (none))) else (pouchref1_Rows.j1 k x0 x4 x5 x6 true)) else (none)) else (some (x4, (x5 == (x0.size : Int))))
def pouchref1_Rows.j1 : Nat → ByteArray → List ByteArray → Int → Int → Bool → Option (List ByteArray × Bool)
 | 0, _, _, _, _, _ => none
 | k + 1, x0, x4, x5, x6, x31 => if x31 = true then (pouchref1_Rows.l0 k x0 x4 x5 (wrap64 (x6 + 1))) else (if 0 ≤ x5 then (if x5 ≤ (wrap64 (x6 - 1)) then (if (wrap64 (x6 - 1)) ≤ (x0.size : Int) then ((pouchref1_Clean.f k (x0.extract (x5 : Int).toNat ((wrap64 (x6 - 1)) : Int).toNat)).bind fun t101 => (if t101 = true then (if x4.length < 8796093022208 then (pouchref1_Rows.l0 k x0 (x4 ++ [x0.extract (x5 : Int).toNat ((wrap64 (x6 - 1)) : Int).toNat]) (wrap64 (x6 + 1)) (wrap64 (x6 + 1))) else (none)) else (some (([] : List ByteArray), false)))) else (none)) else (none)) else (none))
end
def pouchref1_Rows.f (k : Nat) (a0 : ByteArray) : Option (List ByteArray × Bool) := if (a0.size : Int) > 8192 then (some (([] : List ByteArray), false)) else (pouchref1_Rows.l0 k a0 ([] : List ByteArray) 0 0)
theorem pouchref1_Rows.mono_l : ∀ k, (∀ y0 y1 y2 y3, LeO (pouchref1_Rows.l0 k y0 y1 y2 y3) (pouchref1_Rows.l0 (k + 1) y0 y1 y2 y3)) ∧ (∀ y0 y1 y2 y3 y4, LeO (pouchref1_Rows.j1 k y0 y1 y2 y3 y4) (pouchref1_Rows.j1 (k + 1) y0 y1 y2 y3 y4))
 | 0 => ⟨fun _ _ _ _ r h => by simp [pouchref1_Rows.l0] at h, fun _ _ _ _ _ r h => by simp [pouchref1_Rows.j1] at h⟩
 | k + 1 => by
  obtain ⟨ih0, ih1⟩ := pouchref1_Rows.mono_l k
  refine ⟨?_, ?_⟩
  ·
   intro y0 y1 y2 y3
   unfold pouchref1_Rows.l0
   repeat' first
   | (with_reducible exact ih0 _ _ _ _)
   | (with_reducible exact ih1 _ _ _ _ _)
   | (with_reducible exact pouchref1_Clean.mono _ _)
   | (with_reducible exact LeO.refl _)
   | (with_reducible exact LeO.none _)
   | (with_reducible refine LeO.ite ?_ ?_)
   | (with_reducible refine LeO.bind ?_ (fun _ => ?_))
   | exact ih0 _ _ _ _
   | exact ih1 _ _ _ _ _
   | exact pouchref1_Clean.mono _ _
   | exact LeO.none _
   | refine LeO.ite ?_ ?_
   | refine LeO.bind ?_ (fun _ => ?_)
  ·
   intro y0 y1 y2 y3 y4
   unfold pouchref1_Rows.j1
   repeat' first
   | (with_reducible exact ih0 _ _ _ _)
   | (with_reducible exact ih1 _ _ _ _ _)
   | (with_reducible exact pouchref1_Clean.mono _ _)
   | (with_reducible exact LeO.refl _)
   | (with_reducible exact LeO.none _)
   | (with_reducible refine LeO.ite ?_ ?_)
   | (with_reducible refine LeO.bind ?_ (fun _ => ?_))
   | exact ih0 _ _ _ _
   | exact ih1 _ _ _ _ _
   | exact pouchref1_Clean.mono _ _
   | exact LeO.none _
   | refine LeO.ite ?_ ?_
   | refine LeO.bind ?_ (fun _ => ?_)
theorem pouchref1_Rows.mono : ∀ a0 k, LeO (pouchref1_Rows.f k a0) (pouchref1_Rows.f (k + 1) a0) := by
 intro a0 k
 obtain ⟨ih0, ih1⟩ := pouchref1_Rows.mono_l k
 unfold pouchref1_Rows.f
 repeat' first
   | (with_reducible exact ih0 _ _ _ _)
   | (with_reducible exact ih1 _ _ _ _ _)
   | (with_reducible exact pouchref1_Clean.mono _ _)
   | (with_reducible exact LeO.refl _)
   | (with_reducible exact LeO.none _)
   | (with_reducible refine LeO.ite ?_ ?_)
   | (with_reducible refine LeO.bind ?_ (fun _ => ?_))
   | exact ih0 _ _ _ _
   | exact ih1 _ _ _ _ _
   | exact pouchref1_Clean.mono _ _
   | exact LeO.none _
   | refine LeO.ite ?_ ?_
   | refine LeO.bind ?_ (fun _ => ?_)
set_option maxHeartbeats 8000000 in
set_option maxRecDepth 100000 in
theorem pouchref1_Rows.calls (k : Nat) (a0 : ByteArray) (r1 : List ByteArray) (r2 : Bool) (w : World) (h : pouchref1_Rows.f k a0 = some (r1, r2)) :
  Calls Try.prog 7 #[.string a0] w fun e w' => ∃ v0_ : Value, e = .returned (.tuple #[v0_, .bool r2]) ∧ Kd.R Kd.string 9 w' w.heap.size (fun _ => True) v0_ r1 ∧ Below w.heap.size w w' := by
 have HB := am_ (Below.refl w.heap.size w)
 have H : (if (a0.size : Int) > 8192 then (some (([] : List ByteArray), false)) else (pouchref1_Rows.l0 k a0 ([] : List ByteArray) 0 0)) = some (r1, r2) := h
 clear h
 by_cases c2 : (a0.size : Int) > 8192
 ·
  rw [if_pos c2] at H
  have c2b0 : decide (8192 < (a0.size : Int)) = true := decide_eq_true c2
  have c2b1 : decide (8192 < a0.size) = true := decide_eq_true (by omega)
  clear c2
  simp only [Option.some.injEq, Prod.mk.injEq] at H
  obtain ⟨rfl, rfl⟩ := H
  go_enter Try.func7, Try.ntmps7
  go_wp2
  go_ret2
  exact ⟨_, by first | rfl | (simp [errW_none, errW_some] <;> rfl) | (simp [*, errW_none, errW_some] <;> rfl), by first | exact Kd.R_nil _ _ _ _ _ | exact Kd.N_nil _ _ _ _ _ | exact Kd.V_nil _ _ _ _ _ | exact Kd.Q_nil _ _ _ _ _ | exact Kd.S_nil _ _ _ _ _, by repeat (first | (with_reducible first | exact HB.out | apply ba_ | apply bn_ | apply bd_) | exact HB.out)⟩
 ·
  rw [if_neg c2] at H
  have c2b0 : decide (8192 < (a0.size : Int)) = false := decide_eq_false c2
  have c2b1 : decide (8192 < a0.size) = false := decide_eq_false (by omega)
  clear c2
  have H' := am_ H
  clear H
  go_enter Try.func7, Try.ntmps7
  go_wp2
  go_loopg [4, 5, 6] k (fun kq v4 v5 v6 w' => ∃ (x4_1 : List ByteArray) (x5_1 : Int) (x6_1 : Int), v5 = .int .i64 x5_1 ∧ v6 = .int .i64 x6_1 ∧ Aside0 (pouchref1_Rows.l0 kq a0 x4_1 x5_1 x6_1 = some (r1, r2)) ∧ Aside0 (kq ≤ k) ∧ Aside0 (Kd.R Kd.string 9 w' w.heap.size (fun _ => True) v4 x4_1) ∧ Aside0 (Below w.heap.size w w'))
  case atStart => exact ⟨(([] : List ByteArray)), (0), (0), (by first | rfl | (simp; done) | (simp [*]; done)), (by first | rfl | (simp; done) | (simp [*]; done)), H', ⟨Nat.le_refl _⟩, ⟨by first | exact Kd.R_nil _ _ _ _ _ | exact Kd.N_nil _ _ _ _ _ | exact Kd.V_nil _ _ _ _ _ | exact Kd.Q_nil _ _ _ _ _ | exact Kd.S_nil _ _ _ _ _⟩, ⟨by repeat (first | (with_reducible first | exact HB.out | apply ba_ | apply bn_ | apply bd_) | exact HB.out)⟩⟩
  case round =>
   clear H'
   try clear c2
   try clear c2b0
   try clear c2b1
   try clear p2
   obtain ⟨x4_1, x5_1, x6_1, rfl, rfl, HA, HK1, HO_4, HB⟩ := hrel
   cases gk with
   | zero => exact absurd HA.out (by simp [pouchref1_Rows.l0])
   | succ k1 =>
    have H := HA.out
    clear HA
    simp only [pouchref1_Rows.l0] at H
    by_cases c3 : x6_1 < (a0.size : Int)
    ·
     rw [if_pos c3] at H
     have c3b0 : decide (x6_1 < (a0.size : Int)) = true := decide_eq_true c3
     clear c3
     have HC4 := am_ H
     clear H
     go_upto_region 8 with (fail)
     go_cut [31] (fun v31 wc => ∃ (kq : Nat) (x31_3 : Bool), v31 = .bool x31_3 ∧ Aside0 (pouchref1_Rows.j1 kq a0 x4_1 x5_1 x6_1 x31_3 = some (r1, r2)) ∧ Aside0 (kq ≤ k1) ∧ Aside0 (Kd.R Kd.string 9 wc w.heap.size (fun _ => True) u4 x4_1) ∧ Aside0 (Below w.heap.size w wc))
     case first =>
      have H := HC4.out
      clear HC4
      by_cases c5 : 0 ≤ x6_1
      ·
       rw [if_pos c5] at H
       have c5b0 : decide (0 ≤ x6_1) = true := decide_eq_true c5
       clear c5
       (first | rw [c5b0] | (simp only [i64_w, i32_w]; rw [c5b0]) | skip)
       by_cases c7 : (bt a0 x6_1) = 10
       ·
        rw [if_pos c7] at H
        have c7b0 : ((bt a0 x6_1) == 10) = true := beq_iff_eq.mpr c7
        have c7b1 : ((bt a0 x6_1) != 10) = false := bne_eq_false_iff_eq.mpr c7
        clear c7
        by_cases c8 : x6_1 = x5_1
        ·
         rw [if_pos c8] at H
         have c8b0 : (x6_1 == x5_1) = true := beq_iff_eq.mpr c8
         have c8b1 : (x6_1 != x5_1) = false := bne_eq_false_iff_eq.mpr c8
         clear c8
         have H' := am_ H
         clear H
         have p6 : 0 ≤ (x6_1 : Int) := od_ (by first | (with_reducible assumption) | assumption)
         have q6 : x6_1 < (a0.size : Int) := od_ (by first | (with_reducible assumption) | assumption)
         have hx6 := bt_at a0 x6_1
         replace p6 := eq_true p6
         replace q6 := eq_true q6
         go_wp2
         go_meet
         case rel => exact ⟨_, (true), (by first | rfl | (simp; done) | (simp [*]; done)), H', ⟨by have := HK1.out; first | omega | exact Nat.le_refl _⟩, ⟨by (with_reducible repeat (first | apply ra_ | apply rn_ | apply re_)); exact HO_4.out⟩, ⟨by repeat (first | (with_reducible first | exact HB.out | apply ba_ | apply bn_ | apply bd_) | exact HB.out)⟩⟩
        ·
         rw [if_neg c8] at H
         have c8b0 : (x6_1 == x5_1) = false := beq_eq_false_iff_ne.mpr c8
         have c8b1 : (x6_1 != x5_1) = true := bne_iff_ne.mpr c8
         obtain ⟨ji9, hji9⟩ : ∃ j_ : Int, (wrap64 (x6_1 - 1)) = j_ := ⟨_, rfl⟩
         replace H : (if 0 ≤ (ji9) then (if (ji9) < (a0.size : Int) then (pouchref1_Rows.j1 k1 a0 x4_1 x5_1 x6_1 ((bt a0 (ji9)) != 13)) else (none)) else (none)) = some (r1, r2) := by first | (rw [hji9] at H; exact H) | (simp only [hji9] at H ⊢; exact H)
         have hji9w : (IntKind.i64.wrap (x6_1 - 1)) = ji9 := (i64_w _).trans hji9
         by_cases c10 : 0 ≤ (ji9)
         ·
          rw [if_pos c10] at H
          have c10b0 : decide (0 ≤ (ji9)) = true := decide_eq_true c10
          clear c10
          by_cases c11 : (ji9) < (a0.size : Int)
          ·
           rw [if_pos c11] at H
           have c11b0 : decide ((ji9) < (a0.size : Int)) = true := decide_eq_true c11
           clear c11
           have H' := am_ H
           clear H
           have p6 : 0 ≤ (x6_1 : Int) := od_ (by first | (with_reducible assumption) | assumption)
           have q6 : x6_1 < (a0.size : Int) := od_ (by first | (with_reducible assumption) | assumption)
           have hx6 := bt_at a0 x6_1
           replace p6 := eq_true p6
           replace q6 := eq_true q6
           have p12 : 0 ≤ ((ji9) : Int) := od_ (by first | (with_reducible assumption) | assumption)
           have q12 : (ji9) < (a0.size : Int) := od_ (by first | (with_reducible assumption) | assumption)
           have hx12 := bt_at a0 (ji9)
           replace p12 := eq_true p12
           replace q12 := eq_true q12
           go_wp2
           go_meet
           case rel => exact ⟨_, (((bt a0 (ji9)) != 13)), (by first | rfl | (simp; done) | (simp only [← hji9] <;> (first | rfl | simp)) | (simp [*]; done)), H', ⟨by have := HK1.out; first | omega | exact Nat.le_refl _⟩, ⟨by (with_reducible repeat (first | apply ra_ | apply rn_ | apply re_)); exact HO_4.out⟩, ⟨by repeat (first | (with_reducible first | exact HB.out | apply ba_ | apply bn_ | apply bd_) | exact HB.out)⟩⟩
          ·
           rw [if_neg c11] at H
           exact absurd H (by simp)
         ·
          rw [if_neg c10] at H
          exact absurd H (by simp)
       ·
        rw [if_neg c7] at H
        have c7b0 : ((bt a0 x6_1) == 10) = false := beq_eq_false_iff_ne.mpr c7
        have c7b1 : ((bt a0 x6_1) != 10) = true := bne_iff_ne.mpr c7
        have H' := am_ H
        clear H
        have p6 : 0 ≤ (x6_1 : Int) := od_ (by first | (with_reducible assumption) | assumption)
        have q6 : x6_1 < (a0.size : Int) := od_ (by first | (with_reducible assumption) | assumption)
        have hx6 := bt_at a0 x6_1
        replace p6 := eq_true p6
        replace q6 := eq_true q6
        go_wp2
        go_meet
        case rel => exact ⟨_, (true), (by first | rfl | (simp; done) | (simp [*]; done)), H', ⟨by have := HK1.out; first | omega | exact Nat.le_refl _⟩, ⟨by (with_reducible repeat (first | apply ra_ | apply rn_ | apply re_)); exact HO_4.out⟩, ⟨by repeat (first | (with_reducible first | exact HB.out | apply ba_ | apply bn_ | apply bd_) | exact HB.out)⟩⟩
      ·
       rw [if_neg c5] at H
       exact absurd H (by simp)
     case rest =>
      clear HC4
      try clear c1
      try clear p1
      try clear q1
      try clear hx1
      try clear c2
      try clear c2b0
      try clear c2b1
      try clear p2
      try clear c3
      try clear c3b0
      try clear c5
      try clear c5b0
      try clear p6
      try clear q6
      try clear hx6
      try clear c7
      try clear c7b0
      try clear c7b1
      try clear c8
      try clear c8b0
      try clear c8b1
      try clear c10
      try clear c10b0
      try clear c11
      try clear c11b0
      try clear p12
      try clear q12
      try clear hx12
      try clear p12
      try clear p2
      try clear p6
      try clear q12
      try clear q6
      obtain ⟨kq, x31_3, rfl, HA, HJ3, HO_4, HB⟩ := hcut
      cases kq with
      | zero => exact absurd HA.out (by simp [pouchref1_Rows.j1])
      | succ kj3 =>
       have H := HA.out
       clear HA
       simp only [pouchref1_Rows.j1] at H
       by_cases c13 : x31_3 = true
       ·
        subst c13
        have H1 : (pouchref1_Rows.l0 kj3 a0 x4_1 x5_1 (wrap64 (x6_1 + 1))) = some (r1, r2) := by rw [if_pos rfl] at H; exact H
        clear H; have H := H1; clear H1
        have H' := am_ H
        clear H
        go_wp2
        go_roundg kj3
        case measure => have := HK1.out; have := HJ3.out; omega
        case rel => exact ⟨(x4_1), (x5_1), (wrap64 (x6_1 + 1)), (by first | rfl | (simp; done) | (simp [*]; done)), (by first | rfl | (simp; done) | (simp [*]; done)), H', ⟨by have := HK1.out; have := HJ3.out; omega⟩, ⟨by (with_reducible repeat (first | apply ra_ | apply rn_ | apply re_)); exact HO_4.out⟩, ⟨by repeat (first | (with_reducible first | exact HB.out | apply ba_ | apply bn_ | apply bd_) | exact HB.out)⟩⟩
       ·
        replace c13 := Bool.eq_false_iff.mpr c13
        subst c13
        have H1 : (if 0 ≤ x5_1 then (if x5_1 ≤ (wrap64 (x6_1 - 1)) then (if (wrap64 (x6_1 - 1)) ≤ (a0.size : Int) then ((pouchref1_Clean.f kj3 (a0.extract (x5_1 : Int).toNat ((wrap64 (x6_1 - 1)) : Int).toNat)).bind fun t101 => (if t101 = true then (if x4_1.length < 8796093022208 then (pouchref1_Rows.l0 kj3 a0 (x4_1 ++ [a0.extract (x5_1 : Int).toNat ((wrap64 (x6_1 - 1)) : Int).toNat]) (wrap64 (x6_1 + 1)) (wrap64 (x6_1 + 1))) else (none)) else (some (([] : List ByteArray), false)))) else (none)) else (none)) else (none)) = some (r1, r2) := by rw [if_neg (show ¬ (false = true) by decide)] at H; exact H
        clear H; have H := H1; clear H1
        by_cases c14 : 0 ≤ x5_1
        ·
         rw [if_pos c14] at H
         have c14b0 := eq_true c14
         have c14b1 : decide (0 ≤ x5_1) = true := decide_eq_true c14
         clear c14
         by_cases c15 : x5_1 ≤ (wrap64 (x6_1 - 1))
         ·
          rw [if_pos c15] at H
          have c15b0 := eq_true c15
          have c15b1 : decide (x5_1 ≤ (wrap64 (x6_1 - 1))) = true := decide_eq_true c15
          clear c15
          by_cases c16 : (wrap64 (x6_1 - 1)) ≤ (a0.size : Int)
          ·
           rw [if_pos c16] at H
           have c16b0 := eq_true c16
           have c16b1 : decide ((wrap64 (x6_1 - 1)) ≤ (a0.size : Int)) = true := decide_eq_true c16
           clear c16
           replace H := Option.bind_eq_some_iff.mp H
           obtain ⟨t101, A170, H⟩ := H
           replace H : (if t101 = true then (if x4_1.length < 8796093022208 then (pouchref1_Rows.l0 kj3 a0 (x4_1 ++ [a0.extract (x5_1 : Int).toNat ((wrap64 (x6_1 - 1)) : Int).toNat]) (wrap64 (x6_1 + 1)) (wrap64 (x6_1 + 1))) else (none)) else (some (([] : List ByteArray), false))) = some (r1, r2) := H
           have A17 := am_ A170
           clear A170
           by_cases c18 : t101 = true
           ·
            subst c18
            have H1 : (if x4_1.length < 8796093022208 then (pouchref1_Rows.l0 kj3 a0 (x4_1 ++ [a0.extract (x5_1 : Int).toNat ((wrap64 (x6_1 - 1)) : Int).toNat]) (wrap64 (x6_1 + 1)) (wrap64 (x6_1 + 1))) else (none)) = some (r1, r2) := by rw [if_pos rfl] at H; exact H
            clear H; have H := H1; clear H1
            have c19b0 := eq_true (od_ (by first | (with_reducible assumption) | assumption) : 0 ≤ x5_1)
            have c20b0 := eq_true (od_ (by first | (with_reducible assumption) | assumption) : x5_1 ≤ (wrap64 (x6_1 - 1)))
            have c21b0 := eq_true (od_ (by first | (with_reducible assumption) | assumption) : (wrap64 (x6_1 - 1)) ≤ (a0.size : Int))
            by_cases c22 : x4_1.length < 8796093022208
            ·
             rw [if_pos c22] at H
             have LMc22 := am_ c22
             clear c22
             obtain ⟨y102, hy102⟩ : ∃ y_ : List ByteArray, y_ = (x4_1 ++ [a0.extract (x5_1 : Int).toNat ((wrap64 (x6_1 - 1)) : Int).toNat]) := ⟨_, rfl⟩
             replace H : (pouchref1_Rows.l0 kj3 a0 y102 (wrap64 (x6_1 + 1)) (wrap64 (x6_1 + 1))) = some (r1, r2) := by first | (rw [hy102]; with_reducible exact H) | (have H2_ := (Option.bind_some _ _).symm.trans H; rw [hy102]; with_reducible exact H2_) | (have H2_ := (Option.bind_some _ _).symm.trans H; with_reducible exact H2_) | with_reducible exact H | (rw [hy102]; exact H) | exact H
             have Ny102 := am_ hy102
             clear hy102
             have H' := am_ H
             clear H
             go_wp2_with (first | ((with_reducible refine gate_callee (f := 16) rfl ?_); refine goesL_ (some 37) rfl rfl Try.func16 (by kernel_rfl) rfl #[.string (a0.extract (x5_1 : Int).toNat ((wrap64 (x6_1 - 1)) : Int).toNat)] rfl (by (try simp only [m1_, m2_, m3_]); first | done | rfl | (simp only [m4_, m5_]; rfl)) ?_; (with_reducible refine (pouchref1_Clean.calls kj3 (a0.extract (x5_1 : Int).toNat ((wrap64 (x6_1 - 1)) : Int).toNat) true _ A17.out).mono ?_); rintro e w' ⟨rfl, ⟨nd, rfl⟩⟩; refine ⟨_, rfl, ?_⟩) | ((with_reducible refine gate_builtin (b := .append) (xs := #[.tmp 39, .tmp 45]) rfl ?_); at_builtin; refine Kd.R_append Kd.string (w0 := w) w.heap.size rfl (.tmp 39) (.tmp 45) 22 9 (.string ⟨#[]⟩) 16 rfl Try.underlying22 info9 rfl (by decide) (by omega) u4 x4_1 (a0.extract (x5_1 : Int).toNat ((wrap64 (x6_1 - 1)) : Int).toNat) [.string (a0.extract (x5_1 : Int).toNat ((wrap64 (x6_1 - 1)) : Int).toNat)] (fun _ => True) (fun _ => False) rfl rfl ?aP (fun _ hk => hk.elim) ?aF ?aO ?aB ?aS ?aL ?_; (case aP => exact rfl); (case aB => exact (by repeat (first | (with_reducible first | exact HB.out | apply ba_ | apply bn_ | apply bd_) | exact HB.out))); (case aF => exact (fun _ _ => trivial)); (case aO => exact (by (with_reducible repeat (first | apply ra_ | apply rn_ | apply re_)); exact HO_4.out)); (case aS => exact (bz_ (by repeat (first | (with_reducible first | exact HB.out | apply ba_ | apply bn_ | apply bd_) | exact HB.out)))); (case aL => have := LMc22.out; omega); intro v103 w23 ho hb hg hat; rw [← Ny102.out] at ho; have n0_ := am_ (hb); have n1_ := am_ (ho); clear HB; clear HO_4; have HB := n0_; have HO104 := n1_; clear n0_ n1_; clear ho hb hg hat))
             go_roundg kj3
             case measure => have := HK1.out; have := HJ3.out; omega
             case rel => exact ⟨(y102), (wrap64 (x6_1 + 1)), (wrap64 (x6_1 + 1)), (by first | rfl | (simp; done) | (simp [*]; done)), (by first | rfl | (simp; done) | (simp [*]; done)), H', ⟨by have := HK1.out; have := HJ3.out; omega⟩, ⟨by (with_reducible repeat (first | apply ra_ | apply rn_ | apply re_)); exact HO104.out⟩, ⟨by repeat (first | (with_reducible first | exact HB.out | apply ba_ | apply bn_ | apply bd_) | exact HB.out)⟩⟩
            ·
             rw [if_neg c22] at H
             exact absurd H (by simp)
           ·
            replace c18 := Bool.eq_false_iff.mpr c18
            subst c18
            have H1 : (some (([] : List ByteArray), false)) = some (r1, r2) := by rw [if_neg (show ¬ (false = true) by decide)] at H; exact H
            clear H; have H := H1; clear H1
            simp only [Option.some.injEq, Prod.mk.injEq] at H
            obtain ⟨rfl, rfl⟩ := H
            go_wp2_with (first | ((with_reducible refine gate_callee (f := 16) rfl ?_); refine goesL_ (some 37) rfl rfl Try.func16 (by kernel_rfl) rfl #[.string (a0.extract (x5_1 : Int).toNat ((wrap64 (x6_1 - 1)) : Int).toNat)] rfl (by (try simp only [m1_, m2_, m3_]); first | done | rfl | (simp only [m4_, m5_]; rfl)) ?_; (with_reducible refine (pouchref1_Clean.calls kj3 (a0.extract (x5_1 : Int).toNat ((wrap64 (x6_1 - 1)) : Int).toNat) false _ A17.out).mono ?_); rintro e w' ⟨rfl, ⟨nd, rfl⟩⟩; refine ⟨_, rfl, ?_⟩))
            go_ret2
            exact ⟨_, by first | rfl | (simp [errW_none, errW_some] <;> rfl) | (simp [*, errW_none, errW_some] <;> rfl), by first | exact Kd.R_nil _ _ _ _ _ | exact Kd.N_nil _ _ _ _ _ | exact Kd.V_nil _ _ _ _ _ | exact Kd.Q_nil _ _ _ _ _ | exact Kd.S_nil _ _ _ _ _, by repeat (first | (with_reducible first | exact HB.out | apply ba_ | apply bn_ | apply bd_) | exact HB.out)⟩
          ·
           rw [if_neg c16] at H
           exact absurd H (by simp)
         ·
          rw [if_neg c15] at H
          exact absurd H (by simp)
        ·
         rw [if_neg c14] at H
         exact absurd H (by simp)
    ·
     rw [if_neg c3] at H
     have c3b0 : decide (x6_1 < (a0.size : Int)) = false := decide_eq_false c3
     clear c3
     simp only [Option.some.injEq, Prod.mk.injEq] at H
     obtain ⟨rfl, rfl⟩ := H
     go_wp2
     go_ret2
     exact ⟨_, by first | rfl | (simp [errW_none, errW_some] <;> rfl) | (simp [*, errW_none, errW_some] <;> rfl), by (with_reducible repeat (first | apply ra_ | apply rn_ | apply re_)); exact HO_4.out, by repeat (first | (with_reducible first | exact HB.out | apply ba_ | apply bn_ | apply bd_) | exact HB.out)⟩

/-! ### pouchref1_Stuff: function 8 -/
def pouchref1_Stuff.l0 : Nat → List ByteArray → ByteArray → Int → Option (ByteArray)
 | 0, _, _, _ => none
 | k + 1, x3, x5, x6 => if x6 < (x3.length : Int) then (if 0 ≤ x6 then (if ((rdOf ByteArray.empty x3 x6).size : Int) > 0 then (if 0 < ((rdOf ByteArray.empty x3 x6).size : Int) then (if (bt (rdOf ByteArray.empty x3 x6) 0) = 46 then (if x5.size + 1 ≤ 9223372036854775807 then (if (x5 ++ (⟨#[46]⟩ : ByteArray)).size + (rdOf ByteArray.empty x3 x6).size ≤ 9223372036854775807 then (if ((x5 ++ (⟨#[46]⟩ : ByteArray)) ++ (rdOf ByteArray.empty x3 x6)).size + 2 ≤ 9223372036854775807 then (pouchref1_Stuff.l0 k x3 (((x5 ++ (⟨#[46]⟩ : ByteArray)) ++ (rdOf ByteArray.empty x3 x6)) ++ (⟨#[13, 10]⟩ : ByteArray)) (wrap64 (x6 + 1))) else (none)) else (none)) else (none)) else (if x5.size + (rdOf ByteArray.empty x3 x6).size ≤ 9223372036854775807 then (if (x5 ++ (rdOf ByteArray.empty x3 x6)).size + 2 ≤ 9223372036854775807 then (pouchref1_Stuff.l0 k x3 ((x5 ++ (rdOf ByteArray.empty x3 x6)) ++ (⟨#[13, 10]⟩ : ByteArray)) (wrap64 (x6 + 1))) else (none)) else (none))) else (none)) else (if x5.size + (rdOf ByteArray.empty x3 x6).size ≤ 9223372036854775807 then (if (x5 ++ (rdOf ByteArray.empty x3 x6)).size + 2 ≤ 9223372036854775807 then (pouchref1_Stuff.l0 k x3 ((x5 ++ (rdOf ByteArray.empty x3 x6)) ++ (⟨#[13, 10]⟩ : ByteArray)) (wrap64 (x6 + 1))) else (none)) else (none))) else (none)) else (if x5.size + 3 ≤ 9223372036854775807 then (some (x5 ++ (⟨#[46, 13, 10]⟩ : ByteArray))) else (none))
def pouchref1_Stuff.f (k : Nat) (a0 : ByteArray) : Option (ByteArray) := (pouchref1_Rows.f k a0).bind fun bt105 => (pouchref1_Stuff.l0 k bt105.1 (⟨#[]⟩ : ByteArray) 0)
theorem pouchref1_Stuff.mono_l : ∀ k, (∀ y0 y1 y2, LeO (pouchref1_Stuff.l0 k y0 y1 y2) (pouchref1_Stuff.l0 (k + 1) y0 y1 y2))
 | 0 => fun _ _ _ r h => by simp [pouchref1_Stuff.l0] at h
 | k + 1 => by
  have ih0 := pouchref1_Stuff.mono_l k
  ·
   intro y0 y1 y2
   unfold pouchref1_Stuff.l0
   repeat' first
   | (with_reducible exact ih0 _ _ _)
   | (with_reducible exact pouchref1_Rows.mono _ _)
   | (with_reducible exact LeO.refl _)
   | (with_reducible exact LeO.none _)
   | (with_reducible refine LeO.ite ?_ ?_)
   | (with_reducible refine LeO.bind ?_ (fun _ => ?_))
   | exact ih0 _ _ _
   | exact pouchref1_Rows.mono _ _
   | exact LeO.none _
   | refine LeO.ite ?_ ?_
   | refine LeO.bind ?_ (fun _ => ?_)
theorem pouchref1_Stuff.mono : ∀ a0 k, LeO (pouchref1_Stuff.f k a0) (pouchref1_Stuff.f (k + 1) a0) := by
 intro a0 k
 have ih0 := pouchref1_Stuff.mono_l k
 unfold pouchref1_Stuff.f
 repeat' first
   | (with_reducible exact ih0 _ _ _)
   | (with_reducible exact pouchref1_Rows.mono _ _)
   | (with_reducible exact LeO.refl _)
   | (with_reducible exact LeO.none _)
   | (with_reducible refine LeO.ite ?_ ?_)
   | (with_reducible refine LeO.bind ?_ (fun _ => ?_))
   | exact ih0 _ _ _
   | exact pouchref1_Rows.mono _ _
   | exact LeO.none _
   | refine LeO.ite ?_ ?_
   | refine LeO.bind ?_ (fun _ => ?_)
set_option maxHeartbeats 8000000 in
set_option maxRecDepth 100000 in
theorem pouchref1_Stuff.calls (k : Nat) (a0 : ByteArray) (r : ByteArray) (w : World) (h : pouchref1_Stuff.f k a0 = some r) :
  Calls Try.prog 8 #[.string a0] w fun e w' => e = .returned (.string r) ∧ Below w.heap.size w w' := by
 have HB := am_ (Below.refl w.heap.size w)
 have H : ((pouchref1_Rows.f k a0).bind fun bt105 => (pouchref1_Stuff.l0 k bt105.1 (⟨#[]⟩ : ByteArray) 0)) = some r := h
 clear h
 replace H := Option.bind_eq_some_iff.mp H
 obtain ⟨⟨t105, t106⟩, A20, H⟩ := H
 replace H : (pouchref1_Stuff.l0 k t105 (⟨#[]⟩ : ByteArray) 0) = some r := H
 have A2 := am_ A20
 clear A20
 have H' := am_ H
 clear H
 go_enter Try.func8, Try.ntmps8
 go_wp2_with (first | ((with_reducible refine gate_callee (f := 7) rfl ?_); refine goesL_ (some 9) rfl rfl Try.func7 (by kernel_rfl) rfl #[.string a0] rfl (by (try simp only [m1_, m2_, m3_]); first | done | rfl | (simp only [m4_, m5_]; rfl)) ?_; (with_reducible refine (pouchref1_Rows.calls k a0 t105 t106 _ A2.out).mono ?_); rintro e w3 ⟨v107, rfl, ho0, hb⟩; refine ⟨_, rfl, ?_⟩; have n0_ := am_ (Kd.R_lower ho0 (bz_ (by repeat (first | (with_reducible first | exact HB.out | apply ba_ | apply bn_ | apply bd_) | exact HB.out)))); have n1_ := am_ (bt_ (by repeat (first | (with_reducible first | exact HB.out | apply ba_ | apply bn_ | apply bd_) | exact HB.out)) hb); clear HB; have HO108 := n0_; have HB := n1_; clear n0_ n1_; (try clear hb); (try clear hb2); (try clear hk); (try clear hi); (try clear ho0)))
 go_loopg [5, 6] k (fun kq v5 v6 w' => ∃ (x5_1 : ByteArray) (x6_1 : Int), v5 = .string x5_1 ∧ v6 = .int .i64 x6_1 ∧ Aside0 (pouchref1_Stuff.l0 kq t105 x5_1 x6_1 = some r) ∧ Aside0 (kq ≤ k) ∧ Aside0 (Kd.R Kd.string 9 w' w.heap.size (fun _ => True) v107 t105) ∧ Aside0 (Below w.heap.size w w'))
 case atStart => exact ⟨((⟨#[]⟩ : ByteArray)), (0), (by first | rfl | (simp; done) | (simp [*]; done)), (by first | rfl | (simp; done) | (simp [*]; done)), H', ⟨Nat.le_refl _⟩, ⟨by (with_reducible repeat (first | apply ra_ | apply rn_ | apply re_)); exact HO108.out⟩, ⟨by repeat (first | (with_reducible first | exact HB.out | apply ba_ | apply bn_ | apply bd_) | exact HB.out)⟩⟩
 case round =>
  clear H'
  try clear p2
  obtain ⟨x5_1, x6_1, rfl, rfl, HA, HK1, HO_3, HB⟩ := hrel
  cases gk with
  | zero => exact absurd HA.out (by simp [pouchref1_Stuff.l0])
  | succ k1 =>
   have H := HA.out
   clear HA
   simp only [pouchref1_Stuff.l0] at H
   by_cases c4 : x6_1 < (t105.length : Int)
   ·
    rw [if_pos c4] at H
    have c4b0 : decide (x6_1 < (t105.length : Int)) = true := decide_eq_true c4
    clear c4
    by_cases c5 : 0 ≤ x6_1
    ·
     rw [if_pos c5] at H
     have c5b0 : decide (0 ≤ x6_1) = true := decide_eq_true c5
     clear c5
     by_cases c6 : ((rdOf ByteArray.empty t105 x6_1).size : Int) > 0
     ·
      rw [if_pos c6] at H
      have c6b0 : decide (0 < ((rdOf ByteArray.empty t105 x6_1).size : Int)) = true := decide_eq_true c6
      have c6b1 : decide (0 < (rdOf ByteArray.empty t105 x6_1).size) = true := decide_eq_true (by omega)
      clear c6
      by_cases c7 : 0 < ((rdOf ByteArray.empty t105 x6_1).size : Int)
      ·
       rw [if_pos c7] at H
       have c7b0 : decide (0 < ((rdOf ByteArray.empty t105 x6_1).size : Int)) = true := decide_eq_true c7
       have c7b1 : decide (0 < (rdOf ByteArray.empty t105 x6_1).size) = true := decide_eq_true (by omega)
       clear c7
       by_cases c9 : (bt (rdOf ByteArray.empty t105 x6_1) 0) = 46
       ·
        rw [if_pos c9] at H
        have c9b0 : ((bt (rdOf ByteArray.empty t105 x6_1) 0) == 46) = true := beq_iff_eq.mpr c9
        have c9b1 : ((bt (rdOf ByteArray.empty t105 x6_1) 0) != 46) = false := bne_eq_false_iff_eq.mpr c9
        clear c9
        by_cases c10 : x5_1.size + 1 ≤ 9223372036854775807
        ·
         rw [if_pos c10] at H
         have c10b0 := eq_true c10
         have c10b1 : decide (x5_1.size + 1 ≤ 9223372036854775807) = true := decide_eq_true c10
         try have c10b2 : (9223372036854775807 < x5_1.size + 1) = False := eq_false (Nat.not_lt.2 c10)
         obtain ⟨sc11, hsc11⟩ : ∃ j_ : ByteArray, (x5_1 ++ (⟨#[46]⟩ : ByteArray)) = j_ := ⟨_, rfl⟩
         replace H : (if (sc11).size + (rdOf ByteArray.empty t105 x6_1).size ≤ 9223372036854775807 then (if ((sc11) ++ (rdOf ByteArray.empty t105 x6_1)).size + 2 ≤ 9223372036854775807 then (pouchref1_Stuff.l0 k1 t105 (((sc11) ++ (rdOf ByteArray.empty t105 x6_1)) ++ (⟨#[13, 10]⟩ : ByteArray)) (wrap64 (x6_1 + 1))) else (none)) else (none)) = some r := by first | (rw [hsc11] at H; exact H) | (simp only [hsc11] at H ⊢; exact H)
         by_cases c12 : (sc11).size + (rdOf ByteArray.empty t105 x6_1).size ≤ 9223372036854775807
         ·
          rw [if_pos c12] at H
          have c12b0 := eq_true c12
          have c12b1 : decide ((sc11).size + (rdOf ByteArray.empty t105 x6_1).size ≤ 9223372036854775807) = true := decide_eq_true c12
          try have c12b2 : (9223372036854775807 < (sc11).size + (rdOf ByteArray.empty t105 x6_1).size) = False := eq_false (Nat.not_lt.2 c12)
          obtain ⟨sc13, hsc13⟩ : ∃ j_ : ByteArray, ((sc11) ++ (rdOf ByteArray.empty t105 x6_1)) = j_ := ⟨_, rfl⟩
          replace H : (if (sc13).size + 2 ≤ 9223372036854775807 then (pouchref1_Stuff.l0 k1 t105 ((sc13) ++ (⟨#[13, 10]⟩ : ByteArray)) (wrap64 (x6_1 + 1))) else (none)) = some r := by first | (rw [hsc13] at H; exact H) | (simp only [hsc13] at H ⊢; exact H)
          by_cases c14 : (sc13).size + 2 ≤ 9223372036854775807
          ·
           rw [if_pos c14] at H
           have c14b0 := eq_true c14
           have c14b1 : decide ((sc13).size + 2 ≤ 9223372036854775807) = true := decide_eq_true c14
           try have c14b2 : (9223372036854775807 < (sc13).size + 2) = False := eq_false (Nat.not_lt.2 c14)
           have H' := am_ H
           clear H
           obtain ⟨Ao15, co15, eo15⟩ := Kd.R_slice HO_3.out
           subst eo15
           have p109 : 0 ≤ (x6_1 : Int) := od_ (by first | (with_reducible assumption) | assumption)
           have q109 : x6_1 < (t105.length : Int) := od_ (by first | (with_reducible assumption) | assumption)
           obtain ⟨ad109, e109, hx109_0⟩ := Kd.at_string (Kd.R_reads' HO_3.out).2.2 x6_1 p109 q109
           cases e109
           replace p109 := eq_true p109
           replace q109 := eq_true q109
           have p110 : 0 ≤ (x6_1 : Int) := od_ (by first | (with_reducible assumption) | assumption)
           have q110 : x6_1 < (t105.length : Int) := od_ (by first | (with_reducible assumption) | assumption)
           obtain ⟨ad110, e110, hx110_0⟩ := Kd.at_string (Kd.R_reads' HO_3.out).2.2 x6_1 p110 q110
           obtain rfl : ad109 = ad110 := (by injection e110)
           replace p110 := eq_true p110
           replace q110 := eq_true q110
           have p8 : 0 ≤ (0 : Int) := (by omega)
           have q8 : 0 < (rdOf ByteArray.empty t105 x6_1).size := (by have : (0 : Int) < ((rdOf ByteArray.empty t105 x6_1).size : Int) := od_ (by first | (with_reducible assumption) | assumption); omega)
           have hx8 : ∀ h : 0 < (rdOf ByteArray.empty t105 x6_1).size, (((rdOf ByteArray.empty t105 x6_1)[0]'h).toNat : Int) = bt (rdOf ByteArray.empty t105 x6_1) 0 := bt_at (rdOf ByteArray.empty t105 x6_1) 0
           clear p8
           have qi8 : (0 < ((rdOf ByteArray.empty t105 x6_1).size : Int)) = True := eq_true (od_ (by first | (with_reducible assumption) | assumption))
           replace q8 := eq_true q8
           have p111 : 0 ≤ (x6_1 : Int) := od_ (by first | (with_reducible assumption) | assumption)
           have q111 : x6_1 < (t105.length : Int) := od_ (by first | (with_reducible assumption) | assumption)
           obtain ⟨ad111, e111, hx111_0⟩ := Kd.at_string (Kd.R_reads' HO_3.out).2.2 x6_1 p111 q111
           obtain rfl : ad109 = ad111 := (by injection e111)
           replace p111 := eq_true p111
           replace q111 := eq_true q111
           go_wp2
           go_roundg k1
           case measure => have := HK1.out; omega
           case rel => exact ⟨((sc13) ++ (⟨#[13, 10]⟩ : ByteArray)), (wrap64 (x6_1 + 1)), (by first | rfl | (simp; done) | (simp only [← hsc13] <;> (first | rfl | simp)) | (simp [*]; done)), (by first | rfl | (simp; done) | (simp [*]; done)), H', ⟨by have := HK1.out; omega⟩, ⟨by (with_reducible repeat (first | apply ra_ | apply rn_ | apply re_)); exact HO_3.out⟩, ⟨by repeat (first | (with_reducible first | exact HB.out | apply ba_ | apply bn_ | apply bd_) | exact HB.out)⟩⟩
          ·
           rw [if_neg c14] at H
           exact absurd H (by simp)
         ·
          rw [if_neg c12] at H
          exact absurd H (by simp)
        ·
         rw [if_neg c10] at H
         exact absurd H (by simp)
       ·
        rw [if_neg c9] at H
        have c9b0 : ((bt (rdOf ByteArray.empty t105 x6_1) 0) == 46) = false := beq_eq_false_iff_ne.mpr c9
        have c9b1 : ((bt (rdOf ByteArray.empty t105 x6_1) 0) != 46) = true := bne_iff_ne.mpr c9
        by_cases c16 : x5_1.size + (rdOf ByteArray.empty t105 x6_1).size ≤ 9223372036854775807
        ·
         rw [if_pos c16] at H
         have c16b0 := eq_true c16
         have c16b1 : decide (x5_1.size + (rdOf ByteArray.empty t105 x6_1).size ≤ 9223372036854775807) = true := decide_eq_true c16
         try have c16b2 : (9223372036854775807 < x5_1.size + (rdOf ByteArray.empty t105 x6_1).size) = False := eq_false (Nat.not_lt.2 c16)
         obtain ⟨sc17, hsc17⟩ : ∃ j_ : ByteArray, (x5_1 ++ (rdOf ByteArray.empty t105 x6_1)) = j_ := ⟨_, rfl⟩
         replace H : (if (sc17).size + 2 ≤ 9223372036854775807 then (pouchref1_Stuff.l0 k1 t105 ((sc17) ++ (⟨#[13, 10]⟩ : ByteArray)) (wrap64 (x6_1 + 1))) else (none)) = some r := by first | (rw [hsc17] at H; exact H) | (simp only [hsc17] at H ⊢; exact H)
         by_cases c18 : (sc17).size + 2 ≤ 9223372036854775807
         ·
          rw [if_pos c18] at H
          have c18b0 := eq_true c18
          have c18b1 : decide ((sc17).size + 2 ≤ 9223372036854775807) = true := decide_eq_true c18
          try have c18b2 : (9223372036854775807 < (sc17).size + 2) = False := eq_false (Nat.not_lt.2 c18)
          have H' := am_ H
          clear H
          obtain ⟨Ao19, co19, eo19⟩ := Kd.R_slice HO_3.out
          subst eo19
          have p109 : 0 ≤ (x6_1 : Int) := od_ (by first | (with_reducible assumption) | assumption)
          have q109 : x6_1 < (t105.length : Int) := od_ (by first | (with_reducible assumption) | assumption)
          obtain ⟨ad109, e109, hx109_0⟩ := Kd.at_string (Kd.R_reads' HO_3.out).2.2 x6_1 p109 q109
          cases e109
          replace p109 := eq_true p109
          replace q109 := eq_true q109
          have p110 : 0 ≤ (x6_1 : Int) := od_ (by first | (with_reducible assumption) | assumption)
          have q110 : x6_1 < (t105.length : Int) := od_ (by first | (with_reducible assumption) | assumption)
          obtain ⟨ad110, e110, hx110_0⟩ := Kd.at_string (Kd.R_reads' HO_3.out).2.2 x6_1 p110 q110
          obtain rfl : ad109 = ad110 := (by injection e110)
          replace p110 := eq_true p110
          replace q110 := eq_true q110
          have p8 : 0 ≤ (0 : Int) := (by omega)
          have q8 : 0 < (rdOf ByteArray.empty t105 x6_1).size := (by have : (0 : Int) < ((rdOf ByteArray.empty t105 x6_1).size : Int) := od_ (by first | (with_reducible assumption) | assumption); omega)
          have hx8 : ∀ h : 0 < (rdOf ByteArray.empty t105 x6_1).size, (((rdOf ByteArray.empty t105 x6_1)[0]'h).toNat : Int) = bt (rdOf ByteArray.empty t105 x6_1) 0 := bt_at (rdOf ByteArray.empty t105 x6_1) 0
          clear p8
          have qi8 : (0 < ((rdOf ByteArray.empty t105 x6_1).size : Int)) = True := eq_true (od_ (by first | (with_reducible assumption) | assumption))
          replace q8 := eq_true q8
          have p112 : 0 ≤ (x6_1 : Int) := od_ (by first | (with_reducible assumption) | assumption)
          have q112 : x6_1 < (t105.length : Int) := od_ (by first | (with_reducible assumption) | assumption)
          obtain ⟨ad112, e112, hx112_0⟩ := Kd.at_string (Kd.R_reads' HO_3.out).2.2 x6_1 p112 q112
          obtain rfl : ad109 = ad112 := (by injection e112)
          replace p112 := eq_true p112
          replace q112 := eq_true q112
          go_wp2
          go_roundg k1
          case measure => have := HK1.out; omega
          case rel => exact ⟨((sc17) ++ (⟨#[13, 10]⟩ : ByteArray)), (wrap64 (x6_1 + 1)), (by first | rfl | (simp; done) | (simp only [← hsc17] <;> (first | rfl | simp)) | (simp [*]; done)), (by first | rfl | (simp; done) | (simp [*]; done)), H', ⟨by have := HK1.out; omega⟩, ⟨by (with_reducible repeat (first | apply ra_ | apply rn_ | apply re_)); exact HO_3.out⟩, ⟨by repeat (first | (with_reducible first | exact HB.out | apply ba_ | apply bn_ | apply bd_) | exact HB.out)⟩⟩
         ·
          rw [if_neg c18] at H
          exact absurd H (by simp)
        ·
         rw [if_neg c16] at H
         exact absurd H (by simp)
      ·
       rw [if_neg c7] at H
       exact absurd H (by simp)
     ·
      rw [if_neg c6] at H
      have c6b0 : decide (0 < ((rdOf ByteArray.empty t105 x6_1).size : Int)) = false := decide_eq_false c6
      have c6b1 : decide (0 < (rdOf ByteArray.empty t105 x6_1).size) = false := decide_eq_false (by omega)
      clear c6
      by_cases c20 : x5_1.size + (rdOf ByteArray.empty t105 x6_1).size ≤ 9223372036854775807
      ·
       rw [if_pos c20] at H
       have c20b0 := eq_true c20
       have c20b1 : decide (x5_1.size + (rdOf ByteArray.empty t105 x6_1).size ≤ 9223372036854775807) = true := decide_eq_true c20
       try have c20b2 : (9223372036854775807 < x5_1.size + (rdOf ByteArray.empty t105 x6_1).size) = False := eq_false (Nat.not_lt.2 c20)
       obtain ⟨sc21, hsc21⟩ : ∃ j_ : ByteArray, (x5_1 ++ (rdOf ByteArray.empty t105 x6_1)) = j_ := ⟨_, rfl⟩
       replace H : (if (sc21).size + 2 ≤ 9223372036854775807 then (pouchref1_Stuff.l0 k1 t105 ((sc21) ++ (⟨#[13, 10]⟩ : ByteArray)) (wrap64 (x6_1 + 1))) else (none)) = some r := by first | (rw [hsc21] at H; exact H) | (simp only [hsc21] at H ⊢; exact H)
       by_cases c22 : (sc21).size + 2 ≤ 9223372036854775807
       ·
        rw [if_pos c22] at H
        have c22b0 := eq_true c22
        have c22b1 : decide ((sc21).size + 2 ≤ 9223372036854775807) = true := decide_eq_true c22
        try have c22b2 : (9223372036854775807 < (sc21).size + 2) = False := eq_false (Nat.not_lt.2 c22)
        have H' := am_ H
        clear H
        obtain ⟨Ao23, co23, eo23⟩ := Kd.R_slice HO_3.out
        subst eo23
        have p109 : 0 ≤ (x6_1 : Int) := od_ (by first | (with_reducible assumption) | assumption)
        have q109 : x6_1 < (t105.length : Int) := od_ (by first | (with_reducible assumption) | assumption)
        obtain ⟨ad109, e109, hx109_0⟩ := Kd.at_string (Kd.R_reads' HO_3.out).2.2 x6_1 p109 q109
        cases e109
        replace p109 := eq_true p109
        replace q109 := eq_true q109
        have p113 : 0 ≤ (x6_1 : Int) := od_ (by first | (with_reducible assumption) | assumption)
        have q113 : x6_1 < (t105.length : Int) := od_ (by first | (with_reducible assumption) | assumption)
        obtain ⟨ad113, e113, hx113_0⟩ := Kd.at_string (Kd.R_reads' HO_3.out).2.2 x6_1 p113 q113
        obtain rfl : ad109 = ad113 := (by injection e113)
        replace p113 := eq_true p113
        replace q113 := eq_true q113
        go_wp2
        go_roundg k1
        case measure => have := HK1.out; omega
        case rel => exact ⟨((sc21) ++ (⟨#[13, 10]⟩ : ByteArray)), (wrap64 (x6_1 + 1)), (by first | rfl | (simp; done) | (simp only [← hsc21] <;> (first | rfl | simp)) | (simp [*]; done)), (by first | rfl | (simp; done) | (simp [*]; done)), H', ⟨by have := HK1.out; omega⟩, ⟨by (with_reducible repeat (first | apply ra_ | apply rn_ | apply re_)); exact HO_3.out⟩, ⟨by repeat (first | (with_reducible first | exact HB.out | apply ba_ | apply bn_ | apply bd_) | exact HB.out)⟩⟩
       ·
        rw [if_neg c22] at H
        exact absurd H (by simp)
      ·
       rw [if_neg c20] at H
       exact absurd H (by simp)
    ·
     rw [if_neg c5] at H
     exact absurd H (by simp)
   ·
    rw [if_neg c4] at H
    have c4b0 : decide (x6_1 < (t105.length : Int)) = false := decide_eq_false c4
    clear c4
    by_cases c24 : x5_1.size + 3 ≤ 9223372036854775807
    ·
     rw [if_pos c24] at H
     have c24b0 := eq_true c24
     have c24b1 : decide (x5_1.size + 3 ≤ 9223372036854775807) = true := decide_eq_true c24
     try have c24b2 : (9223372036854775807 < x5_1.size + 3) = False := eq_false (Nat.not_lt.2 c24)
     obtain rfl := Option.some.inj H
     obtain ⟨Ao25, co25, eo25⟩ := Kd.R_slice HO_3.out
     subst eo25
     go_wp2
     go_ret
     exact ⟨by first | rfl | (simp [errW_none, errW_some] <;> rfl) | (simp [*, errW_none, errW_some] <;> rfl), by repeat (first | (with_reducible first | exact HB.out | apply ba_ | apply bn_ | apply bd_) | exact HB.out)⟩
    ·
     rw [if_neg c24] at H
     exact absurd H (by simp)

/-! ### dots_Line: function 21 -/
def dots_Line.f (a0 : ByteArray) : Option (Bool) := if (a0.size : Int) ≤ 509 then ((strings_ContainsAny.f a0 (⟨#[13, 10]⟩ : ByteArray)).bind fun t114 => (some (!t114))) else (some false)
set_option maxHeartbeats 8000000 in
set_option maxRecDepth 100000 in
theorem dots_Line.calls (a0 : ByteArray) (r : Bool) (w : World) (h : dots_Line.f a0 = some r) :
  Calls Try.prog 21 #[.string a0] w fun e w' => e = .returned (.bool r) ∧ Below w.heap.size w w' := by
 have HB := am_ (Below.refl w.heap.size w)
 have H : (if (a0.size : Int) ≤ 509 then ((strings_ContainsAny.f a0 (⟨#[13, 10]⟩ : ByteArray)).bind fun t114 => (some (!t114))) else (some false)) = some r := h
 clear h
 by_cases c2 : (a0.size : Int) ≤ 509
 ·
  rw [if_pos c2] at H
  have c2b0 : decide ((a0.size : Int) ≤ 509) = true := decide_eq_true c2
  have c2b1 : decide (a0.size ≤ 509) = true := decide_eq_true (by omega)
  clear c2
  replace H := Option.bind_eq_some_iff.mp H
  obtain ⟨t114, A30, H⟩ := H
  replace H : (some (!t114)) = some r := H
  have A3 := am_ A30
  clear A30
  obtain rfl := Option.some.inj H
  go_enter Try.func21, Try.ntmps21
  go_wp2_with (first | (go_at_call 29; (with_reducible refine (strings_ContainsAny.calls a0 (⟨#[13, 10]⟩ : ByteArray) t114 _ A3.out).mono ?_); rintro e w4 ⟨rfl, hb⟩; have n0_ := am_ (bt_ (by repeat (first | (with_reducible first | exact HB.out | apply ba_ | apply bn_ | apply bd_) | exact HB.out)) hb); clear HB; have HB := n0_; clear n0_; (try clear hb); (try clear hb2); (try clear hk); (try clear hi)))
  go_ret
  exact ⟨by first | rfl | (simp [errW_none, errW_some] <;> rfl) | (simp [*, errW_none, errW_some] <;> rfl), by repeat (first | (with_reducible first | exact HB.out | apply ba_ | apply bn_ | apply bd_) | exact HB.out)⟩
 ·
  rw [if_neg c2] at H
  have c2b0 : decide ((a0.size : Int) ≤ 509) = false := decide_eq_false c2
  have c2b1 : decide (a0.size ≤ 509) = false := decide_eq_false (by omega)
  clear c2
  obtain rfl := Option.some.inj H
  go_enter Try.func21, Try.ntmps21
  go_wp2
  go_ret
  exact ⟨by first | rfl | (simp [errW_none, errW_some] <;> rfl) | (simp [*, errW_none, errW_some] <;> rfl), by repeat (first | (with_reducible first | exact HB.out | apply ba_ | apply bn_ | apply bd_) | exact HB.out)⟩

/-! ### dots_May: function 17 -/
def dots_May.l0 : Nat → ByteArray → Option (Bool)
 | 0, _ => none
 | k + 1, x0 => if x0.toList = ([] : List UInt8) then (some true) else ((strings_Cut.f x0 (⟨#[13, 10]⟩ : ByteArray)).bind fun bt115 => (if bt115.2.2 = true then ((dots_Line.f bt115.1).bind fun t118 => (if t118 = true then (dots_May.l0 k bt115.2.1) else (some false))) else (some false)))
def dots_May.f (k : Nat) (a0 : ByteArray) : Option (Bool) := if (a0.size : Int) > 8192 then (some false) else (dots_May.l0 k a0)
theorem dots_May.mono_l : ∀ k, (∀ y0, LeO (dots_May.l0 k y0) (dots_May.l0 (k + 1) y0))
 | 0 => fun _ r h => by simp [dots_May.l0] at h
 | k + 1 => by
  have ih0 := dots_May.mono_l k
  ·
   intro y0
   unfold dots_May.l0
   repeat' first
   | (with_reducible exact ih0 _)
   | (with_reducible exact LeO.refl _)
   | (with_reducible exact LeO.none _)
   | (with_reducible refine LeO.ite ?_ ?_)
   | (with_reducible refine LeO.bind ?_ (fun _ => ?_))
   | exact ih0 _
   | exact LeO.none _
   | refine LeO.ite ?_ ?_
   | refine LeO.bind ?_ (fun _ => ?_)
theorem dots_May.mono : ∀ a0 k, LeO (dots_May.f k a0) (dots_May.f (k + 1) a0) := by
 intro a0 k
 have ih0 := dots_May.mono_l k
 unfold dots_May.f
 repeat' first
   | (with_reducible exact ih0 _)
   | (with_reducible exact LeO.refl _)
   | (with_reducible exact LeO.none _)
   | (with_reducible refine LeO.ite ?_ ?_)
   | (with_reducible refine LeO.bind ?_ (fun _ => ?_))
   | exact ih0 _
   | exact LeO.none _
   | refine LeO.ite ?_ ?_
   | refine LeO.bind ?_ (fun _ => ?_)
set_option maxHeartbeats 8000000 in
set_option maxRecDepth 100000 in
theorem dots_May.calls (k : Nat) (a0 : ByteArray) (r : Bool) (w : World) (hG : GrOk w) (h : dots_May.f k a0 = some r) :
  Calls Try.prog 17 #[.string a0] w fun e w' => e = .returned (.bool r) ∧ Below w.heap.size w w' := by
 have HB := am_ (Below.refl w.heap.size w)
 have H : (if (a0.size : Int) > 8192 then (some false) else (dots_May.l0 k a0)) = some r := h
 clear h
 by_cases c2 : (a0.size : Int) > 8192
 ·
  rw [if_pos c2] at H
  have c2b0 : decide (8192 < (a0.size : Int)) = true := decide_eq_true c2
  have c2b1 : decide (8192 < a0.size) = true := decide_eq_true (by omega)
  clear c2
  obtain rfl := Option.some.inj H
  go_enter Try.func17, Try.ntmps17
  go_wp2
  go_ret
  exact ⟨by first | rfl | (simp [errW_none, errW_some] <;> rfl) | (simp [*, errW_none, errW_some] <;> rfl), by repeat (first | (with_reducible first | exact HB.out | apply ba_ | apply bn_ | apply bd_) | exact HB.out)⟩
 ·
  rw [if_neg c2] at H
  have c2b0 : decide (8192 < (a0.size : Int)) = false := decide_eq_false c2
  have c2b1 : decide (8192 < a0.size) = false := decide_eq_false (by omega)
  clear c2
  have H' := am_ H
  clear H
  go_enter Try.func17, Try.ntmps17
  go_wp2
  go_loopg [0] k (fun kq v0 w' => ∃ (x0_1 : ByteArray), v0 = .string x0_1 ∧ Aside0 (dots_May.l0 kq x0_1 = some r) ∧ Aside0 (kq ≤ k) ∧ Aside0 (Below w.heap.size w w'))
  case atStart => exact ⟨(a0), (by first | rfl | (simp; done) | (simp [*]; done)), H', ⟨Nat.le_refl _⟩, ⟨by repeat (first | (with_reducible first | exact HB.out | apply ba_ | apply bn_ | apply bd_) | exact HB.out)⟩⟩
  case round =>
   clear H'
   try clear c1
   try clear c2
   try clear c2b0
   try clear c2b1
   try clear p2
   obtain ⟨x0_1, rfl, HA, HK1, HB⟩ := hrel
   cases gk with
   | zero => exact absurd HA.out (by simp [dots_May.l0])
   | succ k1 =>
    have H := HA.out
    clear HA
    simp only [dots_May.l0] at H
    by_cases c3 : x0_1.toList = ([] : List UInt8)
    ·
     rw [if_pos c3] at H
     have c3b0 : (x0_1.toList == ([] : List UInt8)) = true := beq_iff_eq.mpr c3
     have c3b1 : (x0_1.toList != ([] : List UInt8)) = false := bne_eq_false_iff_eq.mpr c3
     clear c3
     obtain rfl := Option.some.inj H
     go_wp2
     go_ret
     exact ⟨by first | rfl | (simp [errW_none, errW_some] <;> rfl) | (simp [*, errW_none, errW_some] <;> rfl), by repeat (first | (with_reducible first | exact HB.out | apply ba_ | apply bn_ | apply bd_) | exact HB.out)⟩
    ·
     rw [if_neg c3] at H
     have c3b0 : (x0_1.toList == ([] : List UInt8)) = false := beq_eq_false_iff_ne.mpr c3
     have c3b1 : (x0_1.toList != ([] : List UInt8)) = true := bne_iff_ne.mpr c3
     replace H := Option.bind_eq_some_iff.mp H
     obtain ⟨⟨t115, t116, t117⟩, A40, H⟩ := H
     replace H : (if t117 = true then ((dots_Line.f t115).bind fun t118 => (if t118 = true then (dots_May.l0 k1 t116) else (some false))) else (some false)) = some r := H
     have A4 := am_ A40
     clear A40
     by_cases c5 : t117 = true
     ·
      subst c5
      have H1 : ((dots_Line.f t115).bind fun t118 => (if t118 = true then (dots_May.l0 k1 t116) else (some false))) = some r := by rw [if_pos rfl] at H; exact H
      clear H; have H := H1; clear H1
      replace H := Option.bind_eq_some_iff.mp H
      obtain ⟨t118, A60, H⟩ := H
      replace H : (if t118 = true then (dots_May.l0 k1 t116) else (some false)) = some r := H
      have A6 := am_ A60
      clear A60
      by_cases c7 : t118 = true
      ·
       subst c7
       have H1 : (dots_May.l0 k1 t116) = some r := by rw [if_pos rfl] at H; exact H
       clear H; have H := H1; clear H1
       have H' := am_ H
       clear H
       go_wp2_with (first | ((with_reducible refine gate_callee (f := 20) rfl ?_); refine goesL_ (some 13) rfl rfl Try.func20 (by kernel_rfl) rfl #[.string x0_1, .string (⟨#[13, 10]⟩ : ByteArray)] rfl (by (try simp only [m1_, m2_, m3_]); first | done | rfl | (simp only [m4_, m5_]; rfl)) ?_; (with_reducible refine (strings_Cut.calls x0_1 (⟨#[13, 10]⟩ : ByteArray) t115 t116 true _ ?side1 A4.out).mono ?_); (case side1 => exact GrOk.below hG (by repeat (first | (with_reducible first | exact HB.out | apply ba_ | apply bn_ | apply bd_) | exact HB.out))); rintro e w' ⟨rfl, ⟨nd, rfl⟩⟩; refine ⟨_, rfl, ?_⟩) | (go_at_call 21; (with_reducible refine (dots_Line.calls t115 true _ A6.out).mono ?_); rintro e w8 ⟨rfl, hb⟩; have n0_ := am_ (bt_ (by repeat (first | (with_reducible first | exact HB.out | apply ba_ | apply bn_ | apply bd_) | exact HB.out)) hb); clear HB; have HB := n0_; clear n0_; (try clear hb); (try clear hb2); (try clear hk); (try clear hi)))
       go_roundg k1
       case measure => have := HK1.out; omega
       case rel => exact ⟨(t116), (by first | rfl | (simp; done) | (simp [*]; done)), H', ⟨by have := HK1.out; omega⟩, ⟨by repeat (first | (with_reducible first | exact HB.out | apply ba_ | apply bn_ | apply bd_) | exact HB.out)⟩⟩
      ·
       replace c7 := Bool.eq_false_iff.mpr c7
       subst c7
       have H1 : (some false) = some r := by rw [if_neg (show ¬ (false = true) by decide)] at H; exact H
       clear H; have H := H1; clear H1
       obtain rfl := Option.some.inj H
       go_wp2_with (first | ((with_reducible refine gate_callee (f := 20) rfl ?_); refine goesL_ (some 13) rfl rfl Try.func20 (by kernel_rfl) rfl #[.string x0_1, .string (⟨#[13, 10]⟩ : ByteArray)] rfl (by (try simp only [m1_, m2_, m3_]); first | done | rfl | (simp only [m4_, m5_]; rfl)) ?_; (with_reducible refine (strings_Cut.calls x0_1 (⟨#[13, 10]⟩ : ByteArray) t115 t116 true _ ?side1 A4.out).mono ?_); (case side1 => exact GrOk.below hG (by repeat (first | (with_reducible first | exact HB.out | apply ba_ | apply bn_ | apply bd_) | exact HB.out))); rintro e w' ⟨rfl, ⟨nd, rfl⟩⟩; refine ⟨_, rfl, ?_⟩) | (go_at_call 21; (with_reducible refine (dots_Line.calls t115 false _ A6.out).mono ?_); rintro e w9 ⟨rfl, hb⟩; have n0_ := am_ (bt_ (by repeat (first | (with_reducible first | exact HB.out | apply ba_ | apply bn_ | apply bd_) | exact HB.out)) hb); clear HB; have HB := n0_; clear n0_; (try clear hb); (try clear hb2); (try clear hk); (try clear hi)))
       go_ret
       exact ⟨by first | rfl | (simp [errW_none, errW_some] <;> rfl) | (simp [*, errW_none, errW_some] <;> rfl), by repeat (first | (with_reducible first | exact HB.out | apply ba_ | apply bn_ | apply bd_) | exact HB.out)⟩
     ·
      replace c5 := Bool.eq_false_iff.mpr c5
      subst c5
      have H1 : (some false) = some r := by rw [if_neg (show ¬ (false = true) by decide)] at H; exact H
      clear H; have H := H1; clear H1
      obtain rfl := Option.some.inj H
      go_wp2_with (first | ((with_reducible refine gate_callee (f := 20) rfl ?_); refine goesL_ (some 13) rfl rfl Try.func20 (by kernel_rfl) rfl #[.string x0_1, .string (⟨#[13, 10]⟩ : ByteArray)] rfl (by (try simp only [m1_, m2_, m3_]); first | done | rfl | (simp only [m4_, m5_]; rfl)) ?_; (with_reducible refine (strings_Cut.calls x0_1 (⟨#[13, 10]⟩ : ByteArray) t115 t116 false _ ?side1 A4.out).mono ?_); (case side1 => exact GrOk.below hG (by repeat (first | (with_reducible first | exact HB.out | apply ba_ | apply bn_ | apply bd_) | exact HB.out))); rintro e w' ⟨rfl, ⟨nd, rfl⟩⟩; refine ⟨_, rfl, ?_⟩))
      go_ret
      exact ⟨by first | rfl | (simp [errW_none, errW_some] <;> rfl) | (simp [*, errW_none, errW_some] <;> rfl), by repeat (first | (with_reducible first | exact HB.out | apply ba_ | apply bn_ | apply bd_) | exact HB.out)⟩

end Go.Proofs.Ytdedodfeopdkaaa.PDo
