-- Written for this claim by a program: the kit's print.py from a scratch copy, turned by wip/tools/ghostprint.py
import Derived.Test.YtdedodfeopdkaaaPDox0
import Derived.Test.YtdedodfeopdkaaaPDox2
namespace Go.Proofs.Ytdedodfeopdkaaa.PDo
open Go.RowKit Go.Proofs.YtdedodfeopdkaaaW.PrintWords Go.Proofs.YtdedodfeopdkaaaW.PrintLast Go.Proofs.YtdedodfeopdkaaaW.PrintMore
attribute [local go_sem] max2_int min2_int max_two min_two max_three min_three max_four min_four   -- for this text's walks alone
set_option linter.unusedVariables false
set_option linter.unusedSimpArgs false

/-! ### pouchlaw2_DotsEdges: function 4 -/
def pouchlaw2_DotsEdges.l0 : Nat → ByteArray → ByteArray → Option (Bool)
 | 0, _, _ => none
 | k + 1, x3, x4 => if (wrap64 ((wrap64 ((x4.size : Int) + (x3.size : Int))) + 2)) ≤ 8192 then (if x4.size + x3.size ≤ 9223372036854775807 then (if (x4 ++ x3).size + 2 ≤ 9223372036854775807 then (pouchlaw2_DotsEdges.l0 k x3 ((x4 ++ x3) ++ (⟨#[13, 10]⟩ : ByteArray))) else (none)) else (none)) else ((pouchlaw2_many.f k 98 (wrap64 ((wrap64 (8192 - (x4.size : Int))) - 2))).bind fun t146 => (if x4.size + t146.size ≤ 9223372036854775807 then (if (x4 ++ t146).size + 2 ≤ 9223372036854775807 then ((pouchlaw2_many.f k 98 (wrap64 ((wrap64 (8192 - (x4.size : Int))) - 1))).bind fun t147 => (if x4.size + t147.size ≤ 9223372036854775807 then (if (x4 ++ t147).size + 2 ≤ 9223372036854775807 then (if x3.size + 2 ≤ 9223372036854775807 then ((dots_Check.f k (x3 ++ (⟨#[13, 10]⟩ : ByteArray))).bind fun t148 => ((pouchlaw2_num.f t148).bind fun t149 => (if t149 = 0 then (if x3.size + 3 ≤ 9223372036854775807 then ((dots_Check.f k (x3 ++ (⟨#[46, 13, 10]⟩ : ByteArray))).bind fun t150 => ((pouchlaw2_num.f t150).bind fun t151 => (if t151 = 1 then (if (wrap64 (8192 - (x4.size : Int))) < 2 then ((dots_Check.f k (⟨#[97]⟩ : ByteArray)).bind fun t152 => ((pouchlaw2_num.f t152).bind fun t153 => (if t153 = 1 then ((dots_Check.f k (⟨#[97, 10]⟩ : ByteArray)).bind fun t154 => ((pouchlaw2_num.f t154).bind fun t155 => (if t155 = 1 then ((dots_Check.f k (⟨#[97, 13, 13, 10]⟩ : ByteArray)).bind fun t156 => ((pouchlaw2_num.f t156).bind fun t157 => (if t157 = 1 then ((dots_Check.f k (⟨#[13, 10]⟩ : ByteArray)).bind fun t158 => ((pouchlaw2_num.f t158).bind fun t159 => (if t159 = 0 then ((pouchlaw2_wakes.f k).bind fun t160 => (some t160)) else (some false)))) else (some false)))) else (some false)))) else (some false)))) else ((dots_Check.f k ((x4 ++ t146) ++ (⟨#[13, 10]⟩ : ByteArray))).bind fun t161 => ((pouchlaw2_num.f t161).bind fun t162 => (if t162 = 0 then ((dots_Check.f k ((x4 ++ t147) ++ (⟨#[13, 10]⟩ : ByteArray))).bind fun t163 => ((pouchlaw2_num.f t163).bind fun t164 => (if t164 = 1 then ((dots_Check.f k (⟨#[97]⟩ : ByteArray)).bind fun t165 => ((pouchlaw2_num.f t165).bind fun t166 => (if t166 = 1 then ((dots_Check.f k (⟨#[97, 10]⟩ : ByteArray)).bind fun t167 => ((pouchlaw2_num.f t167).bind fun t168 => (if t168 = 1 then ((dots_Check.f k (⟨#[97, 13, 13, 10]⟩ : ByteArray)).bind fun t169 => ((pouchlaw2_num.f t169).bind fun t170 => (if t170 = 1 then ((dots_Check.f k (⟨#[13, 10]⟩ : ByteArray)).bind fun t171 => ((pouchlaw2_num.f t171).bind fun t172 => (if t172 = 0 then ((pouchlaw2_wakes.f k).bind fun t173 => (some t173)) else (some false)))) else (some false)))) else (some false)))) else (some false)))) else (some false)))) else (some false))))) else (some false)))) else (none)) else (some false)))) else (none)) else (none)) else (none))) else (none)) else (none)))
def pouchlaw2_DotsEdges.f (k : Nat) (l0 : List ByteArray) : Option (Bool) := (pouchlaw2_many.f k 46 509).bind fun t145 => (pouchlaw2_DotsEdges.l0 k t145 (⟨#[]⟩ : ByteArray))
theorem pouchlaw2_DotsEdges.mono_l : ∀ k, (∀ y0 y1, LeO (pouchlaw2_DotsEdges.l0 k y0 y1) (pouchlaw2_DotsEdges.l0 (k + 1) y0 y1))
 | 0 => fun _ _ r h => by simp [pouchlaw2_DotsEdges.l0] at h
 | k + 1 => by
  have ih0 := pouchlaw2_DotsEdges.mono_l k
  ·
   intro y0 y1
   unfold pouchlaw2_DotsEdges.l0
   repeat' first
   | (with_reducible exact ih0 _ _)
   | (with_reducible exact dots_Check.mono _ _)
   | (with_reducible exact pouchlaw2_many.mono _ _ _)
   | (with_reducible exact pouchlaw2_wakes.mono _)
   | (with_reducible exact LeO.refl _)
   | (with_reducible exact LeO.none _)
   | (with_reducible refine LeO.ite ?_ ?_)
   | (with_reducible refine LeO.bind ?_ (fun _ => ?_))
   | exact ih0 _ _
   | exact dots_Check.mono _ _
   | exact pouchlaw2_many.mono _ _ _
   | exact pouchlaw2_wakes.mono _
   | exact LeO.none _
   | refine LeO.ite ?_ ?_
   | refine LeO.bind ?_ (fun _ => ?_)
theorem pouchlaw2_DotsEdges.mono : ∀ a0 k, LeO (pouchlaw2_DotsEdges.f k a0) (pouchlaw2_DotsEdges.f (k + 1) a0) := by
 intro a0 k
 have ih0 := pouchlaw2_DotsEdges.mono_l k
 unfold pouchlaw2_DotsEdges.f
 repeat' first
   | (with_reducible exact ih0 _ _)
   | (with_reducible exact dots_Check.mono _ _)
   | (with_reducible exact pouchlaw2_many.mono _ _ _)
   | (with_reducible exact pouchlaw2_wakes.mono _)
   | (with_reducible exact LeO.refl _)
   | (with_reducible exact LeO.none _)
   | (with_reducible refine LeO.ite ?_ ?_)
   | (with_reducible refine LeO.bind ?_ (fun _ => ?_))
   | exact ih0 _ _
   | exact dots_Check.mono _ _
   | exact pouchlaw2_many.mono _ _ _
   | exact pouchlaw2_wakes.mono _
   | exact LeO.none _
   | refine LeO.ite ?_ ?_
   | refine LeO.bind ?_ (fun _ => ?_)
set_option maxHeartbeats 8000000 in
set_option maxRecDepth 100000 in
theorem pouchlaw2_DotsEdges.calls (k : Nat) (A0 : Option Addr) (c0 : Nat) (l0 : List ByteArray) (r : Bool) (w : World) (hr0 : Kd.C Kd.string w A0 l0.length l0) (hc0 : l0.length ≤ c0) (hG : GrOk w) (h : pouchlaw2_DotsEdges.f k l0 = some r) :
  Calls Try.prog 4 #[.slice A0 l0.length c0] w fun e w' => e = .returned (.bool r) ∧ Below w.heap.size w w' := by
 have HR0 := am_ hr0
 have HC0 := am_ hc0
 clear hr0 hc0
 have HB := am_ (Below.refl w.heap.size w)
 have H : ((pouchlaw2_many.f k 46 509).bind fun t145 => (pouchlaw2_DotsEdges.l0 k t145 (⟨#[]⟩ : ByteArray))) = some r := h
 clear h
 replace H := Option.bind_eq_some_iff.mp H
 obtain ⟨t145, A20, H⟩ := H
 replace H : (pouchlaw2_DotsEdges.l0 k t145 (⟨#[]⟩ : ByteArray)) = some r := H
 have A2 := am_ A20
 clear A20
 have H' := am_ H
 clear H
 go_enter Try.func4, Try.ntmps4
 go_wp2_with (first | ((with_reducible refine gate_callee (f := 13) rfl ?_); refine goesL_ (some 8) rfl rfl Try.func13 (by kernel_rfl) rfl #[.int .u8 46, .int .i64 509] rfl (by (try simp only [m1_, m2_, m3_]); first | done | rfl | (simp only [m4_, m5_]; rfl)) ?_; (with_reducible refine (pouchlaw2_many.calls k 46 509 t145 _ A2.out).mono ?_); rintro e w3 ⟨rfl, hb⟩; refine ⟨_, rfl, ?_⟩; have n0_ := am_ (bt_ (by repeat (first | (with_reducible first | exact HB.out | apply ba_ | apply bn_ | apply bd_) | exact HB.out)) hb); clear HB; have HB := n0_; clear n0_; (try clear hb); (try clear hb2); (try clear hk); (try clear hi)))
 go_loopg [4] k (fun kq v4 w' => ∃ (x4_1 : ByteArray), v4 = .string x4_1 ∧ Aside0 (pouchlaw2_DotsEdges.l0 kq t145 x4_1 = some r) ∧ Aside0 (kq ≤ k) ∧ Aside0 (Below w.heap.size w w'))
 case atStart => exact ⟨((⟨#[]⟩ : ByteArray)), (by first | rfl | (simp; done) | (simp [*]; done)), H', ⟨Nat.le_refl _⟩, ⟨by repeat (first | (with_reducible first | exact HB.out | apply ba_ | apply bn_ | apply bd_) | exact HB.out)⟩⟩
 case round =>
  clear H'
  try clear c1
  try clear p2
  obtain ⟨x4_1, rfl, HA, HK1, HB⟩ := hrel
  cases gk with
  | zero => exact absurd HA.out (by simp [pouchlaw2_DotsEdges.l0])
  | succ k1 =>
   have H := HA.out
   clear HA
   simp only [pouchlaw2_DotsEdges.l0] at H
   by_cases c4 : (wrap64 ((wrap64 ((x4_1.size : Int) + (t145.size : Int))) + 2)) ≤ 8192
   ·
    rw [if_pos c4] at H
    have c4b0 : decide ((wrap64 ((wrap64 ((x4_1.size : Int) + (t145.size : Int))) + 2)) ≤ 8192) = true := decide_eq_true c4
    clear c4
    by_cases c5 : x4_1.size + t145.size ≤ 9223372036854775807
    ·
     rw [if_pos c5] at H
     have c5b0 := eq_true c5
     have c5b1 : decide (x4_1.size + t145.size ≤ 9223372036854775807) = true := decide_eq_true c5
     try have c5b2 : (9223372036854775807 < x4_1.size + t145.size) = False := eq_false (Nat.not_lt.2 c5)
     obtain ⟨sc6, hsc6⟩ : ∃ j_ : ByteArray, (x4_1 ++ t145) = j_ := ⟨_, rfl⟩
     replace H : (if (sc6).size + 2 ≤ 9223372036854775807 then (pouchlaw2_DotsEdges.l0 k1 t145 ((sc6) ++ (⟨#[13, 10]⟩ : ByteArray))) else (none)) = some r := by first | (rw [hsc6] at H; exact H) | (simp only [hsc6] at H ⊢; exact H)
     by_cases c7 : (sc6).size + 2 ≤ 9223372036854775807
     ·
      rw [if_pos c7] at H
      have c7b0 := eq_true c7
      have c7b1 : decide ((sc6).size + 2 ≤ 9223372036854775807) = true := decide_eq_true c7
      try have c7b2 : (9223372036854775807 < (sc6).size + 2) = False := eq_false (Nat.not_lt.2 c7)
      have H' := am_ H
      clear H
      have c4x := c4b0
      rw [show wrap64 ((wrap64 ((x4_1.size : Int) + (t145.size : Int))) + 2) = wrap64 ((x4_1.size : Int) + (t145.size : Int) + 2) from wrap_left _ _] at c4x
      go_wp2
      go_roundg k1
      case measure => have := HK1.out; omega
      case rel => exact ⟨((sc6) ++ (⟨#[13, 10]⟩ : ByteArray)), (by first | rfl | (simp; done) | (simp only [← hsc6] <;> (first | rfl | simp)) | (simp [*]; done)), H', ⟨by have := HK1.out; omega⟩, ⟨by repeat (first | (with_reducible first | exact HB.out | apply ba_ | apply bn_ | apply bd_) | exact HB.out)⟩⟩
     ·
      rw [if_neg c7] at H
      exact absurd H (by simp)
    ·
     rw [if_neg c5] at H
     exact absurd H (by simp)
   ·
    rw [if_neg c4] at H
    have c4b0 : decide ((wrap64 ((wrap64 ((x4_1.size : Int) + (t145.size : Int))) + 2)) ≤ 8192) = false := decide_eq_false c4
    clear c4
    replace H := Option.bind_eq_some_iff.mp H
    obtain ⟨t146, A80, H⟩ := H
    replace H : (if x4_1.size + t146.size ≤ 9223372036854775807 then (if (x4_1 ++ t146).size + 2 ≤ 9223372036854775807 then ((pouchlaw2_many.f k1 98 (wrap64 ((wrap64 (8192 - (x4_1.size : Int))) - 1))).bind fun t147 => (if x4_1.size + t147.size ≤ 9223372036854775807 then (if (x4_1 ++ t147).size + 2 ≤ 9223372036854775807 then (if t145.size + 2 ≤ 9223372036854775807 then ((dots_Check.f k1 (t145 ++ (⟨#[13, 10]⟩ : ByteArray))).bind fun t148 => ((pouchlaw2_num.f t148).bind fun t149 => (if t149 = 0 then (if t145.size + 3 ≤ 9223372036854775807 then ((dots_Check.f k1 (t145 ++ (⟨#[46, 13, 10]⟩ : ByteArray))).bind fun t150 => ((pouchlaw2_num.f t150).bind fun t151 => (if t151 = 1 then (if (wrap64 (8192 - (x4_1.size : Int))) < 2 then ((dots_Check.f k1 (⟨#[97]⟩ : ByteArray)).bind fun t152 => ((pouchlaw2_num.f t152).bind fun t153 => (if t153 = 1 then ((dots_Check.f k1 (⟨#[97, 10]⟩ : ByteArray)).bind fun t154 => ((pouchlaw2_num.f t154).bind fun t155 => (if t155 = 1 then ((dots_Check.f k1 (⟨#[97, 13, 13, 10]⟩ : ByteArray)).bind fun t156 => ((pouchlaw2_num.f t156).bind fun t157 => (if t157 = 1 then ((dots_Check.f k1 (⟨#[13, 10]⟩ : ByteArray)).bind fun t158 => ((pouchlaw2_num.f t158).bind fun t159 => (if t159 = 0 then ((pouchlaw2_wakes.f k1).bind fun t160 => (some t160)) else (some false)))) else (some false)))) else (some false)))) else (some false)))) else ((dots_Check.f k1 ((x4_1 ++ t146) ++ (⟨#[13, 10]⟩ : ByteArray))).bind fun t161 => ((pouchlaw2_num.f t161).bind fun t162 => (if t162 = 0 then ((dots_Check.f k1 ((x4_1 ++ t147) ++ (⟨#[13, 10]⟩ : ByteArray))).bind fun t163 => ((pouchlaw2_num.f t163).bind fun t164 => (if t164 = 1 then ((dots_Check.f k1 (⟨#[97]⟩ : ByteArray)).bind fun t165 => ((pouchlaw2_num.f t165).bind fun t166 => (if t166 = 1 then ((dots_Check.f k1 (⟨#[97, 10]⟩ : ByteArray)).bind fun t167 => ((pouchlaw2_num.f t167).bind fun t168 => (if t168 = 1 then ((dots_Check.f k1 (⟨#[97, 13, 13, 10]⟩ : ByteArray)).bind fun t169 => ((pouchlaw2_num.f t169).bind fun t170 => (if t170 = 1 then ((dots_Check.f k1 (⟨#[13, 10]⟩ : ByteArray)).bind fun t171 => ((pouchlaw2_num.f t171).bind fun t172 => (if t172 = 0 then ((pouchlaw2_wakes.f k1).bind fun t173 => (some t173)) else (some false)))) else (some false)))) else (some false)))) else (some false)))) else (some false)))) else (some false))))) else (some false)))) else (none)) else (some false)))) else (none)) else (none)) else (none))) else (none)) else (none)) = some r := H
    have A8 := am_ A80
    clear A80
    by_cases c9 : x4_1.size + t146.size ≤ 9223372036854775807
    ·
     rw [if_pos c9] at H
     have c9b0 := eq_true c9
     have c9b1 : decide (x4_1.size + t146.size ≤ 9223372036854775807) = true := decide_eq_true c9
     try have c9b2 : (9223372036854775807 < x4_1.size + t146.size) = False := eq_false (Nat.not_lt.2 c9)
     obtain ⟨sc10, hsc10⟩ : ∃ j_ : ByteArray, (x4_1 ++ t146) = j_ := ⟨_, rfl⟩
     replace H : (if (sc10).size + 2 ≤ 9223372036854775807 then ((pouchlaw2_many.f k1 98 (wrap64 ((wrap64 (8192 - (x4_1.size : Int))) - 1))).bind fun t147 => (if x4_1.size + t147.size ≤ 9223372036854775807 then (if (x4_1 ++ t147).size + 2 ≤ 9223372036854775807 then (if t145.size + 2 ≤ 9223372036854775807 then ((dots_Check.f k1 (t145 ++ (⟨#[13, 10]⟩ : ByteArray))).bind fun t148 => ((pouchlaw2_num.f t148).bind fun t149 => (if t149 = 0 then (if t145.size + 3 ≤ 9223372036854775807 then ((dots_Check.f k1 (t145 ++ (⟨#[46, 13, 10]⟩ : ByteArray))).bind fun t150 => ((pouchlaw2_num.f t150).bind fun t151 => (if t151 = 1 then (if (wrap64 (8192 - (x4_1.size : Int))) < 2 then ((dots_Check.f k1 (⟨#[97]⟩ : ByteArray)).bind fun t152 => ((pouchlaw2_num.f t152).bind fun t153 => (if t153 = 1 then ((dots_Check.f k1 (⟨#[97, 10]⟩ : ByteArray)).bind fun t154 => ((pouchlaw2_num.f t154).bind fun t155 => (if t155 = 1 then ((dots_Check.f k1 (⟨#[97, 13, 13, 10]⟩ : ByteArray)).bind fun t156 => ((pouchlaw2_num.f t156).bind fun t157 => (if t157 = 1 then ((dots_Check.f k1 (⟨#[13, 10]⟩ : ByteArray)).bind fun t158 => ((pouchlaw2_num.f t158).bind fun t159 => (if t159 = 0 then ((pouchlaw2_wakes.f k1).bind fun t160 => (some t160)) else (some false)))) else (some false)))) else (some false)))) else (some false)))) else ((dots_Check.f k1 ((sc10) ++ (⟨#[13, 10]⟩ : ByteArray))).bind fun t161 => ((pouchlaw2_num.f t161).bind fun t162 => (if t162 = 0 then ((dots_Check.f k1 ((x4_1 ++ t147) ++ (⟨#[13, 10]⟩ : ByteArray))).bind fun t163 => ((pouchlaw2_num.f t163).bind fun t164 => (if t164 = 1 then ((dots_Check.f k1 (⟨#[97]⟩ : ByteArray)).bind fun t165 => ((pouchlaw2_num.f t165).bind fun t166 => (if t166 = 1 then ((dots_Check.f k1 (⟨#[97, 10]⟩ : ByteArray)).bind fun t167 => ((pouchlaw2_num.f t167).bind fun t168 => (if t168 = 1 then ((dots_Check.f k1 (⟨#[97, 13, 13, 10]⟩ : ByteArray)).bind fun t169 => ((pouchlaw2_num.f t169).bind fun t170 => (if t170 = 1 then ((dots_Check.f k1 (⟨#[13, 10]⟩ : ByteArray)).bind fun t171 => ((pouchlaw2_num.f t171).bind fun t172 => (if t172 = 0 then ((pouchlaw2_wakes.f k1).bind fun t173 => (some t173)) else (some false)))) else (some false)))) else (some false)))) else (some false)))) else (some false)))) else (some false))))) else (some false)))) else (none)) else (some false)))) else (none)) else (none)) else (none))) else (none)) = some r := by first | (rw [hsc10] at H; exact H) | (simp only [hsc10] at H ⊢; exact H)
     (try rw [hsc10] at A8)
     by_cases c11 : (sc10).size + 2 ≤ 9223372036854775807
     ·
      rw [if_pos c11] at H
      have c11b0 := eq_true c11
      have c11b1 : decide ((sc10).size + 2 ≤ 9223372036854775807) = true := decide_eq_true c11
      try have c11b2 : (9223372036854775807 < (sc10).size + 2) = False := eq_false (Nat.not_lt.2 c11)
      replace H := Option.bind_eq_some_iff.mp H
      obtain ⟨t147, A120, H⟩ := H
      replace H : (if x4_1.size + t147.size ≤ 9223372036854775807 then (if (x4_1 ++ t147).size + 2 ≤ 9223372036854775807 then (if t145.size + 2 ≤ 9223372036854775807 then ((dots_Check.f k1 (t145 ++ (⟨#[13, 10]⟩ : ByteArray))).bind fun t148 => ((pouchlaw2_num.f t148).bind fun t149 => (if t149 = 0 then (if t145.size + 3 ≤ 9223372036854775807 then ((dots_Check.f k1 (t145 ++ (⟨#[46, 13, 10]⟩ : ByteArray))).bind fun t150 => ((pouchlaw2_num.f t150).bind fun t151 => (if t151 = 1 then (if (wrap64 (8192 - (x4_1.size : Int))) < 2 then ((dots_Check.f k1 (⟨#[97]⟩ : ByteArray)).bind fun t152 => ((pouchlaw2_num.f t152).bind fun t153 => (if t153 = 1 then ((dots_Check.f k1 (⟨#[97, 10]⟩ : ByteArray)).bind fun t154 => ((pouchlaw2_num.f t154).bind fun t155 => (if t155 = 1 then ((dots_Check.f k1 (⟨#[97, 13, 13, 10]⟩ : ByteArray)).bind fun t156 => ((pouchlaw2_num.f t156).bind fun t157 => (if t157 = 1 then ((dots_Check.f k1 (⟨#[13, 10]⟩ : ByteArray)).bind fun t158 => ((pouchlaw2_num.f t158).bind fun t159 => (if t159 = 0 then ((pouchlaw2_wakes.f k1).bind fun t160 => (some t160)) else (some false)))) else (some false)))) else (some false)))) else (some false)))) else ((dots_Check.f k1 ((sc10) ++ (⟨#[13, 10]⟩ : ByteArray))).bind fun t161 => ((pouchlaw2_num.f t161).bind fun t162 => (if t162 = 0 then ((dots_Check.f k1 ((x4_1 ++ t147) ++ (⟨#[13, 10]⟩ : ByteArray))).bind fun t163 => ((pouchlaw2_num.f t163).bind fun t164 => (if t164 = 1 then ((dots_Check.f k1 (⟨#[97]⟩ : ByteArray)).bind fun t165 => ((pouchlaw2_num.f t165).bind fun t166 => (if t166 = 1 then ((dots_Check.f k1 (⟨#[97, 10]⟩ : ByteArray)).bind fun t167 => ((pouchlaw2_num.f t167).bind fun t168 => (if t168 = 1 then ((dots_Check.f k1 (⟨#[97, 13, 13, 10]⟩ : ByteArray)).bind fun t169 => ((pouchlaw2_num.f t169).bind fun t170 => (if t170 = 1 then ((dots_Check.f k1 (⟨#[13, 10]⟩ : ByteArray)).bind fun t171 => ((pouchlaw2_num.f t171).bind fun t172 => (if t172 = 0 then ((pouchlaw2_wakes.f k1).bind fun t173 => (some t173)) else (some false)))) else (some false)))) else (some false)))) else (some false)))) else (some false)))) else (some false))))) else (some false)))) else (none)) else (some false)))) else (none)) else (none)) else (none)) = some r := H
      have A12 := am_ A120
      clear A120
      by_cases c13 : x4_1.size + t147.size ≤ 9223372036854775807
      ·
       rw [if_pos c13] at H
       have c13b0 := eq_true c13
       have c13b1 : decide (x4_1.size + t147.size ≤ 9223372036854775807) = true := decide_eq_true c13
       try have c13b2 : (9223372036854775807 < x4_1.size + t147.size) = False := eq_false (Nat.not_lt.2 c13)
       obtain ⟨sc14, hsc14⟩ : ∃ j_ : ByteArray, (x4_1 ++ t147) = j_ := ⟨_, rfl⟩
       replace H : (if (sc14).size + 2 ≤ 9223372036854775807 then (if t145.size + 2 ≤ 9223372036854775807 then ((dots_Check.f k1 (t145 ++ (⟨#[13, 10]⟩ : ByteArray))).bind fun t148 => ((pouchlaw2_num.f t148).bind fun t149 => (if t149 = 0 then (if t145.size + 3 ≤ 9223372036854775807 then ((dots_Check.f k1 (t145 ++ (⟨#[46, 13, 10]⟩ : ByteArray))).bind fun t150 => ((pouchlaw2_num.f t150).bind fun t151 => (if t151 = 1 then (if (wrap64 (8192 - (x4_1.size : Int))) < 2 then ((dots_Check.f k1 (⟨#[97]⟩ : ByteArray)).bind fun t152 => ((pouchlaw2_num.f t152).bind fun t153 => (if t153 = 1 then ((dots_Check.f k1 (⟨#[97, 10]⟩ : ByteArray)).bind fun t154 => ((pouchlaw2_num.f t154).bind fun t155 => (if t155 = 1 then ((dots_Check.f k1 (⟨#[97, 13, 13, 10]⟩ : ByteArray)).bind fun t156 => ((pouchlaw2_num.f t156).bind fun t157 => (if t157 = 1 then ((dots_Check.f k1 (⟨#[13, 10]⟩ : ByteArray)).bind fun t158 => ((pouchlaw2_num.f t158).bind fun t159 => (if t159 = 0 then ((pouchlaw2_wakes.f k1).bind fun t160 => (some t160)) else (some false)))) else (some false)))) else (some false)))) else (some false)))) else ((dots_Check.f k1 ((sc10) ++ (⟨#[13, 10]⟩ : ByteArray))).bind fun t161 => ((pouchlaw2_num.f t161).bind fun t162 => (if t162 = 0 then ((dots_Check.f k1 ((sc14) ++ (⟨#[13, 10]⟩ : ByteArray))).bind fun t163 => ((pouchlaw2_num.f t163).bind fun t164 => (if t164 = 1 then ((dots_Check.f k1 (⟨#[97]⟩ : ByteArray)).bind fun t165 => ((pouchlaw2_num.f t165).bind fun t166 => (if t166 = 1 then ((dots_Check.f k1 (⟨#[97, 10]⟩ : ByteArray)).bind fun t167 => ((pouchlaw2_num.f t167).bind fun t168 => (if t168 = 1 then ((dots_Check.f k1 (⟨#[97, 13, 13, 10]⟩ : ByteArray)).bind fun t169 => ((pouchlaw2_num.f t169).bind fun t170 => (if t170 = 1 then ((dots_Check.f k1 (⟨#[13, 10]⟩ : ByteArray)).bind fun t171 => ((pouchlaw2_num.f t171).bind fun t172 => (if t172 = 0 then ((pouchlaw2_wakes.f k1).bind fun t173 => (some t173)) else (some false)))) else (some false)))) else (some false)))) else (some false)))) else (some false)))) else (some false))))) else (some false)))) else (none)) else (some false)))) else (none)) else (none)) = some r := by first | (rw [hsc14] at H; exact H) | (simp only [hsc14] at H ⊢; exact H)
       (try rw [hsc14] at A8)
       (try rw [hsc14] at A12)
       by_cases c15 : (sc14).size + 2 ≤ 9223372036854775807
       ·
        rw [if_pos c15] at H
        have c15b0 := eq_true c15
        have c15b1 : decide ((sc14).size + 2 ≤ 9223372036854775807) = true := decide_eq_true c15
        try have c15b2 : (9223372036854775807 < (sc14).size + 2) = False := eq_false (Nat.not_lt.2 c15)
        by_cases c16 : t145.size + 2 ≤ 9223372036854775807
        ·
         rw [if_pos c16] at H
         have c16b0 := eq_true c16
         have c16b1 : decide (t145.size + 2 ≤ 9223372036854775807) = true := decide_eq_true c16
         try have c16b2 : (9223372036854775807 < t145.size + 2) = False := eq_false (Nat.not_lt.2 c16)
         replace H := Option.bind_eq_some_iff.mp H
         obtain ⟨t148, A170, H⟩ := H
         replace H : ((pouchlaw2_num.f t148).bind fun t149 => (if t149 = 0 then (if t145.size + 3 ≤ 9223372036854775807 then ((dots_Check.f k1 (t145 ++ (⟨#[46, 13, 10]⟩ : ByteArray))).bind fun t150 => ((pouchlaw2_num.f t150).bind fun t151 => (if t151 = 1 then (if (wrap64 (8192 - (x4_1.size : Int))) < 2 then ((dots_Check.f k1 (⟨#[97]⟩ : ByteArray)).bind fun t152 => ((pouchlaw2_num.f t152).bind fun t153 => (if t153 = 1 then ((dots_Check.f k1 (⟨#[97, 10]⟩ : ByteArray)).bind fun t154 => ((pouchlaw2_num.f t154).bind fun t155 => (if t155 = 1 then ((dots_Check.f k1 (⟨#[97, 13, 13, 10]⟩ : ByteArray)).bind fun t156 => ((pouchlaw2_num.f t156).bind fun t157 => (if t157 = 1 then ((dots_Check.f k1 (⟨#[13, 10]⟩ : ByteArray)).bind fun t158 => ((pouchlaw2_num.f t158).bind fun t159 => (if t159 = 0 then ((pouchlaw2_wakes.f k1).bind fun t160 => (some t160)) else (some false)))) else (some false)))) else (some false)))) else (some false)))) else ((dots_Check.f k1 ((sc10) ++ (⟨#[13, 10]⟩ : ByteArray))).bind fun t161 => ((pouchlaw2_num.f t161).bind fun t162 => (if t162 = 0 then ((dots_Check.f k1 ((sc14) ++ (⟨#[13, 10]⟩ : ByteArray))).bind fun t163 => ((pouchlaw2_num.f t163).bind fun t164 => (if t164 = 1 then ((dots_Check.f k1 (⟨#[97]⟩ : ByteArray)).bind fun t165 => ((pouchlaw2_num.f t165).bind fun t166 => (if t166 = 1 then ((dots_Check.f k1 (⟨#[97, 10]⟩ : ByteArray)).bind fun t167 => ((pouchlaw2_num.f t167).bind fun t168 => (if t168 = 1 then ((dots_Check.f k1 (⟨#[97, 13, 13, 10]⟩ : ByteArray)).bind fun t169 => ((pouchlaw2_num.f t169).bind fun t170 => (if t170 = 1 then ((dots_Check.f k1 (⟨#[13, 10]⟩ : ByteArray)).bind fun t171 => ((pouchlaw2_num.f t171).bind fun t172 => (if t172 = 0 then ((pouchlaw2_wakes.f k1).bind fun t173 => (some t173)) else (some false)))) else (some false)))) else (some false)))) else (some false)))) else (some false)))) else (some false))))) else (some false)))) else (none)) else (some false))) = some r := H
         have A17 := am_ A170
         clear A170
         replace H := Option.bind_eq_some_iff.mp H
         obtain ⟨t149, A180, H⟩ := H
         replace H : (if t149 = 0 then (if t145.size + 3 ≤ 9223372036854775807 then ((dots_Check.f k1 (t145 ++ (⟨#[46, 13, 10]⟩ : ByteArray))).bind fun t150 => ((pouchlaw2_num.f t150).bind fun t151 => (if t151 = 1 then (if (wrap64 (8192 - (x4_1.size : Int))) < 2 then ((dots_Check.f k1 (⟨#[97]⟩ : ByteArray)).bind fun t152 => ((pouchlaw2_num.f t152).bind fun t153 => (if t153 = 1 then ((dots_Check.f k1 (⟨#[97, 10]⟩ : ByteArray)).bind fun t154 => ((pouchlaw2_num.f t154).bind fun t155 => (if t155 = 1 then ((dots_Check.f k1 (⟨#[97, 13, 13, 10]⟩ : ByteArray)).bind fun t156 => ((pouchlaw2_num.f t156).bind fun t157 => (if t157 = 1 then ((dots_Check.f k1 (⟨#[13, 10]⟩ : ByteArray)).bind fun t158 => ((pouchlaw2_num.f t158).bind fun t159 => (if t159 = 0 then ((pouchlaw2_wakes.f k1).bind fun t160 => (some t160)) else (some false)))) else (some false)))) else (some false)))) else (some false)))) else ((dots_Check.f k1 ((sc10) ++ (⟨#[13, 10]⟩ : ByteArray))).bind fun t161 => ((pouchlaw2_num.f t161).bind fun t162 => (if t162 = 0 then ((dots_Check.f k1 ((sc14) ++ (⟨#[13, 10]⟩ : ByteArray))).bind fun t163 => ((pouchlaw2_num.f t163).bind fun t164 => (if t164 = 1 then ((dots_Check.f k1 (⟨#[97]⟩ : ByteArray)).bind fun t165 => ((pouchlaw2_num.f t165).bind fun t166 => (if t166 = 1 then ((dots_Check.f k1 (⟨#[97, 10]⟩ : ByteArray)).bind fun t167 => ((pouchlaw2_num.f t167).bind fun t168 => (if t168 = 1 then ((dots_Check.f k1 (⟨#[97, 13, 13, 10]⟩ : ByteArray)).bind fun t169 => ((pouchlaw2_num.f t169).bind fun t170 => (if t170 = 1 then ((dots_Check.f k1 (⟨#[13, 10]⟩ : ByteArray)).bind fun t171 => ((pouchlaw2_num.f t171).bind fun t172 => (if t172 = 0 then ((pouchlaw2_wakes.f k1).bind fun t173 => (some t173)) else (some false)))) else (some false)))) else (some false)))) else (some false)))) else (some false)))) else (some false))))) else (some false)))) else (none)) else (some false)) = some r := H
         have A18 := am_ A180
         clear A180
         by_cases c19 : t149 = 0
         ·
          rw [if_pos c19] at H
          have c19b0 : (t149 == 0) = true := beq_iff_eq.mpr c19
          have c19b1 : (t149 != 0) = false := bne_eq_false_iff_eq.mpr c19
          clear c19
          by_cases c20 : t145.size + 3 ≤ 9223372036854775807
          ·
           rw [if_pos c20] at H
           have c20b0 := eq_true c20
           have c20b1 : decide (t145.size + 3 ≤ 9223372036854775807) = true := decide_eq_true c20
           try have c20b2 : (9223372036854775807 < t145.size + 3) = False := eq_false (Nat.not_lt.2 c20)
           replace H := Option.bind_eq_some_iff.mp H
           obtain ⟨t150, A210, H⟩ := H
           replace H : ((pouchlaw2_num.f t150).bind fun t151 => (if t151 = 1 then (if (wrap64 (8192 - (x4_1.size : Int))) < 2 then ((dots_Check.f k1 (⟨#[97]⟩ : ByteArray)).bind fun t152 => ((pouchlaw2_num.f t152).bind fun t153 => (if t153 = 1 then ((dots_Check.f k1 (⟨#[97, 10]⟩ : ByteArray)).bind fun t154 => ((pouchlaw2_num.f t154).bind fun t155 => (if t155 = 1 then ((dots_Check.f k1 (⟨#[97, 13, 13, 10]⟩ : ByteArray)).bind fun t156 => ((pouchlaw2_num.f t156).bind fun t157 => (if t157 = 1 then ((dots_Check.f k1 (⟨#[13, 10]⟩ : ByteArray)).bind fun t158 => ((pouchlaw2_num.f t158).bind fun t159 => (if t159 = 0 then ((pouchlaw2_wakes.f k1).bind fun t160 => (some t160)) else (some false)))) else (some false)))) else (some false)))) else (some false)))) else ((dots_Check.f k1 ((sc10) ++ (⟨#[13, 10]⟩ : ByteArray))).bind fun t161 => ((pouchlaw2_num.f t161).bind fun t162 => (if t162 = 0 then ((dots_Check.f k1 ((sc14) ++ (⟨#[13, 10]⟩ : ByteArray))).bind fun t163 => ((pouchlaw2_num.f t163).bind fun t164 => (if t164 = 1 then ((dots_Check.f k1 (⟨#[97]⟩ : ByteArray)).bind fun t165 => ((pouchlaw2_num.f t165).bind fun t166 => (if t166 = 1 then ((dots_Check.f k1 (⟨#[97, 10]⟩ : ByteArray)).bind fun t167 => ((pouchlaw2_num.f t167).bind fun t168 => (if t168 = 1 then ((dots_Check.f k1 (⟨#[97, 13, 13, 10]⟩ : ByteArray)).bind fun t169 => ((pouchlaw2_num.f t169).bind fun t170 => (if t170 = 1 then ((dots_Check.f k1 (⟨#[13, 10]⟩ : ByteArray)).bind fun t171 => ((pouchlaw2_num.f t171).bind fun t172 => (if t172 = 0 then ((pouchlaw2_wakes.f k1).bind fun t173 => (some t173)) else (some false)))) else (some false)))) else (some false)))) else (some false)))) else (some false)))) else (some false))))) else (some false))) = some r := H
           have A21 := am_ A210
           clear A210
           replace H := Option.bind_eq_some_iff.mp H
           obtain ⟨t151, A220, H⟩ := H
           replace H : (if t151 = 1 then (if (wrap64 (8192 - (x4_1.size : Int))) < 2 then ((dots_Check.f k1 (⟨#[97]⟩ : ByteArray)).bind fun t152 => ((pouchlaw2_num.f t152).bind fun t153 => (if t153 = 1 then ((dots_Check.f k1 (⟨#[97, 10]⟩ : ByteArray)).bind fun t154 => ((pouchlaw2_num.f t154).bind fun t155 => (if t155 = 1 then ((dots_Check.f k1 (⟨#[97, 13, 13, 10]⟩ : ByteArray)).bind fun t156 => ((pouchlaw2_num.f t156).bind fun t157 => (if t157 = 1 then ((dots_Check.f k1 (⟨#[13, 10]⟩ : ByteArray)).bind fun t158 => ((pouchlaw2_num.f t158).bind fun t159 => (if t159 = 0 then ((pouchlaw2_wakes.f k1).bind fun t160 => (some t160)) else (some false)))) else (some false)))) else (some false)))) else (some false)))) else ((dots_Check.f k1 ((sc10) ++ (⟨#[13, 10]⟩ : ByteArray))).bind fun t161 => ((pouchlaw2_num.f t161).bind fun t162 => (if t162 = 0 then ((dots_Check.f k1 ((sc14) ++ (⟨#[13, 10]⟩ : ByteArray))).bind fun t163 => ((pouchlaw2_num.f t163).bind fun t164 => (if t164 = 1 then ((dots_Check.f k1 (⟨#[97]⟩ : ByteArray)).bind fun t165 => ((pouchlaw2_num.f t165).bind fun t166 => (if t166 = 1 then ((dots_Check.f k1 (⟨#[97, 10]⟩ : ByteArray)).bind fun t167 => ((pouchlaw2_num.f t167).bind fun t168 => (if t168 = 1 then ((dots_Check.f k1 (⟨#[97, 13, 13, 10]⟩ : ByteArray)).bind fun t169 => ((pouchlaw2_num.f t169).bind fun t170 => (if t170 = 1 then ((dots_Check.f k1 (⟨#[13, 10]⟩ : ByteArray)).bind fun t171 => ((pouchlaw2_num.f t171).bind fun t172 => (if t172 = 0 then ((pouchlaw2_wakes.f k1).bind fun t173 => (some t173)) else (some false)))) else (some false)))) else (some false)))) else (some false)))) else (some false)))) else (some false))))) else (some false)) = some r := H
           have A22 := am_ A220
           clear A220
           by_cases c23 : t151 = 1
           ·
            rw [if_pos c23] at H
            have c23b0 : (t151 == 1) = true := beq_iff_eq.mpr c23
            have c23b1 : (t151 != 1) = false := bne_eq_false_iff_eq.mpr c23
            clear c23
            by_cases c24 : (wrap64 (8192 - (x4_1.size : Int))) < 2
            ·
             rw [if_pos c24] at H
             have c24b0 : decide ((wrap64 (8192 - (x4_1.size : Int))) < 2) = true := decide_eq_true c24
             clear c24
             replace H := Option.bind_eq_some_iff.mp H
             obtain ⟨t152, A250, H⟩ := H
             replace H : ((pouchlaw2_num.f t152).bind fun t153 => (if t153 = 1 then ((dots_Check.f k1 (⟨#[97, 10]⟩ : ByteArray)).bind fun t154 => ((pouchlaw2_num.f t154).bind fun t155 => (if t155 = 1 then ((dots_Check.f k1 (⟨#[97, 13, 13, 10]⟩ : ByteArray)).bind fun t156 => ((pouchlaw2_num.f t156).bind fun t157 => (if t157 = 1 then ((dots_Check.f k1 (⟨#[13, 10]⟩ : ByteArray)).bind fun t158 => ((pouchlaw2_num.f t158).bind fun t159 => (if t159 = 0 then ((pouchlaw2_wakes.f k1).bind fun t160 => (some t160)) else (some false)))) else (some false)))) else (some false)))) else (some false))) = some r := H
             have A25 := am_ A250
             clear A250
             replace H := Option.bind_eq_some_iff.mp H
             obtain ⟨t153, A260, H⟩ := H
             replace H : (if t153 = 1 then ((dots_Check.f k1 (⟨#[97, 10]⟩ : ByteArray)).bind fun t154 => ((pouchlaw2_num.f t154).bind fun t155 => (if t155 = 1 then ((dots_Check.f k1 (⟨#[97, 13, 13, 10]⟩ : ByteArray)).bind fun t156 => ((pouchlaw2_num.f t156).bind fun t157 => (if t157 = 1 then ((dots_Check.f k1 (⟨#[13, 10]⟩ : ByteArray)).bind fun t158 => ((pouchlaw2_num.f t158).bind fun t159 => (if t159 = 0 then ((pouchlaw2_wakes.f k1).bind fun t160 => (some t160)) else (some false)))) else (some false)))) else (some false)))) else (some false)) = some r := H
             have A26 := am_ A260
             clear A260
             by_cases c27 : t153 = 1
             ·
              rw [if_pos c27] at H
              have c27b0 : (t153 == 1) = true := beq_iff_eq.mpr c27
              have c27b1 : (t153 != 1) = false := bne_eq_false_iff_eq.mpr c27
              clear c27
              replace H := Option.bind_eq_some_iff.mp H
              obtain ⟨t154, A280, H⟩ := H
              replace H : ((pouchlaw2_num.f t154).bind fun t155 => (if t155 = 1 then ((dots_Check.f k1 (⟨#[97, 13, 13, 10]⟩ : ByteArray)).bind fun t156 => ((pouchlaw2_num.f t156).bind fun t157 => (if t157 = 1 then ((dots_Check.f k1 (⟨#[13, 10]⟩ : ByteArray)).bind fun t158 => ((pouchlaw2_num.f t158).bind fun t159 => (if t159 = 0 then ((pouchlaw2_wakes.f k1).bind fun t160 => (some t160)) else (some false)))) else (some false)))) else (some false))) = some r := H
              have A28 := am_ A280
              clear A280
              replace H := Option.bind_eq_some_iff.mp H
              obtain ⟨t155, A290, H⟩ := H
              replace H : (if t155 = 1 then ((dots_Check.f k1 (⟨#[97, 13, 13, 10]⟩ : ByteArray)).bind fun t156 => ((pouchlaw2_num.f t156).bind fun t157 => (if t157 = 1 then ((dots_Check.f k1 (⟨#[13, 10]⟩ : ByteArray)).bind fun t158 => ((pouchlaw2_num.f t158).bind fun t159 => (if t159 = 0 then ((pouchlaw2_wakes.f k1).bind fun t160 => (some t160)) else (some false)))) else (some false)))) else (some false)) = some r := H
              have A29 := am_ A290
              clear A290
              by_cases c30 : t155 = 1
              ·
               rw [if_pos c30] at H
               have c30b0 : (t155 == 1) = true := beq_iff_eq.mpr c30
               have c30b1 : (t155 != 1) = false := bne_eq_false_iff_eq.mpr c30
               clear c30
               replace H := Option.bind_eq_some_iff.mp H
               obtain ⟨t156, A310, H⟩ := H
               replace H : ((pouchlaw2_num.f t156).bind fun t157 => (if t157 = 1 then ((dots_Check.f k1 (⟨#[13, 10]⟩ : ByteArray)).bind fun t158 => ((pouchlaw2_num.f t158).bind fun t159 => (if t159 = 0 then ((pouchlaw2_wakes.f k1).bind fun t160 => (some t160)) else (some false)))) else (some false))) = some r := H
               have A31 := am_ A310
               clear A310
               replace H := Option.bind_eq_some_iff.mp H
               obtain ⟨t157, A320, H⟩ := H
               replace H : (if t157 = 1 then ((dots_Check.f k1 (⟨#[13, 10]⟩ : ByteArray)).bind fun t158 => ((pouchlaw2_num.f t158).bind fun t159 => (if t159 = 0 then ((pouchlaw2_wakes.f k1).bind fun t160 => (some t160)) else (some false)))) else (some false)) = some r := H
               have A32 := am_ A320
               clear A320
               by_cases c33 : t157 = 1
               ·
                rw [if_pos c33] at H
                have c33b0 : (t157 == 1) = true := beq_iff_eq.mpr c33
                have c33b1 : (t157 != 1) = false := bne_eq_false_iff_eq.mpr c33
                clear c33
                replace H := Option.bind_eq_some_iff.mp H
                obtain ⟨t158, A340, H⟩ := H
                replace H : ((pouchlaw2_num.f t158).bind fun t159 => (if t159 = 0 then ((pouchlaw2_wakes.f k1).bind fun t160 => (some t160)) else (some false))) = some r := H
                have A34 := am_ A340
                clear A340
                replace H := Option.bind_eq_some_iff.mp H
                obtain ⟨t159, A350, H⟩ := H
                replace H : (if t159 = 0 then ((pouchlaw2_wakes.f k1).bind fun t160 => (some t160)) else (some false)) = some r := H
                have A35 := am_ A350
                clear A350
                by_cases c36 : t159 = 0
                ·
                 rw [if_pos c36] at H
                 have c36b0 : (t159 == 0) = true := beq_iff_eq.mpr c36
                 have c36b1 : (t159 != 0) = false := bne_eq_false_iff_eq.mpr c36
                 clear c36
                 replace H := Option.bind_eq_some_iff.mp H
                 obtain ⟨t160, A370, H⟩ := H
                 replace H : (some t160) = some r := H
                 have A37 := am_ A370
                 clear A370
                 obtain rfl := Option.some.inj H
                 have hwA : wrap64 ((wrap64 (8192 - (x4_1.size : Int))) - 2) = 8192 - (x4_1.size : Int) - 2 := by unfold wrap64; omega
                 have hwB : wrap64 ((wrap64 (8192 - (x4_1.size : Int))) - 1) = 8192 - (x4_1.size : Int) - 1 := by unfold wrap64; omega
                 have hwC : wrap64 (8192 - (x4_1.size : Int)) = 8192 - (x4_1.size : Int) := by unfold wrap64; omega
                 have hwD : wrap64 ((wrap64 ((x4_1.size : Int) + (t145.size : Int))) + 2) = wrap64 ((x4_1.size : Int) + (t145.size : Int) + 2) := wrap_left _ _
                 rw [hwA] at A8
                 rw [hwB] at A12
                 have c4x := c4b0
                 rw [hwD] at c4x
                 try have c24x := c24b0
                 try rw [hwC] at c24x
                 clear hwA hwB hwC hwD
                 go_wp2_with (first | ((with_reducible refine gate_callee (f := 13) rfl ?_); refine goesL_ (some 26) rfl rfl Try.func13 (by kernel_rfl) rfl #[.int .u8 98, .int .i64 (8192 - (x4_1.size : Int) - 2)] rfl (by (try simp only [m1_, m2_, m3_]); first | done | rfl | (simp only [m4_, m5_]; rfl)) ?_; (with_reducible refine (pouchlaw2_many.calls k1 98 (8192 - (x4_1.size : Int) - 2) t146 _ A8.out).mono ?_); rintro e w38 ⟨rfl, hb⟩; refine ⟨_, rfl, ?_⟩; have n0_ := am_ (bt_ (by repeat (first | (with_reducible first | exact HB.out | apply ba_ | apply bn_ | apply bd_) | exact HB.out)) hb); clear HB; have HB := n0_; clear n0_; (try clear hb); (try clear hb2); (try clear hk); (try clear hi)) | ((with_reducible refine gate_callee (f := 13) rfl ?_); refine goesL_ (some 32) rfl rfl Try.func13 (by kernel_rfl) rfl #[.int .u8 98, .int .i64 (8192 - (x4_1.size : Int) - 1)] rfl (by (try simp only [m1_, m2_, m3_]); first | done | rfl | (simp only [m4_, m5_]; rfl)) ?_; (with_reducible refine (pouchlaw2_many.calls k1 98 (8192 - (x4_1.size : Int) - 1) t147 _ A12.out).mono ?_); rintro e w39 ⟨rfl, hb⟩; refine ⟨_, rfl, ?_⟩; have n0_ := am_ (bt_ (by repeat (first | (with_reducible first | exact HB.out | apply ba_ | apply bn_ | apply bd_) | exact HB.out)) hb); clear HB; have HB := n0_; clear n0_; (try clear hb); (try clear hb2); (try clear hk); (try clear hi)) | ((with_reducible refine gate_callee (f := 11) rfl ?_); refine goesL_ (some 37) rfl rfl Try.func11 (by kernel_rfl) rfl #[.string (t145 ++ (⟨#[13, 10]⟩ : ByteArray))] rfl (by (try simp only [m1_, m2_, m3_]); first | done | rfl | (simp only [m4_, m5_]; rfl)) ?_; (with_reducible refine (dots_Check.calls k1 (t145 ++ (⟨#[13, 10]⟩ : ByteArray)) t148 _ ?side1 A17.out).mono ?_); (case side1 => exact GrOk.below hG (by repeat (first | (with_reducible first | exact HB.out | apply ba_ | apply bn_ | apply bd_) | exact HB.out))); rintro e w40 ⟨rfl, hb⟩; refine ⟨_, rfl, ?_⟩; have n0_ := am_ (bt_ (by repeat (first | (with_reducible first | exact HB.out | apply ba_ | apply bn_ | apply bd_) | exact HB.out)) hb); clear HB; have HB := n0_; clear n0_; (try clear hb); (try clear hb2); (try clear hk); (try clear hi)) | ((with_reducible refine gate_callee (f := 10) rfl ?_); refine goesL_ (some 38) rfl rfl Try.func10 (by kernel_rfl) rfl #[.int .i64 t148] rfl (by (try simp only [m1_, m2_, m3_]); first | done | rfl | (simp only [m4_, m5_]; rfl)) ?_; (with_reducible refine (pouchlaw2_num.calls t148 t149 _ A18.out).mono ?_); rintro e w' ⟨rfl, ⟨nd, rfl⟩⟩; refine ⟨_, rfl, ?_⟩) | (go_at_call 11; (with_reducible refine (dots_Check.calls k1 (t145 ++ (⟨#[46, 13, 10]⟩ : ByteArray)) t150 _ ?side1 A21.out).mono ?_); (case side1 => exact GrOk.below hG (by repeat (first | (with_reducible first | exact HB.out | apply ba_ | apply bn_ | apply bd_) | exact HB.out))); rintro e w41 ⟨rfl, hb⟩; have n0_ := am_ (bt_ (by repeat (first | (with_reducible first | exact HB.out | apply ba_ | apply bn_ | apply bd_) | exact HB.out)) hb); clear HB; have HB := n0_; clear n0_; (try clear hb); (try clear hb2); (try clear hk); (try clear hi)) | (go_at_call 10; (with_reducible refine (pouchlaw2_num.calls t150 t151 _ A22.out).mono ?_); rintro e w' ⟨rfl, ⟨nd, rfl⟩⟩) | (go_at_call 11; (with_reducible refine (dots_Check.calls k1 (⟨#[97]⟩ : ByteArray) t152 _ ?side1 A25.out).mono ?_); (case side1 => exact GrOk.below hG (by repeat (first | (with_reducible first | exact HB.out | apply ba_ | apply bn_ | apply bd_) | exact HB.out))); rintro e w42 ⟨rfl, hb⟩; have n0_ := am_ (bt_ (by repeat (first | (with_reducible first | exact HB.out | apply ba_ | apply bn_ | apply bd_) | exact HB.out)) hb); clear HB; have HB := n0_; clear n0_; (try clear hb); (try clear hb2); (try clear hk); (try clear hi)) | (go_at_call 10; (with_reducible refine (pouchlaw2_num.calls t152 t153 _ A26.out).mono ?_); rintro e w' ⟨rfl, ⟨nd, rfl⟩⟩) | (go_at_call 11; (with_reducible refine (dots_Check.calls k1 (⟨#[97, 10]⟩ : ByteArray) t154 _ ?side1 A28.out).mono ?_); (case side1 => exact GrOk.below hG (by repeat (first | (with_reducible first | exact HB.out | apply ba_ | apply bn_ | apply bd_) | exact HB.out))); rintro e w43 ⟨rfl, hb⟩; have n0_ := am_ (bt_ (by repeat (first | (with_reducible first | exact HB.out | apply ba_ | apply bn_ | apply bd_) | exact HB.out)) hb); clear HB; have HB := n0_; clear n0_; (try clear hb); (try clear hb2); (try clear hk); (try clear hi)) | (go_at_call 10; (with_reducible refine (pouchlaw2_num.calls t154 t155 _ A29.out).mono ?_); rintro e w' ⟨rfl, ⟨nd, rfl⟩⟩) | (go_at_call 11; (with_reducible refine (dots_Check.calls k1 (⟨#[97, 13, 13, 10]⟩ : ByteArray) t156 _ ?side1 A31.out).mono ?_); (case side1 => exact GrOk.below hG (by repeat (first | (with_reducible first | exact HB.out | apply ba_ | apply bn_ | apply bd_) | exact HB.out))); rintro e w44 ⟨rfl, hb⟩; have n0_ := am_ (bt_ (by repeat (first | (with_reducible first | exact HB.out | apply ba_ | apply bn_ | apply bd_) | exact HB.out)) hb); clear HB; have HB := n0_; clear n0_; (try clear hb); (try clear hb2); (try clear hk); (try clear hi)) | (go_at_call 10; (with_reducible refine (pouchlaw2_num.calls t156 t157 _ A32.out).mono ?_); rintro e w' ⟨rfl, ⟨nd, rfl⟩⟩) | (go_at_call 11; (with_reducible refine (dots_Check.calls k1 (⟨#[13, 10]⟩ : ByteArray) t158 _ ?side1 A34.out).mono ?_); (case side1 => exact GrOk.below hG (by repeat (first | (with_reducible first | exact HB.out | apply ba_ | apply bn_ | apply bd_) | exact HB.out))); rintro e w45 ⟨rfl, hb⟩; have n0_ := am_ (bt_ (by repeat (first | (with_reducible first | exact HB.out | apply ba_ | apply bn_ | apply bd_) | exact HB.out)) hb); clear HB; have HB := n0_; clear n0_; (try clear hb); (try clear hb2); (try clear hk); (try clear hi)) | (go_at_call 10; (with_reducible refine (pouchlaw2_num.calls t158 t159 _ A35.out).mono ?_); rintro e w' ⟨rfl, ⟨nd, rfl⟩⟩) | (go_at_call 12; (with_reducible refine (pouchlaw2_wakes.calls k1  t160 _ ?side1 A37.out).mono ?_); (case side1 => exact GrOk.below hG (by repeat (first | (with_reducible first | exact HB.out | apply ba_ | apply bn_ | apply bd_) | exact HB.out))); rintro e w46 ⟨rfl, hb⟩; have n0_ := am_ (bt_ (by repeat (first | (with_reducible first | exact HB.out | apply ba_ | apply bn_ | apply bd_) | exact HB.out)) hb); clear HB; have HB := n0_; clear n0_; (try clear hb); (try clear hb2); (try clear hk); (try clear hi)))
                 go_ret
                 exact ⟨by first | rfl | (simp [errW_none, errW_some] <;> rfl) | (simp only [← hsc10, ← hsc14]; first | rfl | (simp [errW_none, errW_some] <;> rfl)) | (simp [*, errW_none, errW_some] <;> rfl), by repeat (first | (with_reducible first | exact HB.out | apply ba_ | apply bn_ | apply bd_) | exact HB.out)⟩
                ·
                 rw [if_neg c36] at H
                 have c36b0 : (t159 == 0) = false := beq_eq_false_iff_ne.mpr c36
                 have c36b1 : (t159 != 0) = true := bne_iff_ne.mpr c36
                 obtain rfl := Option.some.inj H
                 have hwA : wrap64 ((wrap64 (8192 - (x4_1.size : Int))) - 2) = 8192 - (x4_1.size : Int) - 2 := by unfold wrap64; omega
                 have hwB : wrap64 ((wrap64 (8192 - (x4_1.size : Int))) - 1) = 8192 - (x4_1.size : Int) - 1 := by unfold wrap64; omega
                 have hwC : wrap64 (8192 - (x4_1.size : Int)) = 8192 - (x4_1.size : Int) := by unfold wrap64; omega
                 have hwD : wrap64 ((wrap64 ((x4_1.size : Int) + (t145.size : Int))) + 2) = wrap64 ((x4_1.size : Int) + (t145.size : Int) + 2) := wrap_left _ _
                 rw [hwA] at A8
                 rw [hwB] at A12
                 have c4x := c4b0
                 rw [hwD] at c4x
                 try have c24x := c24b0
                 try rw [hwC] at c24x
                 clear hwA hwB hwC hwD
                 go_wp2_with (first | ((with_reducible refine gate_callee (f := 13) rfl ?_); refine goesL_ (some 26) rfl rfl Try.func13 (by kernel_rfl) rfl #[.int .u8 98, .int .i64 (8192 - (x4_1.size : Int) - 2)] rfl (by (try simp only [m1_, m2_, m3_]); first | done | rfl | (simp only [m4_, m5_]; rfl)) ?_; (with_reducible refine (pouchlaw2_many.calls k1 98 (8192 - (x4_1.size : Int) - 2) t146 _ A8.out).mono ?_); rintro e w47 ⟨rfl, hb⟩; refine ⟨_, rfl, ?_⟩; have n0_ := am_ (bt_ (by repeat (first | (with_reducible first | exact HB.out | apply ba_ | apply bn_ | apply bd_) | exact HB.out)) hb); clear HB; have HB := n0_; clear n0_; (try clear hb); (try clear hb2); (try clear hk); (try clear hi)) | ((with_reducible refine gate_callee (f := 13) rfl ?_); refine goesL_ (some 32) rfl rfl Try.func13 (by kernel_rfl) rfl #[.int .u8 98, .int .i64 (8192 - (x4_1.size : Int) - 1)] rfl (by (try simp only [m1_, m2_, m3_]); first | done | rfl | (simp only [m4_, m5_]; rfl)) ?_; (with_reducible refine (pouchlaw2_many.calls k1 98 (8192 - (x4_1.size : Int) - 1) t147 _ A12.out).mono ?_); rintro e w48 ⟨rfl, hb⟩; refine ⟨_, rfl, ?_⟩; have n0_ := am_ (bt_ (by repeat (first | (with_reducible first | exact HB.out | apply ba_ | apply bn_ | apply bd_) | exact HB.out)) hb); clear HB; have HB := n0_; clear n0_; (try clear hb); (try clear hb2); (try clear hk); (try clear hi)) | ((with_reducible refine gate_callee (f := 11) rfl ?_); refine goesL_ (some 37) rfl rfl Try.func11 (by kernel_rfl) rfl #[.string (t145 ++ (⟨#[13, 10]⟩ : ByteArray))] rfl (by (try simp only [m1_, m2_, m3_]); first | done | rfl | (simp only [m4_, m5_]; rfl)) ?_; (with_reducible refine (dots_Check.calls k1 (t145 ++ (⟨#[13, 10]⟩ : ByteArray)) t148 _ ?side1 A17.out).mono ?_); (case side1 => exact GrOk.below hG (by repeat (first | (with_reducible first | exact HB.out | apply ba_ | apply bn_ | apply bd_) | exact HB.out))); rintro e w49 ⟨rfl, hb⟩; refine ⟨_, rfl, ?_⟩; have n0_ := am_ (bt_ (by repeat (first | (with_reducible first | exact HB.out | apply ba_ | apply bn_ | apply bd_) | exact HB.out)) hb); clear HB; have HB := n0_; clear n0_; (try clear hb); (try clear hb2); (try clear hk); (try clear hi)) | ((with_reducible refine gate_callee (f := 10) rfl ?_); refine goesL_ (some 38) rfl rfl Try.func10 (by kernel_rfl) rfl #[.int .i64 t148] rfl (by (try simp only [m1_, m2_, m3_]); first | done | rfl | (simp only [m4_, m5_]; rfl)) ?_; (with_reducible refine (pouchlaw2_num.calls t148 t149 _ A18.out).mono ?_); rintro e w' ⟨rfl, ⟨nd, rfl⟩⟩; refine ⟨_, rfl, ?_⟩) | (go_at_call 11; (with_reducible refine (dots_Check.calls k1 (t145 ++ (⟨#[46, 13, 10]⟩ : ByteArray)) t150 _ ?side1 A21.out).mono ?_); (case side1 => exact GrOk.below hG (by repeat (first | (with_reducible first | exact HB.out | apply ba_ | apply bn_ | apply bd_) | exact HB.out))); rintro e w50 ⟨rfl, hb⟩; have n0_ := am_ (bt_ (by repeat (first | (with_reducible first | exact HB.out | apply ba_ | apply bn_ | apply bd_) | exact HB.out)) hb); clear HB; have HB := n0_; clear n0_; (try clear hb); (try clear hb2); (try clear hk); (try clear hi)) | (go_at_call 10; (with_reducible refine (pouchlaw2_num.calls t150 t151 _ A22.out).mono ?_); rintro e w' ⟨rfl, ⟨nd, rfl⟩⟩) | (go_at_call 11; (with_reducible refine (dots_Check.calls k1 (⟨#[97]⟩ : ByteArray) t152 _ ?side1 A25.out).mono ?_); (case side1 => exact GrOk.below hG (by repeat (first | (with_reducible first | exact HB.out | apply ba_ | apply bn_ | apply bd_) | exact HB.out))); rintro e w51 ⟨rfl, hb⟩; have n0_ := am_ (bt_ (by repeat (first | (with_reducible first | exact HB.out | apply ba_ | apply bn_ | apply bd_) | exact HB.out)) hb); clear HB; have HB := n0_; clear n0_; (try clear hb); (try clear hb2); (try clear hk); (try clear hi)) | (go_at_call 10; (with_reducible refine (pouchlaw2_num.calls t152 t153 _ A26.out).mono ?_); rintro e w' ⟨rfl, ⟨nd, rfl⟩⟩) | (go_at_call 11; (with_reducible refine (dots_Check.calls k1 (⟨#[97, 10]⟩ : ByteArray) t154 _ ?side1 A28.out).mono ?_); (case side1 => exact GrOk.below hG (by repeat (first | (with_reducible first | exact HB.out | apply ba_ | apply bn_ | apply bd_) | exact HB.out))); rintro e w52 ⟨rfl, hb⟩; have n0_ := am_ (bt_ (by repeat (first | (with_reducible first | exact HB.out | apply ba_ | apply bn_ | apply bd_) | exact HB.out)) hb); clear HB; have HB := n0_; clear n0_; (try clear hb); (try clear hb2); (try clear hk); (try clear hi)) | (go_at_call 10; (with_reducible refine (pouchlaw2_num.calls t154 t155 _ A29.out).mono ?_); rintro e w' ⟨rfl, ⟨nd, rfl⟩⟩) | (go_at_call 11; (with_reducible refine (dots_Check.calls k1 (⟨#[97, 13, 13, 10]⟩ : ByteArray) t156 _ ?side1 A31.out).mono ?_); (case side1 => exact GrOk.below hG (by repeat (first | (with_reducible first | exact HB.out | apply ba_ | apply bn_ | apply bd_) | exact HB.out))); rintro e w53 ⟨rfl, hb⟩; have n0_ := am_ (bt_ (by repeat (first | (with_reducible first | exact HB.out | apply ba_ | apply bn_ | apply bd_) | exact HB.out)) hb); clear HB; have HB := n0_; clear n0_; (try clear hb); (try clear hb2); (try clear hk); (try clear hi)) | (go_at_call 10; (with_reducible refine (pouchlaw2_num.calls t156 t157 _ A32.out).mono ?_); rintro e w' ⟨rfl, ⟨nd, rfl⟩⟩) | (go_at_call 11; (with_reducible refine (dots_Check.calls k1 (⟨#[13, 10]⟩ : ByteArray) t158 _ ?side1 A34.out).mono ?_); (case side1 => exact GrOk.below hG (by repeat (first | (with_reducible first | exact HB.out | apply ba_ | apply bn_ | apply bd_) | exact HB.out))); rintro e w54 ⟨rfl, hb⟩; have n0_ := am_ (bt_ (by repeat (first | (with_reducible first | exact HB.out | apply ba_ | apply bn_ | apply bd_) | exact HB.out)) hb); clear HB; have HB := n0_; clear n0_; (try clear hb); (try clear hb2); (try clear hk); (try clear hi)) | (go_at_call 10; (with_reducible refine (pouchlaw2_num.calls t158 t159 _ A35.out).mono ?_); rintro e w' ⟨rfl, ⟨nd, rfl⟩⟩))
                 go_ret
                 exact ⟨by first | rfl | (simp [errW_none, errW_some] <;> rfl) | (simp only [← hsc10, ← hsc14]; first | rfl | (simp [errW_none, errW_some] <;> rfl)) | (simp [*, errW_none, errW_some] <;> rfl), by repeat (first | (with_reducible first | exact HB.out | apply ba_ | apply bn_ | apply bd_) | exact HB.out)⟩
               ·
                rw [if_neg c33] at H
                have c33b0 : (t157 == 1) = false := beq_eq_false_iff_ne.mpr c33
                have c33b1 : (t157 != 1) = true := bne_iff_ne.mpr c33
                obtain rfl := Option.some.inj H
                have hwA : wrap64 ((wrap64 (8192 - (x4_1.size : Int))) - 2) = 8192 - (x4_1.size : Int) - 2 := by unfold wrap64; omega
                have hwB : wrap64 ((wrap64 (8192 - (x4_1.size : Int))) - 1) = 8192 - (x4_1.size : Int) - 1 := by unfold wrap64; omega
                have hwC : wrap64 (8192 - (x4_1.size : Int)) = 8192 - (x4_1.size : Int) := by unfold wrap64; omega
                have hwD : wrap64 ((wrap64 ((x4_1.size : Int) + (t145.size : Int))) + 2) = wrap64 ((x4_1.size : Int) + (t145.size : Int) + 2) := wrap_left _ _
                rw [hwA] at A8
                rw [hwB] at A12
                have c4x := c4b0
                rw [hwD] at c4x
                try have c24x := c24b0
                try rw [hwC] at c24x
                clear hwA hwB hwC hwD
                go_wp2_with (first | ((with_reducible refine gate_callee (f := 13) rfl ?_); refine goesL_ (some 26) rfl rfl Try.func13 (by kernel_rfl) rfl #[.int .u8 98, .int .i64 (8192 - (x4_1.size : Int) - 2)] rfl (by (try simp only [m1_, m2_, m3_]); first | done | rfl | (simp only [m4_, m5_]; rfl)) ?_; (with_reducible refine (pouchlaw2_many.calls k1 98 (8192 - (x4_1.size : Int) - 2) t146 _ A8.out).mono ?_); rintro e w55 ⟨rfl, hb⟩; refine ⟨_, rfl, ?_⟩; have n0_ := am_ (bt_ (by repeat (first | (with_reducible first | exact HB.out | apply ba_ | apply bn_ | apply bd_) | exact HB.out)) hb); clear HB; have HB := n0_; clear n0_; (try clear hb); (try clear hb2); (try clear hk); (try clear hi)) | ((with_reducible refine gate_callee (f := 13) rfl ?_); refine goesL_ (some 32) rfl rfl Try.func13 (by kernel_rfl) rfl #[.int .u8 98, .int .i64 (8192 - (x4_1.size : Int) - 1)] rfl (by (try simp only [m1_, m2_, m3_]); first | done | rfl | (simp only [m4_, m5_]; rfl)) ?_; (with_reducible refine (pouchlaw2_many.calls k1 98 (8192 - (x4_1.size : Int) - 1) t147 _ A12.out).mono ?_); rintro e w56 ⟨rfl, hb⟩; refine ⟨_, rfl, ?_⟩; have n0_ := am_ (bt_ (by repeat (first | (with_reducible first | exact HB.out | apply ba_ | apply bn_ | apply bd_) | exact HB.out)) hb); clear HB; have HB := n0_; clear n0_; (try clear hb); (try clear hb2); (try clear hk); (try clear hi)) | ((with_reducible refine gate_callee (f := 11) rfl ?_); refine goesL_ (some 37) rfl rfl Try.func11 (by kernel_rfl) rfl #[.string (t145 ++ (⟨#[13, 10]⟩ : ByteArray))] rfl (by (try simp only [m1_, m2_, m3_]); first | done | rfl | (simp only [m4_, m5_]; rfl)) ?_; (with_reducible refine (dots_Check.calls k1 (t145 ++ (⟨#[13, 10]⟩ : ByteArray)) t148 _ ?side1 A17.out).mono ?_); (case side1 => exact GrOk.below hG (by repeat (first | (with_reducible first | exact HB.out | apply ba_ | apply bn_ | apply bd_) | exact HB.out))); rintro e w57 ⟨rfl, hb⟩; refine ⟨_, rfl, ?_⟩; have n0_ := am_ (bt_ (by repeat (first | (with_reducible first | exact HB.out | apply ba_ | apply bn_ | apply bd_) | exact HB.out)) hb); clear HB; have HB := n0_; clear n0_; (try clear hb); (try clear hb2); (try clear hk); (try clear hi)) | ((with_reducible refine gate_callee (f := 10) rfl ?_); refine goesL_ (some 38) rfl rfl Try.func10 (by kernel_rfl) rfl #[.int .i64 t148] rfl (by (try simp only [m1_, m2_, m3_]); first | done | rfl | (simp only [m4_, m5_]; rfl)) ?_; (with_reducible refine (pouchlaw2_num.calls t148 t149 _ A18.out).mono ?_); rintro e w' ⟨rfl, ⟨nd, rfl⟩⟩; refine ⟨_, rfl, ?_⟩) | (go_at_call 11; (with_reducible refine (dots_Check.calls k1 (t145 ++ (⟨#[46, 13, 10]⟩ : ByteArray)) t150 _ ?side1 A21.out).mono ?_); (case side1 => exact GrOk.below hG (by repeat (first | (with_reducible first | exact HB.out | apply ba_ | apply bn_ | apply bd_) | exact HB.out))); rintro e w58 ⟨rfl, hb⟩; have n0_ := am_ (bt_ (by repeat (first | (with_reducible first | exact HB.out | apply ba_ | apply bn_ | apply bd_) | exact HB.out)) hb); clear HB; have HB := n0_; clear n0_; (try clear hb); (try clear hb2); (try clear hk); (try clear hi)) | (go_at_call 10; (with_reducible refine (pouchlaw2_num.calls t150 t151 _ A22.out).mono ?_); rintro e w' ⟨rfl, ⟨nd, rfl⟩⟩) | (go_at_call 11; (with_reducible refine (dots_Check.calls k1 (⟨#[97]⟩ : ByteArray) t152 _ ?side1 A25.out).mono ?_); (case side1 => exact GrOk.below hG (by repeat (first | (with_reducible first | exact HB.out | apply ba_ | apply bn_ | apply bd_) | exact HB.out))); rintro e w59 ⟨rfl, hb⟩; have n0_ := am_ (bt_ (by repeat (first | (with_reducible first | exact HB.out | apply ba_ | apply bn_ | apply bd_) | exact HB.out)) hb); clear HB; have HB := n0_; clear n0_; (try clear hb); (try clear hb2); (try clear hk); (try clear hi)) | (go_at_call 10; (with_reducible refine (pouchlaw2_num.calls t152 t153 _ A26.out).mono ?_); rintro e w' ⟨rfl, ⟨nd, rfl⟩⟩) | (go_at_call 11; (with_reducible refine (dots_Check.calls k1 (⟨#[97, 10]⟩ : ByteArray) t154 _ ?side1 A28.out).mono ?_); (case side1 => exact GrOk.below hG (by repeat (first | (with_reducible first | exact HB.out | apply ba_ | apply bn_ | apply bd_) | exact HB.out))); rintro e w60 ⟨rfl, hb⟩; have n0_ := am_ (bt_ (by repeat (first | (with_reducible first | exact HB.out | apply ba_ | apply bn_ | apply bd_) | exact HB.out)) hb); clear HB; have HB := n0_; clear n0_; (try clear hb); (try clear hb2); (try clear hk); (try clear hi)) | (go_at_call 10; (with_reducible refine (pouchlaw2_num.calls t154 t155 _ A29.out).mono ?_); rintro e w' ⟨rfl, ⟨nd, rfl⟩⟩) | (go_at_call 11; (with_reducible refine (dots_Check.calls k1 (⟨#[97, 13, 13, 10]⟩ : ByteArray) t156 _ ?side1 A31.out).mono ?_); (case side1 => exact GrOk.below hG (by repeat (first | (with_reducible first | exact HB.out | apply ba_ | apply bn_ | apply bd_) | exact HB.out))); rintro e w61 ⟨rfl, hb⟩; have n0_ := am_ (bt_ (by repeat (first | (with_reducible first | exact HB.out | apply ba_ | apply bn_ | apply bd_) | exact HB.out)) hb); clear HB; have HB := n0_; clear n0_; (try clear hb); (try clear hb2); (try clear hk); (try clear hi)) | (go_at_call 10; (with_reducible refine (pouchlaw2_num.calls t156 t157 _ A32.out).mono ?_); rintro e w' ⟨rfl, ⟨nd, rfl⟩⟩))
                go_ret
                exact ⟨by first | rfl | (simp [errW_none, errW_some] <;> rfl) | (simp only [← hsc10, ← hsc14]; first | rfl | (simp [errW_none, errW_some] <;> rfl)) | (simp [*, errW_none, errW_some] <;> rfl), by repeat (first | (with_reducible first | exact HB.out | apply ba_ | apply bn_ | apply bd_) | exact HB.out)⟩
              ·
               rw [if_neg c30] at H
               have c30b0 : (t155 == 1) = false := beq_eq_false_iff_ne.mpr c30
               have c30b1 : (t155 != 1) = true := bne_iff_ne.mpr c30
               obtain rfl := Option.some.inj H
               have hwA : wrap64 ((wrap64 (8192 - (x4_1.size : Int))) - 2) = 8192 - (x4_1.size : Int) - 2 := by unfold wrap64; omega
               have hwB : wrap64 ((wrap64 (8192 - (x4_1.size : Int))) - 1) = 8192 - (x4_1.size : Int) - 1 := by unfold wrap64; omega
               have hwC : wrap64 (8192 - (x4_1.size : Int)) = 8192 - (x4_1.size : Int) := by unfold wrap64; omega
               have hwD : wrap64 ((wrap64 ((x4_1.size : Int) + (t145.size : Int))) + 2) = wrap64 ((x4_1.size : Int) + (t145.size : Int) + 2) := wrap_left _ _
               rw [hwA] at A8
               rw [hwB] at A12
               have c4x := c4b0
               rw [hwD] at c4x
               try have c24x := c24b0
               try rw [hwC] at c24x
               clear hwA hwB hwC hwD
               go_wp2_with (first | ((with_reducible refine gate_callee (f := 13) rfl ?_); refine goesL_ (some 26) rfl rfl Try.func13 (by kernel_rfl) rfl #[.int .u8 98, .int .i64 (8192 - (x4_1.size : Int) - 2)] rfl (by (try simp only [m1_, m2_, m3_]); first | done | rfl | (simp only [m4_, m5_]; rfl)) ?_; (with_reducible refine (pouchlaw2_many.calls k1 98 (8192 - (x4_1.size : Int) - 2) t146 _ A8.out).mono ?_); rintro e w62 ⟨rfl, hb⟩; refine ⟨_, rfl, ?_⟩; have n0_ := am_ (bt_ (by repeat (first | (with_reducible first | exact HB.out | apply ba_ | apply bn_ | apply bd_) | exact HB.out)) hb); clear HB; have HB := n0_; clear n0_; (try clear hb); (try clear hb2); (try clear hk); (try clear hi)) | ((with_reducible refine gate_callee (f := 13) rfl ?_); refine goesL_ (some 32) rfl rfl Try.func13 (by kernel_rfl) rfl #[.int .u8 98, .int .i64 (8192 - (x4_1.size : Int) - 1)] rfl (by (try simp only [m1_, m2_, m3_]); first | done | rfl | (simp only [m4_, m5_]; rfl)) ?_; (with_reducible refine (pouchlaw2_many.calls k1 98 (8192 - (x4_1.size : Int) - 1) t147 _ A12.out).mono ?_); rintro e w63 ⟨rfl, hb⟩; refine ⟨_, rfl, ?_⟩; have n0_ := am_ (bt_ (by repeat (first | (with_reducible first | exact HB.out | apply ba_ | apply bn_ | apply bd_) | exact HB.out)) hb); clear HB; have HB := n0_; clear n0_; (try clear hb); (try clear hb2); (try clear hk); (try clear hi)) | ((with_reducible refine gate_callee (f := 11) rfl ?_); refine goesL_ (some 37) rfl rfl Try.func11 (by kernel_rfl) rfl #[.string (t145 ++ (⟨#[13, 10]⟩ : ByteArray))] rfl (by (try simp only [m1_, m2_, m3_]); first | done | rfl | (simp only [m4_, m5_]; rfl)) ?_; (with_reducible refine (dots_Check.calls k1 (t145 ++ (⟨#[13, 10]⟩ : ByteArray)) t148 _ ?side1 A17.out).mono ?_); (case side1 => exact GrOk.below hG (by repeat (first | (with_reducible first | exact HB.out | apply ba_ | apply bn_ | apply bd_) | exact HB.out))); rintro e w64 ⟨rfl, hb⟩; refine ⟨_, rfl, ?_⟩; have n0_ := am_ (bt_ (by repeat (first | (with_reducible first | exact HB.out | apply ba_ | apply bn_ | apply bd_) | exact HB.out)) hb); clear HB; have HB := n0_; clear n0_; (try clear hb); (try clear hb2); (try clear hk); (try clear hi)) | ((with_reducible refine gate_callee (f := 10) rfl ?_); refine goesL_ (some 38) rfl rfl Try.func10 (by kernel_rfl) rfl #[.int .i64 t148] rfl (by (try simp only [m1_, m2_, m3_]); first | done | rfl | (simp only [m4_, m5_]; rfl)) ?_; (with_reducible refine (pouchlaw2_num.calls t148 t149 _ A18.out).mono ?_); rintro e w' ⟨rfl, ⟨nd, rfl⟩⟩; refine ⟨_, rfl, ?_⟩) | (go_at_call 11; (with_reducible refine (dots_Check.calls k1 (t145 ++ (⟨#[46, 13, 10]⟩ : ByteArray)) t150 _ ?side1 A21.out).mono ?_); (case side1 => exact GrOk.below hG (by repeat (first | (with_reducible first | exact HB.out | apply ba_ | apply bn_ | apply bd_) | exact HB.out))); rintro e w65 ⟨rfl, hb⟩; have n0_ := am_ (bt_ (by repeat (first | (with_reducible first | exact HB.out | apply ba_ | apply bn_ | apply bd_) | exact HB.out)) hb); clear HB; have HB := n0_; clear n0_; (try clear hb); (try clear hb2); (try clear hk); (try clear hi)) | (go_at_call 10; (with_reducible refine (pouchlaw2_num.calls t150 t151 _ A22.out).mono ?_); rintro e w' ⟨rfl, ⟨nd, rfl⟩⟩) | (go_at_call 11; (with_reducible refine (dots_Check.calls k1 (⟨#[97]⟩ : ByteArray) t152 _ ?side1 A25.out).mono ?_); (case side1 => exact GrOk.below hG (by repeat (first | (with_reducible first | exact HB.out | apply ba_ | apply bn_ | apply bd_) | exact HB.out))); rintro e w66 ⟨rfl, hb⟩; have n0_ := am_ (bt_ (by repeat (first | (with_reducible first | exact HB.out | apply ba_ | apply bn_ | apply bd_) | exact HB.out)) hb); clear HB; have HB := n0_; clear n0_; (try clear hb); (try clear hb2); (try clear hk); (try clear hi)) | (go_at_call 10; (with_reducible refine (pouchlaw2_num.calls t152 t153 _ A26.out).mono ?_); rintro e w' ⟨rfl, ⟨nd, rfl⟩⟩) | (go_at_call 11; (with_reducible refine (dots_Check.calls k1 (⟨#[97, 10]⟩ : ByteArray) t154 _ ?side1 A28.out).mono ?_); (case side1 => exact GrOk.below hG (by repeat (first | (with_reducible first | exact HB.out | apply ba_ | apply bn_ | apply bd_) | exact HB.out))); rintro e w67 ⟨rfl, hb⟩; have n0_ := am_ (bt_ (by repeat (first | (with_reducible first | exact HB.out | apply ba_ | apply bn_ | apply bd_) | exact HB.out)) hb); clear HB; have HB := n0_; clear n0_; (try clear hb); (try clear hb2); (try clear hk); (try clear hi)) | (go_at_call 10; (with_reducible refine (pouchlaw2_num.calls t154 t155 _ A29.out).mono ?_); rintro e w' ⟨rfl, ⟨nd, rfl⟩⟩))
               go_ret
               exact ⟨by first | rfl | (simp [errW_none, errW_some] <;> rfl) | (simp only [← hsc10, ← hsc14]; first | rfl | (simp [errW_none, errW_some] <;> rfl)) | (simp [*, errW_none, errW_some] <;> rfl), by repeat (first | (with_reducible first | exact HB.out | apply ba_ | apply bn_ | apply bd_) | exact HB.out)⟩
             ·
              rw [if_neg c27] at H
              have c27b0 : (t153 == 1) = false := beq_eq_false_iff_ne.mpr c27
              have c27b1 : (t153 != 1) = true := bne_iff_ne.mpr c27
              obtain rfl := Option.some.inj H
              have hwA : wrap64 ((wrap64 (8192 - (x4_1.size : Int))) - 2) = 8192 - (x4_1.size : Int) - 2 := by unfold wrap64; omega
              have hwB : wrap64 ((wrap64 (8192 - (x4_1.size : Int))) - 1) = 8192 - (x4_1.size : Int) - 1 := by unfold wrap64; omega
              have hwC : wrap64 (8192 - (x4_1.size : Int)) = 8192 - (x4_1.size : Int) := by unfold wrap64; omega
              have hwD : wrap64 ((wrap64 ((x4_1.size : Int) + (t145.size : Int))) + 2) = wrap64 ((x4_1.size : Int) + (t145.size : Int) + 2) := wrap_left _ _
              rw [hwA] at A8
              rw [hwB] at A12
              have c4x := c4b0
              rw [hwD] at c4x
              try have c24x := c24b0
              try rw [hwC] at c24x
              clear hwA hwB hwC hwD
              go_wp2_with (first | ((with_reducible refine gate_callee (f := 13) rfl ?_); refine goesL_ (some 26) rfl rfl Try.func13 (by kernel_rfl) rfl #[.int .u8 98, .int .i64 (8192 - (x4_1.size : Int) - 2)] rfl (by (try simp only [m1_, m2_, m3_]); first | done | rfl | (simp only [m4_, m5_]; rfl)) ?_; (with_reducible refine (pouchlaw2_many.calls k1 98 (8192 - (x4_1.size : Int) - 2) t146 _ A8.out).mono ?_); rintro e w68 ⟨rfl, hb⟩; refine ⟨_, rfl, ?_⟩; have n0_ := am_ (bt_ (by repeat (first | (with_reducible first | exact HB.out | apply ba_ | apply bn_ | apply bd_) | exact HB.out)) hb); clear HB; have HB := n0_; clear n0_; (try clear hb); (try clear hb2); (try clear hk); (try clear hi)) | ((with_reducible refine gate_callee (f := 13) rfl ?_); refine goesL_ (some 32) rfl rfl Try.func13 (by kernel_rfl) rfl #[.int .u8 98, .int .i64 (8192 - (x4_1.size : Int) - 1)] rfl (by (try simp only [m1_, m2_, m3_]); first | done | rfl | (simp only [m4_, m5_]; rfl)) ?_; (with_reducible refine (pouchlaw2_many.calls k1 98 (8192 - (x4_1.size : Int) - 1) t147 _ A12.out).mono ?_); rintro e w69 ⟨rfl, hb⟩; refine ⟨_, rfl, ?_⟩; have n0_ := am_ (bt_ (by repeat (first | (with_reducible first | exact HB.out | apply ba_ | apply bn_ | apply bd_) | exact HB.out)) hb); clear HB; have HB := n0_; clear n0_; (try clear hb); (try clear hb2); (try clear hk); (try clear hi)) | ((with_reducible refine gate_callee (f := 11) rfl ?_); refine goesL_ (some 37) rfl rfl Try.func11 (by kernel_rfl) rfl #[.string (t145 ++ (⟨#[13, 10]⟩ : ByteArray))] rfl (by (try simp only [m1_, m2_, m3_]); first | done | rfl | (simp only [m4_, m5_]; rfl)) ?_; (with_reducible refine (dots_Check.calls k1 (t145 ++ (⟨#[13, 10]⟩ : ByteArray)) t148 _ ?side1 A17.out).mono ?_); (case side1 => exact GrOk.below hG (by repeat (first | (with_reducible first | exact HB.out | apply ba_ | apply bn_ | apply bd_) | exact HB.out))); rintro e w70 ⟨rfl, hb⟩; refine ⟨_, rfl, ?_⟩; have n0_ := am_ (bt_ (by repeat (first | (with_reducible first | exact HB.out | apply ba_ | apply bn_ | apply bd_) | exact HB.out)) hb); clear HB; have HB := n0_; clear n0_; (try clear hb); (try clear hb2); (try clear hk); (try clear hi)) | ((with_reducible refine gate_callee (f := 10) rfl ?_); refine goesL_ (some 38) rfl rfl Try.func10 (by kernel_rfl) rfl #[.int .i64 t148] rfl (by (try simp only [m1_, m2_, m3_]); first | done | rfl | (simp only [m4_, m5_]; rfl)) ?_; (with_reducible refine (pouchlaw2_num.calls t148 t149 _ A18.out).mono ?_); rintro e w' ⟨rfl, ⟨nd, rfl⟩⟩; refine ⟨_, rfl, ?_⟩) | (go_at_call 11; (with_reducible refine (dots_Check.calls k1 (t145 ++ (⟨#[46, 13, 10]⟩ : ByteArray)) t150 _ ?side1 A21.out).mono ?_); (case side1 => exact GrOk.below hG (by repeat (first | (with_reducible first | exact HB.out | apply ba_ | apply bn_ | apply bd_) | exact HB.out))); rintro e w71 ⟨rfl, hb⟩; have n0_ := am_ (bt_ (by repeat (first | (with_reducible first | exact HB.out | apply ba_ | apply bn_ | apply bd_) | exact HB.out)) hb); clear HB; have HB := n0_; clear n0_; (try clear hb); (try clear hb2); (try clear hk); (try clear hi)) | (go_at_call 10; (with_reducible refine (pouchlaw2_num.calls t150 t151 _ A22.out).mono ?_); rintro e w' ⟨rfl, ⟨nd, rfl⟩⟩) | (go_at_call 11; (with_reducible refine (dots_Check.calls k1 (⟨#[97]⟩ : ByteArray) t152 _ ?side1 A25.out).mono ?_); (case side1 => exact GrOk.below hG (by repeat (first | (with_reducible first | exact HB.out | apply ba_ | apply bn_ | apply bd_) | exact HB.out))); rintro e w72 ⟨rfl, hb⟩; have n0_ := am_ (bt_ (by repeat (first | (with_reducible first | exact HB.out | apply ba_ | apply bn_ | apply bd_) | exact HB.out)) hb); clear HB; have HB := n0_; clear n0_; (try clear hb); (try clear hb2); (try clear hk); (try clear hi)) | (go_at_call 10; (with_reducible refine (pouchlaw2_num.calls t152 t153 _ A26.out).mono ?_); rintro e w' ⟨rfl, ⟨nd, rfl⟩⟩))
              go_ret
              exact ⟨by first | rfl | (simp [errW_none, errW_some] <;> rfl) | (simp only [← hsc10, ← hsc14]; first | rfl | (simp [errW_none, errW_some] <;> rfl)) | (simp [*, errW_none, errW_some] <;> rfl), by repeat (first | (with_reducible first | exact HB.out | apply ba_ | apply bn_ | apply bd_) | exact HB.out)⟩
            ·
             rw [if_neg c24] at H
             have c24b0 : decide ((wrap64 (8192 - (x4_1.size : Int))) < 2) = false := decide_eq_false c24
             clear c24
             replace H := Option.bind_eq_some_iff.mp H
             obtain ⟨t161, A730, H⟩ := H
             replace H : ((pouchlaw2_num.f t161).bind fun t162 => (if t162 = 0 then ((dots_Check.f k1 ((sc14) ++ (⟨#[13, 10]⟩ : ByteArray))).bind fun t163 => ((pouchlaw2_num.f t163).bind fun t164 => (if t164 = 1 then ((dots_Check.f k1 (⟨#[97]⟩ : ByteArray)).bind fun t165 => ((pouchlaw2_num.f t165).bind fun t166 => (if t166 = 1 then ((dots_Check.f k1 (⟨#[97, 10]⟩ : ByteArray)).bind fun t167 => ((pouchlaw2_num.f t167).bind fun t168 => (if t168 = 1 then ((dots_Check.f k1 (⟨#[97, 13, 13, 10]⟩ : ByteArray)).bind fun t169 => ((pouchlaw2_num.f t169).bind fun t170 => (if t170 = 1 then ((dots_Check.f k1 (⟨#[13, 10]⟩ : ByteArray)).bind fun t171 => ((pouchlaw2_num.f t171).bind fun t172 => (if t172 = 0 then ((pouchlaw2_wakes.f k1).bind fun t173 => (some t173)) else (some false)))) else (some false)))) else (some false)))) else (some false)))) else (some false)))) else (some false))) = some r := H
             have A73 := am_ A730
             clear A730
             replace H := Option.bind_eq_some_iff.mp H
             obtain ⟨t162, A740, H⟩ := H
             replace H : (if t162 = 0 then ((dots_Check.f k1 ((sc14) ++ (⟨#[13, 10]⟩ : ByteArray))).bind fun t163 => ((pouchlaw2_num.f t163).bind fun t164 => (if t164 = 1 then ((dots_Check.f k1 (⟨#[97]⟩ : ByteArray)).bind fun t165 => ((pouchlaw2_num.f t165).bind fun t166 => (if t166 = 1 then ((dots_Check.f k1 (⟨#[97, 10]⟩ : ByteArray)).bind fun t167 => ((pouchlaw2_num.f t167).bind fun t168 => (if t168 = 1 then ((dots_Check.f k1 (⟨#[97, 13, 13, 10]⟩ : ByteArray)).bind fun t169 => ((pouchlaw2_num.f t169).bind fun t170 => (if t170 = 1 then ((dots_Check.f k1 (⟨#[13, 10]⟩ : ByteArray)).bind fun t171 => ((pouchlaw2_num.f t171).bind fun t172 => (if t172 = 0 then ((pouchlaw2_wakes.f k1).bind fun t173 => (some t173)) else (some false)))) else (some false)))) else (some false)))) else (some false)))) else (some false)))) else (some false)) = some r := H
             have A74 := am_ A740
             clear A740
             by_cases c75 : t162 = 0
             ·
              rw [if_pos c75] at H
              have c75b0 : (t162 == 0) = true := beq_iff_eq.mpr c75
              have c75b1 : (t162 != 0) = false := bne_eq_false_iff_eq.mpr c75
              clear c75
              replace H := Option.bind_eq_some_iff.mp H
              obtain ⟨t163, A760, H⟩ := H
              replace H : ((pouchlaw2_num.f t163).bind fun t164 => (if t164 = 1 then ((dots_Check.f k1 (⟨#[97]⟩ : ByteArray)).bind fun t165 => ((pouchlaw2_num.f t165).bind fun t166 => (if t166 = 1 then ((dots_Check.f k1 (⟨#[97, 10]⟩ : ByteArray)).bind fun t167 => ((pouchlaw2_num.f t167).bind fun t168 => (if t168 = 1 then ((dots_Check.f k1 (⟨#[97, 13, 13, 10]⟩ : ByteArray)).bind fun t169 => ((pouchlaw2_num.f t169).bind fun t170 => (if t170 = 1 then ((dots_Check.f k1 (⟨#[13, 10]⟩ : ByteArray)).bind fun t171 => ((pouchlaw2_num.f t171).bind fun t172 => (if t172 = 0 then ((pouchlaw2_wakes.f k1).bind fun t173 => (some t173)) else (some false)))) else (some false)))) else (some false)))) else (some false)))) else (some false))) = some r := H
              have A76 := am_ A760
              clear A760
              replace H := Option.bind_eq_some_iff.mp H
              obtain ⟨t164, A770, H⟩ := H
              replace H : (if t164 = 1 then ((dots_Check.f k1 (⟨#[97]⟩ : ByteArray)).bind fun t165 => ((pouchlaw2_num.f t165).bind fun t166 => (if t166 = 1 then ((dots_Check.f k1 (⟨#[97, 10]⟩ : ByteArray)).bind fun t167 => ((pouchlaw2_num.f t167).bind fun t168 => (if t168 = 1 then ((dots_Check.f k1 (⟨#[97, 13, 13, 10]⟩ : ByteArray)).bind fun t169 => ((pouchlaw2_num.f t169).bind fun t170 => (if t170 = 1 then ((dots_Check.f k1 (⟨#[13, 10]⟩ : ByteArray)).bind fun t171 => ((pouchlaw2_num.f t171).bind fun t172 => (if t172 = 0 then ((pouchlaw2_wakes.f k1).bind fun t173 => (some t173)) else (some false)))) else (some false)))) else (some false)))) else (some false)))) else (some false)) = some r := H
              have A77 := am_ A770
              clear A770
              by_cases c78 : t164 = 1
              ·
               rw [if_pos c78] at H
               have c78b0 : (t164 == 1) = true := beq_iff_eq.mpr c78
               have c78b1 : (t164 != 1) = false := bne_eq_false_iff_eq.mpr c78
               clear c78
               replace H := Option.bind_eq_some_iff.mp H
               obtain ⟨t165, A790, H⟩ := H
               replace H : ((pouchlaw2_num.f t165).bind fun t166 => (if t166 = 1 then ((dots_Check.f k1 (⟨#[97, 10]⟩ : ByteArray)).bind fun t167 => ((pouchlaw2_num.f t167).bind fun t168 => (if t168 = 1 then ((dots_Check.f k1 (⟨#[97, 13, 13, 10]⟩ : ByteArray)).bind fun t169 => ((pouchlaw2_num.f t169).bind fun t170 => (if t170 = 1 then ((dots_Check.f k1 (⟨#[13, 10]⟩ : ByteArray)).bind fun t171 => ((pouchlaw2_num.f t171).bind fun t172 => (if t172 = 0 then ((pouchlaw2_wakes.f k1).bind fun t173 => (some t173)) else (some false)))) else (some false)))) else (some false)))) else (some false))) = some r := H
               have A79 := am_ A790
               clear A790
               replace H := Option.bind_eq_some_iff.mp H
               obtain ⟨t166, A800, H⟩ := H
               replace H : (if t166 = 1 then ((dots_Check.f k1 (⟨#[97, 10]⟩ : ByteArray)).bind fun t167 => ((pouchlaw2_num.f t167).bind fun t168 => (if t168 = 1 then ((dots_Check.f k1 (⟨#[97, 13, 13, 10]⟩ : ByteArray)).bind fun t169 => ((pouchlaw2_num.f t169).bind fun t170 => (if t170 = 1 then ((dots_Check.f k1 (⟨#[13, 10]⟩ : ByteArray)).bind fun t171 => ((pouchlaw2_num.f t171).bind fun t172 => (if t172 = 0 then ((pouchlaw2_wakes.f k1).bind fun t173 => (some t173)) else (some false)))) else (some false)))) else (some false)))) else (some false)) = some r := H
               have A80 := am_ A800
               clear A800
               by_cases c81 : t166 = 1
               ·
                rw [if_pos c81] at H
                have c81b0 : (t166 == 1) = true := beq_iff_eq.mpr c81
                have c81b1 : (t166 != 1) = false := bne_eq_false_iff_eq.mpr c81
                clear c81
                replace H := Option.bind_eq_some_iff.mp H
                obtain ⟨t167, A820, H⟩ := H
                replace H : ((pouchlaw2_num.f t167).bind fun t168 => (if t168 = 1 then ((dots_Check.f k1 (⟨#[97, 13, 13, 10]⟩ : ByteArray)).bind fun t169 => ((pouchlaw2_num.f t169).bind fun t170 => (if t170 = 1 then ((dots_Check.f k1 (⟨#[13, 10]⟩ : ByteArray)).bind fun t171 => ((pouchlaw2_num.f t171).bind fun t172 => (if t172 = 0 then ((pouchlaw2_wakes.f k1).bind fun t173 => (some t173)) else (some false)))) else (some false)))) else (some false))) = some r := H
                have A82 := am_ A820
                clear A820
                replace H := Option.bind_eq_some_iff.mp H
                obtain ⟨t168, A830, H⟩ := H
                replace H : (if t168 = 1 then ((dots_Check.f k1 (⟨#[97, 13, 13, 10]⟩ : ByteArray)).bind fun t169 => ((pouchlaw2_num.f t169).bind fun t170 => (if t170 = 1 then ((dots_Check.f k1 (⟨#[13, 10]⟩ : ByteArray)).bind fun t171 => ((pouchlaw2_num.f t171).bind fun t172 => (if t172 = 0 then ((pouchlaw2_wakes.f k1).bind fun t173 => (some t173)) else (some false)))) else (some false)))) else (some false)) = some r := H
                have A83 := am_ A830
                clear A830
                by_cases c84 : t168 = 1
                ·
                 rw [if_pos c84] at H
                 have c84b0 : (t168 == 1) = true := beq_iff_eq.mpr c84
                 have c84b1 : (t168 != 1) = false := bne_eq_false_iff_eq.mpr c84
                 clear c84
                 replace H := Option.bind_eq_some_iff.mp H
                 obtain ⟨t169, A850, H⟩ := H
                 replace H : ((pouchlaw2_num.f t169).bind fun t170 => (if t170 = 1 then ((dots_Check.f k1 (⟨#[13, 10]⟩ : ByteArray)).bind fun t171 => ((pouchlaw2_num.f t171).bind fun t172 => (if t172 = 0 then ((pouchlaw2_wakes.f k1).bind fun t173 => (some t173)) else (some false)))) else (some false))) = some r := H
                 have A85 := am_ A850
                 clear A850
                 replace H := Option.bind_eq_some_iff.mp H
                 obtain ⟨t170, A860, H⟩ := H
                 replace H : (if t170 = 1 then ((dots_Check.f k1 (⟨#[13, 10]⟩ : ByteArray)).bind fun t171 => ((pouchlaw2_num.f t171).bind fun t172 => (if t172 = 0 then ((pouchlaw2_wakes.f k1).bind fun t173 => (some t173)) else (some false)))) else (some false)) = some r := H
                 have A86 := am_ A860
                 clear A860
                 by_cases c87 : t170 = 1
                 ·
                  rw [if_pos c87] at H
                  have c87b0 : (t170 == 1) = true := beq_iff_eq.mpr c87
                  have c87b1 : (t170 != 1) = false := bne_eq_false_iff_eq.mpr c87
                  clear c87
                  replace H := Option.bind_eq_some_iff.mp H
                  obtain ⟨t171, A880, H⟩ := H
                  replace H : ((pouchlaw2_num.f t171).bind fun t172 => (if t172 = 0 then ((pouchlaw2_wakes.f k1).bind fun t173 => (some t173)) else (some false))) = some r := H
                  have A88 := am_ A880
                  clear A880
                  replace H := Option.bind_eq_some_iff.mp H
                  obtain ⟨t172, A890, H⟩ := H
                  replace H : (if t172 = 0 then ((pouchlaw2_wakes.f k1).bind fun t173 => (some t173)) else (some false)) = some r := H
                  have A89 := am_ A890
                  clear A890
                  by_cases c90 : t172 = 0
                  ·
                   rw [if_pos c90] at H
                   have c90b0 : (t172 == 0) = true := beq_iff_eq.mpr c90
                   have c90b1 : (t172 != 0) = false := bne_eq_false_iff_eq.mpr c90
                   clear c90
                   replace H := Option.bind_eq_some_iff.mp H
                   obtain ⟨t173, A910, H⟩ := H
                   replace H : (some t173) = some r := H
                   have A91 := am_ A910
                   clear A910
                   obtain rfl := Option.some.inj H
                   have hwA : wrap64 ((wrap64 (8192 - (x4_1.size : Int))) - 2) = 8192 - (x4_1.size : Int) - 2 := by unfold wrap64; omega
                   have hwB : wrap64 ((wrap64 (8192 - (x4_1.size : Int))) - 1) = 8192 - (x4_1.size : Int) - 1 := by unfold wrap64; omega
                   have hwC : wrap64 (8192 - (x4_1.size : Int)) = 8192 - (x4_1.size : Int) := by unfold wrap64; omega
                   have hwD : wrap64 ((wrap64 ((x4_1.size : Int) + (t145.size : Int))) + 2) = wrap64 ((x4_1.size : Int) + (t145.size : Int) + 2) := wrap_left _ _
                   rw [hwA] at A8
                   rw [hwB] at A12
                   have c4x := c4b0
                   rw [hwD] at c4x
                   try have c24x := c24b0
                   try rw [hwC] at c24x
                   clear hwA hwB hwC hwD
                   go_wp2_with (first | ((with_reducible refine gate_callee (f := 13) rfl ?_); refine goesL_ (some 26) rfl rfl Try.func13 (by kernel_rfl) rfl #[.int .u8 98, .int .i64 (8192 - (x4_1.size : Int) - 2)] rfl (by (try simp only [m1_, m2_, m3_]); first | done | rfl | (simp only [m4_, m5_]; rfl)) ?_; (with_reducible refine (pouchlaw2_many.calls k1 98 (8192 - (x4_1.size : Int) - 2) t146 _ A8.out).mono ?_); rintro e w92 ⟨rfl, hb⟩; refine ⟨_, rfl, ?_⟩; have n0_ := am_ (bt_ (by repeat (first | (with_reducible first | exact HB.out | apply ba_ | apply bn_ | apply bd_) | exact HB.out)) hb); clear HB; have HB := n0_; clear n0_; (try clear hb); (try clear hb2); (try clear hk); (try clear hi)) | ((with_reducible refine gate_callee (f := 13) rfl ?_); refine goesL_ (some 32) rfl rfl Try.func13 (by kernel_rfl) rfl #[.int .u8 98, .int .i64 (8192 - (x4_1.size : Int) - 1)] rfl (by (try simp only [m1_, m2_, m3_]); first | done | rfl | (simp only [m4_, m5_]; rfl)) ?_; (with_reducible refine (pouchlaw2_many.calls k1 98 (8192 - (x4_1.size : Int) - 1) t147 _ A12.out).mono ?_); rintro e w93 ⟨rfl, hb⟩; refine ⟨_, rfl, ?_⟩; have n0_ := am_ (bt_ (by repeat (first | (with_reducible first | exact HB.out | apply ba_ | apply bn_ | apply bd_) | exact HB.out)) hb); clear HB; have HB := n0_; clear n0_; (try clear hb); (try clear hb2); (try clear hk); (try clear hi)) | ((with_reducible refine gate_callee (f := 11) rfl ?_); refine goesL_ (some 37) rfl rfl Try.func11 (by kernel_rfl) rfl #[.string (t145 ++ (⟨#[13, 10]⟩ : ByteArray))] rfl (by (try simp only [m1_, m2_, m3_]); first | done | rfl | (simp only [m4_, m5_]; rfl)) ?_; (with_reducible refine (dots_Check.calls k1 (t145 ++ (⟨#[13, 10]⟩ : ByteArray)) t148 _ ?side1 A17.out).mono ?_); (case side1 => exact GrOk.below hG (by repeat (first | (with_reducible first | exact HB.out | apply ba_ | apply bn_ | apply bd_) | exact HB.out))); rintro e w94 ⟨rfl, hb⟩; refine ⟨_, rfl, ?_⟩; have n0_ := am_ (bt_ (by repeat (first | (with_reducible first | exact HB.out | apply ba_ | apply bn_ | apply bd_) | exact HB.out)) hb); clear HB; have HB := n0_; clear n0_; (try clear hb); (try clear hb2); (try clear hk); (try clear hi)) | ((with_reducible refine gate_callee (f := 10) rfl ?_); refine goesL_ (some 38) rfl rfl Try.func10 (by kernel_rfl) rfl #[.int .i64 t148] rfl (by (try simp only [m1_, m2_, m3_]); first | done | rfl | (simp only [m4_, m5_]; rfl)) ?_; (with_reducible refine (pouchlaw2_num.calls t148 t149 _ A18.out).mono ?_); rintro e w' ⟨rfl, ⟨nd, rfl⟩⟩; refine ⟨_, rfl, ?_⟩) | (go_at_call 11; (with_reducible refine (dots_Check.calls k1 (t145 ++ (⟨#[46, 13, 10]⟩ : ByteArray)) t150 _ ?side1 A21.out).mono ?_); (case side1 => exact GrOk.below hG (by repeat (first | (with_reducible first | exact HB.out | apply ba_ | apply bn_ | apply bd_) | exact HB.out))); rintro e w95 ⟨rfl, hb⟩; have n0_ := am_ (bt_ (by repeat (first | (with_reducible first | exact HB.out | apply ba_ | apply bn_ | apply bd_) | exact HB.out)) hb); clear HB; have HB := n0_; clear n0_; (try clear hb); (try clear hb2); (try clear hk); (try clear hi)) | (go_at_call 10; (with_reducible refine (pouchlaw2_num.calls t150 t151 _ A22.out).mono ?_); rintro e w' ⟨rfl, ⟨nd, rfl⟩⟩) | (go_at_call 11; (with_reducible refine (dots_Check.calls k1 ((sc10) ++ (⟨#[13, 10]⟩ : ByteArray)) t161 _ ?side1 A73.out).mono ?_); (case side1 => exact GrOk.below hG (by repeat (first | (with_reducible first | exact HB.out | apply ba_ | apply bn_ | apply bd_) | exact HB.out))); rintro e w96 ⟨rfl, hb⟩; have n0_ := am_ (bt_ (by repeat (first | (with_reducible first | exact HB.out | apply ba_ | apply bn_ | apply bd_) | exact HB.out)) hb); clear HB; have HB := n0_; clear n0_; (try clear hb); (try clear hb2); (try clear hk); (try clear hi)) | (go_at_call 10; (with_reducible refine (pouchlaw2_num.calls t161 t162 _ A74.out).mono ?_); rintro e w' ⟨rfl, ⟨nd, rfl⟩⟩) | (go_at_call 11; (with_reducible refine (dots_Check.calls k1 ((sc14) ++ (⟨#[13, 10]⟩ : ByteArray)) t163 _ ?side1 A76.out).mono ?_); (case side1 => exact GrOk.below hG (by repeat (first | (with_reducible first | exact HB.out | apply ba_ | apply bn_ | apply bd_) | exact HB.out))); rintro e w97 ⟨rfl, hb⟩; have n0_ := am_ (bt_ (by repeat (first | (with_reducible first | exact HB.out | apply ba_ | apply bn_ | apply bd_) | exact HB.out)) hb); clear HB; have HB := n0_; clear n0_; (try clear hb); (try clear hb2); (try clear hk); (try clear hi)) | (go_at_call 10; (with_reducible refine (pouchlaw2_num.calls t163 t164 _ A77.out).mono ?_); rintro e w' ⟨rfl, ⟨nd, rfl⟩⟩) | (go_at_call 11; (with_reducible refine (dots_Check.calls k1 (⟨#[97]⟩ : ByteArray) t165 _ ?side1 A79.out).mono ?_); (case side1 => exact GrOk.below hG (by repeat (first | (with_reducible first | exact HB.out | apply ba_ | apply bn_ | apply bd_) | exact HB.out))); rintro e w98 ⟨rfl, hb⟩; have n0_ := am_ (bt_ (by repeat (first | (with_reducible first | exact HB.out | apply ba_ | apply bn_ | apply bd_) | exact HB.out)) hb); clear HB; have HB := n0_; clear n0_; (try clear hb); (try clear hb2); (try clear hk); (try clear hi)) | (go_at_call 10; (with_reducible refine (pouchlaw2_num.calls t165 t166 _ A80.out).mono ?_); rintro e w' ⟨rfl, ⟨nd, rfl⟩⟩) | (go_at_call 11; (with_reducible refine (dots_Check.calls k1 (⟨#[97, 10]⟩ : ByteArray) t167 _ ?side1 A82.out).mono ?_); (case side1 => exact GrOk.below hG (by repeat (first | (with_reducible first | exact HB.out | apply ba_ | apply bn_ | apply bd_) | exact HB.out))); rintro e w99 ⟨rfl, hb⟩; have n0_ := am_ (bt_ (by repeat (first | (with_reducible first | exact HB.out | apply ba_ | apply bn_ | apply bd_) | exact HB.out)) hb); clear HB; have HB := n0_; clear n0_; (try clear hb); (try clear hb2); (try clear hk); (try clear hi)) | (go_at_call 10; (with_reducible refine (pouchlaw2_num.calls t167 t168 _ A83.out).mono ?_); rintro e w' ⟨rfl, ⟨nd, rfl⟩⟩) | (go_at_call 11; (with_reducible refine (dots_Check.calls k1 (⟨#[97, 13, 13, 10]⟩ : ByteArray) t169 _ ?side1 A85.out).mono ?_); (case side1 => exact GrOk.below hG (by repeat (first | (with_reducible first | exact HB.out | apply ba_ | apply bn_ | apply bd_) | exact HB.out))); rintro e w100 ⟨rfl, hb⟩; have n0_ := am_ (bt_ (by repeat (first | (with_reducible first | exact HB.out | apply ba_ | apply bn_ | apply bd_) | exact HB.out)) hb); clear HB; have HB := n0_; clear n0_; (try clear hb); (try clear hb2); (try clear hk); (try clear hi)) | (go_at_call 10; (with_reducible refine (pouchlaw2_num.calls t169 t170 _ A86.out).mono ?_); rintro e w' ⟨rfl, ⟨nd, rfl⟩⟩) | (go_at_call 11; (with_reducible refine (dots_Check.calls k1 (⟨#[13, 10]⟩ : ByteArray) t171 _ ?side1 A88.out).mono ?_); (case side1 => exact GrOk.below hG (by repeat (first | (with_reducible first | exact HB.out | apply ba_ | apply bn_ | apply bd_) | exact HB.out))); rintro e w101 ⟨rfl, hb⟩; have n0_ := am_ (bt_ (by repeat (first | (with_reducible first | exact HB.out | apply ba_ | apply bn_ | apply bd_) | exact HB.out)) hb); clear HB; have HB := n0_; clear n0_; (try clear hb); (try clear hb2); (try clear hk); (try clear hi)) | (go_at_call 10; (with_reducible refine (pouchlaw2_num.calls t171 t172 _ A89.out).mono ?_); rintro e w' ⟨rfl, ⟨nd, rfl⟩⟩) | (go_at_call 12; (with_reducible refine (pouchlaw2_wakes.calls k1  t173 _ ?side1 A91.out).mono ?_); (case side1 => exact GrOk.below hG (by repeat (first | (with_reducible first | exact HB.out | apply ba_ | apply bn_ | apply bd_) | exact HB.out))); rintro e w102 ⟨rfl, hb⟩; have n0_ := am_ (bt_ (by repeat (first | (with_reducible first | exact HB.out | apply ba_ | apply bn_ | apply bd_) | exact HB.out)) hb); clear HB; have HB := n0_; clear n0_; (try clear hb); (try clear hb2); (try clear hk); (try clear hi)))
                   go_ret
                   exact ⟨by first | rfl | (simp [errW_none, errW_some] <;> rfl) | (simp only [← hsc10, ← hsc14]; first | rfl | (simp [errW_none, errW_some] <;> rfl)) | (simp [*, errW_none, errW_some] <;> rfl), by repeat (first | (with_reducible first | exact HB.out | apply ba_ | apply bn_ | apply bd_) | exact HB.out)⟩
                  ·
                   rw [if_neg c90] at H
                   have c90b0 : (t172 == 0) = false := beq_eq_false_iff_ne.mpr c90
                   have c90b1 : (t172 != 0) = true := bne_iff_ne.mpr c90
                   obtain rfl := Option.some.inj H
                   have hwA : wrap64 ((wrap64 (8192 - (x4_1.size : Int))) - 2) = 8192 - (x4_1.size : Int) - 2 := by unfold wrap64; omega
                   have hwB : wrap64 ((wrap64 (8192 - (x4_1.size : Int))) - 1) = 8192 - (x4_1.size : Int) - 1 := by unfold wrap64; omega
                   have hwC : wrap64 (8192 - (x4_1.size : Int)) = 8192 - (x4_1.size : Int) := by unfold wrap64; omega
                   have hwD : wrap64 ((wrap64 ((x4_1.size : Int) + (t145.size : Int))) + 2) = wrap64 ((x4_1.size : Int) + (t145.size : Int) + 2) := wrap_left _ _
                   rw [hwA] at A8
                   rw [hwB] at A12
                   have c4x := c4b0
                   rw [hwD] at c4x
                   try have c24x := c24b0
                   try rw [hwC] at c24x
                   clear hwA hwB hwC hwD
                   go_wp2_with (first | ((with_reducible refine gate_callee (f := 13) rfl ?_); refine goesL_ (some 26) rfl rfl Try.func13 (by kernel_rfl) rfl #[.int .u8 98, .int .i64 (8192 - (x4_1.size : Int) - 2)] rfl (by (try simp only [m1_, m2_, m3_]); first | done | rfl | (simp only [m4_, m5_]; rfl)) ?_; (with_reducible refine (pouchlaw2_many.calls k1 98 (8192 - (x4_1.size : Int) - 2) t146 _ A8.out).mono ?_); rintro e w103 ⟨rfl, hb⟩; refine ⟨_, rfl, ?_⟩; have n0_ := am_ (bt_ (by repeat (first | (with_reducible first | exact HB.out | apply ba_ | apply bn_ | apply bd_) | exact HB.out)) hb); clear HB; have HB := n0_; clear n0_; (try clear hb); (try clear hb2); (try clear hk); (try clear hi)) | ((with_reducible refine gate_callee (f := 13) rfl ?_); refine goesL_ (some 32) rfl rfl Try.func13 (by kernel_rfl) rfl #[.int .u8 98, .int .i64 (8192 - (x4_1.size : Int) - 1)] rfl (by (try simp only [m1_, m2_, m3_]); first | done | rfl | (simp only [m4_, m5_]; rfl)) ?_; (with_reducible refine (pouchlaw2_many.calls k1 98 (8192 - (x4_1.size : Int) - 1) t147 _ A12.out).mono ?_); rintro e w104 ⟨rfl, hb⟩; refine ⟨_, rfl, ?_⟩; have n0_ := am_ (bt_ (by repeat (first | (with_reducible first | exact HB.out | apply ba_ | apply bn_ | apply bd_) | exact HB.out)) hb); clear HB; have HB := n0_; clear n0_; (try clear hb); (try clear hb2); (try clear hk); (try clear hi)) | ((with_reducible refine gate_callee (f := 11) rfl ?_); refine goesL_ (some 37) rfl rfl Try.func11 (by kernel_rfl) rfl #[.string (t145 ++ (⟨#[13, 10]⟩ : ByteArray))] rfl (by (try simp only [m1_, m2_, m3_]); first | done | rfl | (simp only [m4_, m5_]; rfl)) ?_; (with_reducible refine (dots_Check.calls k1 (t145 ++ (⟨#[13, 10]⟩ : ByteArray)) t148 _ ?side1 A17.out).mono ?_); (case side1 => exact GrOk.below hG (by repeat (first | (with_reducible first | exact HB.out | apply ba_ | apply bn_ | apply bd_) | exact HB.out))); rintro e w105 ⟨rfl, hb⟩; refine ⟨_, rfl, ?_⟩; have n0_ := am_ (bt_ (by repeat (first | (with_reducible first | exact HB.out | apply ba_ | apply bn_ | apply bd_) | exact HB.out)) hb); clear HB; have HB := n0_; clear n0_; (try clear hb); (try clear hb2); (try clear hk); (try clear hi)) | ((with_reducible refine gate_callee (f := 10) rfl ?_); refine goesL_ (some 38) rfl rfl Try.func10 (by kernel_rfl) rfl #[.int .i64 t148] rfl (by (try simp only [m1_, m2_, m3_]); first | done | rfl | (simp only [m4_, m5_]; rfl)) ?_; (with_reducible refine (pouchlaw2_num.calls t148 t149 _ A18.out).mono ?_); rintro e w' ⟨rfl, ⟨nd, rfl⟩⟩; refine ⟨_, rfl, ?_⟩) | (go_at_call 11; (with_reducible refine (dots_Check.calls k1 (t145 ++ (⟨#[46, 13, 10]⟩ : ByteArray)) t150 _ ?side1 A21.out).mono ?_); (case side1 => exact GrOk.below hG (by repeat (first | (with_reducible first | exact HB.out | apply ba_ | apply bn_ | apply bd_) | exact HB.out))); rintro e w106 ⟨rfl, hb⟩; have n0_ := am_ (bt_ (by repeat (first | (with_reducible first | exact HB.out | apply ba_ | apply bn_ | apply bd_) | exact HB.out)) hb); clear HB; have HB := n0_; clear n0_; (try clear hb); (try clear hb2); (try clear hk); (try clear hi)) | (go_at_call 10; (with_reducible refine (pouchlaw2_num.calls t150 t151 _ A22.out).mono ?_); rintro e w' ⟨rfl, ⟨nd, rfl⟩⟩) | (go_at_call 11; (with_reducible refine (dots_Check.calls k1 ((sc10) ++ (⟨#[13, 10]⟩ : ByteArray)) t161 _ ?side1 A73.out).mono ?_); (case side1 => exact GrOk.below hG (by repeat (first | (with_reducible first | exact HB.out | apply ba_ | apply bn_ | apply bd_) | exact HB.out))); rintro e w107 ⟨rfl, hb⟩; have n0_ := am_ (bt_ (by repeat (first | (with_reducible first | exact HB.out | apply ba_ | apply bn_ | apply bd_) | exact HB.out)) hb); clear HB; have HB := n0_; clear n0_; (try clear hb); (try clear hb2); (try clear hk); (try clear hi)) | (go_at_call 10; (with_reducible refine (pouchlaw2_num.calls t161 t162 _ A74.out).mono ?_); rintro e w' ⟨rfl, ⟨nd, rfl⟩⟩) | (go_at_call 11; (with_reducible refine (dots_Check.calls k1 ((sc14) ++ (⟨#[13, 10]⟩ : ByteArray)) t163 _ ?side1 A76.out).mono ?_); (case side1 => exact GrOk.below hG (by repeat (first | (with_reducible first | exact HB.out | apply ba_ | apply bn_ | apply bd_) | exact HB.out))); rintro e w108 ⟨rfl, hb⟩; have n0_ := am_ (bt_ (by repeat (first | (with_reducible first | exact HB.out | apply ba_ | apply bn_ | apply bd_) | exact HB.out)) hb); clear HB; have HB := n0_; clear n0_; (try clear hb); (try clear hb2); (try clear hk); (try clear hi)) | (go_at_call 10; (with_reducible refine (pouchlaw2_num.calls t163 t164 _ A77.out).mono ?_); rintro e w' ⟨rfl, ⟨nd, rfl⟩⟩) | (go_at_call 11; (with_reducible refine (dots_Check.calls k1 (⟨#[97]⟩ : ByteArray) t165 _ ?side1 A79.out).mono ?_); (case side1 => exact GrOk.below hG (by repeat (first | (with_reducible first | exact HB.out | apply ba_ | apply bn_ | apply bd_) | exact HB.out))); rintro e w109 ⟨rfl, hb⟩; have n0_ := am_ (bt_ (by repeat (first | (with_reducible first | exact HB.out | apply ba_ | apply bn_ | apply bd_) | exact HB.out)) hb); clear HB; have HB := n0_; clear n0_; (try clear hb); (try clear hb2); (try clear hk); (try clear hi)) | (go_at_call 10; (with_reducible refine (pouchlaw2_num.calls t165 t166 _ A80.out).mono ?_); rintro e w' ⟨rfl, ⟨nd, rfl⟩⟩) | (go_at_call 11; (with_reducible refine (dots_Check.calls k1 (⟨#[97, 10]⟩ : ByteArray) t167 _ ?side1 A82.out).mono ?_); (case side1 => exact GrOk.below hG (by repeat (first | (with_reducible first | exact HB.out | apply ba_ | apply bn_ | apply bd_) | exact HB.out))); rintro e w110 ⟨rfl, hb⟩; have n0_ := am_ (bt_ (by repeat (first | (with_reducible first | exact HB.out | apply ba_ | apply bn_ | apply bd_) | exact HB.out)) hb); clear HB; have HB := n0_; clear n0_; (try clear hb); (try clear hb2); (try clear hk); (try clear hi)) | (go_at_call 10; (with_reducible refine (pouchlaw2_num.calls t167 t168 _ A83.out).mono ?_); rintro e w' ⟨rfl, ⟨nd, rfl⟩⟩) | (go_at_call 11; (with_reducible refine (dots_Check.calls k1 (⟨#[97, 13, 13, 10]⟩ : ByteArray) t169 _ ?side1 A85.out).mono ?_); (case side1 => exact GrOk.below hG (by repeat (first | (with_reducible first | exact HB.out | apply ba_ | apply bn_ | apply bd_) | exact HB.out))); rintro e w111 ⟨rfl, hb⟩; have n0_ := am_ (bt_ (by repeat (first | (with_reducible first | exact HB.out | apply ba_ | apply bn_ | apply bd_) | exact HB.out)) hb); clear HB; have HB := n0_; clear n0_; (try clear hb); (try clear hb2); (try clear hk); (try clear hi)) | (go_at_call 10; (with_reducible refine (pouchlaw2_num.calls t169 t170 _ A86.out).mono ?_); rintro e w' ⟨rfl, ⟨nd, rfl⟩⟩) | (go_at_call 11; (with_reducible refine (dots_Check.calls k1 (⟨#[13, 10]⟩ : ByteArray) t171 _ ?side1 A88.out).mono ?_); (case side1 => exact GrOk.below hG (by repeat (first | (with_reducible first | exact HB.out | apply ba_ | apply bn_ | apply bd_) | exact HB.out))); rintro e w112 ⟨rfl, hb⟩; have n0_ := am_ (bt_ (by repeat (first | (with_reducible first | exact HB.out | apply ba_ | apply bn_ | apply bd_) | exact HB.out)) hb); clear HB; have HB := n0_; clear n0_; (try clear hb); (try clear hb2); (try clear hk); (try clear hi)) | (go_at_call 10; (with_reducible refine (pouchlaw2_num.calls t171 t172 _ A89.out).mono ?_); rintro e w' ⟨rfl, ⟨nd, rfl⟩⟩))
                   go_ret
                   exact ⟨by first | rfl | (simp [errW_none, errW_some] <;> rfl) | (simp only [← hsc10, ← hsc14]; first | rfl | (simp [errW_none, errW_some] <;> rfl)) | (simp [*, errW_none, errW_some] <;> rfl), by repeat (first | (with_reducible first | exact HB.out | apply ba_ | apply bn_ | apply bd_) | exact HB.out)⟩
                 ·
                  rw [if_neg c87] at H
                  have c87b0 : (t170 == 1) = false := beq_eq_false_iff_ne.mpr c87
                  have c87b1 : (t170 != 1) = true := bne_iff_ne.mpr c87
                  obtain rfl := Option.some.inj H
                  have hwA : wrap64 ((wrap64 (8192 - (x4_1.size : Int))) - 2) = 8192 - (x4_1.size : Int) - 2 := by unfold wrap64; omega
                  have hwB : wrap64 ((wrap64 (8192 - (x4_1.size : Int))) - 1) = 8192 - (x4_1.size : Int) - 1 := by unfold wrap64; omega
                  have hwC : wrap64 (8192 - (x4_1.size : Int)) = 8192 - (x4_1.size : Int) := by unfold wrap64; omega
                  have hwD : wrap64 ((wrap64 ((x4_1.size : Int) + (t145.size : Int))) + 2) = wrap64 ((x4_1.size : Int) + (t145.size : Int) + 2) := wrap_left _ _
                  rw [hwA] at A8
                  rw [hwB] at A12
                  have c4x := c4b0
                  rw [hwD] at c4x
                  try have c24x := c24b0
                  try rw [hwC] at c24x
                  clear hwA hwB hwC hwD
                  go_wp2_with (first | ((with_reducible refine gate_callee (f := 13) rfl ?_); refine goesL_ (some 26) rfl rfl Try.func13 (by kernel_rfl) rfl #[.int .u8 98, .int .i64 (8192 - (x4_1.size : Int) - 2)] rfl (by (try simp only [m1_, m2_, m3_]); first | done | rfl | (simp only [m4_, m5_]; rfl)) ?_; (with_reducible refine (pouchlaw2_many.calls k1 98 (8192 - (x4_1.size : Int) - 2) t146 _ A8.out).mono ?_); rintro e w113 ⟨rfl, hb⟩; refine ⟨_, rfl, ?_⟩; have n0_ := am_ (bt_ (by repeat (first | (with_reducible first | exact HB.out | apply ba_ | apply bn_ | apply bd_) | exact HB.out)) hb); clear HB; have HB := n0_; clear n0_; (try clear hb); (try clear hb2); (try clear hk); (try clear hi)) | ((with_reducible refine gate_callee (f := 13) rfl ?_); refine goesL_ (some 32) rfl rfl Try.func13 (by kernel_rfl) rfl #[.int .u8 98, .int .i64 (8192 - (x4_1.size : Int) - 1)] rfl (by (try simp only [m1_, m2_, m3_]); first | done | rfl | (simp only [m4_, m5_]; rfl)) ?_; (with_reducible refine (pouchlaw2_many.calls k1 98 (8192 - (x4_1.size : Int) - 1) t147 _ A12.out).mono ?_); rintro e w114 ⟨rfl, hb⟩; refine ⟨_, rfl, ?_⟩; have n0_ := am_ (bt_ (by repeat (first | (with_reducible first | exact HB.out | apply ba_ | apply bn_ | apply bd_) | exact HB.out)) hb); clear HB; have HB := n0_; clear n0_; (try clear hb); (try clear hb2); (try clear hk); (try clear hi)) | ((with_reducible refine gate_callee (f := 11) rfl ?_); refine goesL_ (some 37) rfl rfl Try.func11 (by kernel_rfl) rfl #[.string (t145 ++ (⟨#[13, 10]⟩ : ByteArray))] rfl (by (try simp only [m1_, m2_, m3_]); first | done | rfl | (simp only [m4_, m5_]; rfl)) ?_; (with_reducible refine (dots_Check.calls k1 (t145 ++ (⟨#[13, 10]⟩ : ByteArray)) t148 _ ?side1 A17.out).mono ?_); (case side1 => exact GrOk.below hG (by repeat (first | (with_reducible first | exact HB.out | apply ba_ | apply bn_ | apply bd_) | exact HB.out))); rintro e w115 ⟨rfl, hb⟩; refine ⟨_, rfl, ?_⟩; have n0_ := am_ (bt_ (by repeat (first | (with_reducible first | exact HB.out | apply ba_ | apply bn_ | apply bd_) | exact HB.out)) hb); clear HB; have HB := n0_; clear n0_; (try clear hb); (try clear hb2); (try clear hk); (try clear hi)) | ((with_reducible refine gate_callee (f := 10) rfl ?_); refine goesL_ (some 38) rfl rfl Try.func10 (by kernel_rfl) rfl #[.int .i64 t148] rfl (by (try simp only [m1_, m2_, m3_]); first | done | rfl | (simp only [m4_, m5_]; rfl)) ?_; (with_reducible refine (pouchlaw2_num.calls t148 t149 _ A18.out).mono ?_); rintro e w' ⟨rfl, ⟨nd, rfl⟩⟩; refine ⟨_, rfl, ?_⟩) | (go_at_call 11; (with_reducible refine (dots_Check.calls k1 (t145 ++ (⟨#[46, 13, 10]⟩ : ByteArray)) t150 _ ?side1 A21.out).mono ?_); (case side1 => exact GrOk.below hG (by repeat (first | (with_reducible first | exact HB.out | apply ba_ | apply bn_ | apply bd_) | exact HB.out))); rintro e w116 ⟨rfl, hb⟩; have n0_ := am_ (bt_ (by repeat (first | (with_reducible first | exact HB.out | apply ba_ | apply bn_ | apply bd_) | exact HB.out)) hb); clear HB; have HB := n0_; clear n0_; (try clear hb); (try clear hb2); (try clear hk); (try clear hi)) | (go_at_call 10; (with_reducible refine (pouchlaw2_num.calls t150 t151 _ A22.out).mono ?_); rintro e w' ⟨rfl, ⟨nd, rfl⟩⟩) | (go_at_call 11; (with_reducible refine (dots_Check.calls k1 ((sc10) ++ (⟨#[13, 10]⟩ : ByteArray)) t161 _ ?side1 A73.out).mono ?_); (case side1 => exact GrOk.below hG (by repeat (first | (with_reducible first | exact HB.out | apply ba_ | apply bn_ | apply bd_) | exact HB.out))); rintro e w117 ⟨rfl, hb⟩; have n0_ := am_ (bt_ (by repeat (first | (with_reducible first | exact HB.out | apply ba_ | apply bn_ | apply bd_) | exact HB.out)) hb); clear HB; have HB := n0_; clear n0_; (try clear hb); (try clear hb2); (try clear hk); (try clear hi)) | (go_at_call 10; (with_reducible refine (pouchlaw2_num.calls t161 t162 _ A74.out).mono ?_); rintro e w' ⟨rfl, ⟨nd, rfl⟩⟩) | (go_at_call 11; (with_reducible refine (dots_Check.calls k1 ((sc14) ++ (⟨#[13, 10]⟩ : ByteArray)) t163 _ ?side1 A76.out).mono ?_); (case side1 => exact GrOk.below hG (by repeat (first | (with_reducible first | exact HB.out | apply ba_ | apply bn_ | apply bd_) | exact HB.out))); rintro e w118 ⟨rfl, hb⟩; have n0_ := am_ (bt_ (by repeat (first | (with_reducible first | exact HB.out | apply ba_ | apply bn_ | apply bd_) | exact HB.out)) hb); clear HB; have HB := n0_; clear n0_; (try clear hb); (try clear hb2); (try clear hk); (try clear hi)) | (go_at_call 10; (with_reducible refine (pouchlaw2_num.calls t163 t164 _ A77.out).mono ?_); rintro e w' ⟨rfl, ⟨nd, rfl⟩⟩) | (go_at_call 11; (with_reducible refine (dots_Check.calls k1 (⟨#[97]⟩ : ByteArray) t165 _ ?side1 A79.out).mono ?_); (case side1 => exact GrOk.below hG (by repeat (first | (with_reducible first | exact HB.out | apply ba_ | apply bn_ | apply bd_) | exact HB.out))); rintro e w119 ⟨rfl, hb⟩; have n0_ := am_ (bt_ (by repeat (first | (with_reducible first | exact HB.out | apply ba_ | apply bn_ | apply bd_) | exact HB.out)) hb); clear HB; have HB := n0_; clear n0_; (try clear hb); (try clear hb2); (try clear hk); (try clear hi)) | (go_at_call 10; (with_reducible refine (pouchlaw2_num.calls t165 t166 _ A80.out).mono ?_); rintro e w' ⟨rfl, ⟨nd, rfl⟩⟩) | (go_at_call 11; (with_reducible refine (dots_Check.calls k1 (⟨#[97, 10]⟩ : ByteArray) t167 _ ?side1 A82.out).mono ?_); (case side1 => exact GrOk.below hG (by repeat (first | (with_reducible first | exact HB.out | apply ba_ | apply bn_ | apply bd_) | exact HB.out))); rintro e w120 ⟨rfl, hb⟩; have n0_ := am_ (bt_ (by repeat (first | (with_reducible first | exact HB.out | apply ba_ | apply bn_ | apply bd_) | exact HB.out)) hb); clear HB; have HB := n0_; clear n0_; (try clear hb); (try clear hb2); (try clear hk); (try clear hi)) | (go_at_call 10; (with_reducible refine (pouchlaw2_num.calls t167 t168 _ A83.out).mono ?_); rintro e w' ⟨rfl, ⟨nd, rfl⟩⟩) | (go_at_call 11; (with_reducible refine (dots_Check.calls k1 (⟨#[97, 13, 13, 10]⟩ : ByteArray) t169 _ ?side1 A85.out).mono ?_); (case side1 => exact GrOk.below hG (by repeat (first | (with_reducible first | exact HB.out | apply ba_ | apply bn_ | apply bd_) | exact HB.out))); rintro e w121 ⟨rfl, hb⟩; have n0_ := am_ (bt_ (by repeat (first | (with_reducible first | exact HB.out | apply ba_ | apply bn_ | apply bd_) | exact HB.out)) hb); clear HB; have HB := n0_; clear n0_; (try clear hb); (try clear hb2); (try clear hk); (try clear hi)) | (go_at_call 10; (with_reducible refine (pouchlaw2_num.calls t169 t170 _ A86.out).mono ?_); rintro e w' ⟨rfl, ⟨nd, rfl⟩⟩))
                  go_ret
                  exact ⟨by first | rfl | (simp [errW_none, errW_some] <;> rfl) | (simp only [← hsc10, ← hsc14]; first | rfl | (simp [errW_none, errW_some] <;> rfl)) | (simp [*, errW_none, errW_some] <;> rfl), by repeat (first | (with_reducible first | exact HB.out | apply ba_ | apply bn_ | apply bd_) | exact HB.out)⟩
                ·
                 rw [if_neg c84] at H
                 have c84b0 : (t168 == 1) = false := beq_eq_false_iff_ne.mpr c84
                 have c84b1 : (t168 != 1) = true := bne_iff_ne.mpr c84
                 obtain rfl := Option.some.inj H
                 have hwA : wrap64 ((wrap64 (8192 - (x4_1.size : Int))) - 2) = 8192 - (x4_1.size : Int) - 2 := by unfold wrap64; omega
                 have hwB : wrap64 ((wrap64 (8192 - (x4_1.size : Int))) - 1) = 8192 - (x4_1.size : Int) - 1 := by unfold wrap64; omega
                 have hwC : wrap64 (8192 - (x4_1.size : Int)) = 8192 - (x4_1.size : Int) := by unfold wrap64; omega
                 have hwD : wrap64 ((wrap64 ((x4_1.size : Int) + (t145.size : Int))) + 2) = wrap64 ((x4_1.size : Int) + (t145.size : Int) + 2) := wrap_left _ _
                 rw [hwA] at A8
                 rw [hwB] at A12
                 have c4x := c4b0
                 rw [hwD] at c4x
                 try have c24x := c24b0
                 try rw [hwC] at c24x
                 clear hwA hwB hwC hwD
                 go_wp2_with (first | ((with_reducible refine gate_callee (f := 13) rfl ?_); refine goesL_ (some 26) rfl rfl Try.func13 (by kernel_rfl) rfl #[.int .u8 98, .int .i64 (8192 - (x4_1.size : Int) - 2)] rfl (by (try simp only [m1_, m2_, m3_]); first | done | rfl | (simp only [m4_, m5_]; rfl)) ?_; (with_reducible refine (pouchlaw2_many.calls k1 98 (8192 - (x4_1.size : Int) - 2) t146 _ A8.out).mono ?_); rintro e w122 ⟨rfl, hb⟩; refine ⟨_, rfl, ?_⟩; have n0_ := am_ (bt_ (by repeat (first | (with_reducible first | exact HB.out | apply ba_ | apply bn_ | apply bd_) | exact HB.out)) hb); clear HB; have HB := n0_; clear n0_; (try clear hb); (try clear hb2); (try clear hk); (try clear hi)) | ((with_reducible refine gate_callee (f := 13) rfl ?_); refine goesL_ (some 32) rfl rfl Try.func13 (by kernel_rfl) rfl #[.int .u8 98, .int .i64 (8192 - (x4_1.size : Int) - 1)] rfl (by (try simp only [m1_, m2_, m3_]); first | done | rfl | (simp only [m4_, m5_]; rfl)) ?_; (with_reducible refine (pouchlaw2_many.calls k1 98 (8192 - (x4_1.size : Int) - 1) t147 _ A12.out).mono ?_); rintro e w123 ⟨rfl, hb⟩; refine ⟨_, rfl, ?_⟩; have n0_ := am_ (bt_ (by repeat (first | (with_reducible first | exact HB.out | apply ba_ | apply bn_ | apply bd_) | exact HB.out)) hb); clear HB; have HB := n0_; clear n0_; (try clear hb); (try clear hb2); (try clear hk); (try clear hi)) | ((with_reducible refine gate_callee (f := 11) rfl ?_); refine goesL_ (some 37) rfl rfl Try.func11 (by kernel_rfl) rfl #[.string (t145 ++ (⟨#[13, 10]⟩ : ByteArray))] rfl (by (try simp only [m1_, m2_, m3_]); first | done | rfl | (simp only [m4_, m5_]; rfl)) ?_; (with_reducible refine (dots_Check.calls k1 (t145 ++ (⟨#[13, 10]⟩ : ByteArray)) t148 _ ?side1 A17.out).mono ?_); (case side1 => exact GrOk.below hG (by repeat (first | (with_reducible first | exact HB.out | apply ba_ | apply bn_ | apply bd_) | exact HB.out))); rintro e w124 ⟨rfl, hb⟩; refine ⟨_, rfl, ?_⟩; have n0_ := am_ (bt_ (by repeat (first | (with_reducible first | exact HB.out | apply ba_ | apply bn_ | apply bd_) | exact HB.out)) hb); clear HB; have HB := n0_; clear n0_; (try clear hb); (try clear hb2); (try clear hk); (try clear hi)) | ((with_reducible refine gate_callee (f := 10) rfl ?_); refine goesL_ (some 38) rfl rfl Try.func10 (by kernel_rfl) rfl #[.int .i64 t148] rfl (by (try simp only [m1_, m2_, m3_]); first | done | rfl | (simp only [m4_, m5_]; rfl)) ?_; (with_reducible refine (pouchlaw2_num.calls t148 t149 _ A18.out).mono ?_); rintro e w' ⟨rfl, ⟨nd, rfl⟩⟩; refine ⟨_, rfl, ?_⟩) | (go_at_call 11; (with_reducible refine (dots_Check.calls k1 (t145 ++ (⟨#[46, 13, 10]⟩ : ByteArray)) t150 _ ?side1 A21.out).mono ?_); (case side1 => exact GrOk.below hG (by repeat (first | (with_reducible first | exact HB.out | apply ba_ | apply bn_ | apply bd_) | exact HB.out))); rintro e w125 ⟨rfl, hb⟩; have n0_ := am_ (bt_ (by repeat (first | (with_reducible first | exact HB.out | apply ba_ | apply bn_ | apply bd_) | exact HB.out)) hb); clear HB; have HB := n0_; clear n0_; (try clear hb); (try clear hb2); (try clear hk); (try clear hi)) | (go_at_call 10; (with_reducible refine (pouchlaw2_num.calls t150 t151 _ A22.out).mono ?_); rintro e w' ⟨rfl, ⟨nd, rfl⟩⟩) | (go_at_call 11; (with_reducible refine (dots_Check.calls k1 ((sc10) ++ (⟨#[13, 10]⟩ : ByteArray)) t161 _ ?side1 A73.out).mono ?_); (case side1 => exact GrOk.below hG (by repeat (first | (with_reducible first | exact HB.out | apply ba_ | apply bn_ | apply bd_) | exact HB.out))); rintro e w126 ⟨rfl, hb⟩; have n0_ := am_ (bt_ (by repeat (first | (with_reducible first | exact HB.out | apply ba_ | apply bn_ | apply bd_) | exact HB.out)) hb); clear HB; have HB := n0_; clear n0_; (try clear hb); (try clear hb2); (try clear hk); (try clear hi)) | (go_at_call 10; (with_reducible refine (pouchlaw2_num.calls t161 t162 _ A74.out).mono ?_); rintro e w' ⟨rfl, ⟨nd, rfl⟩⟩) | (go_at_call 11; (with_reducible refine (dots_Check.calls k1 ((sc14) ++ (⟨#[13, 10]⟩ : ByteArray)) t163 _ ?side1 A76.out).mono ?_); (case side1 => exact GrOk.below hG (by repeat (first | (with_reducible first | exact HB.out | apply ba_ | apply bn_ | apply bd_) | exact HB.out))); rintro e w127 ⟨rfl, hb⟩; have n0_ := am_ (bt_ (by repeat (first | (with_reducible first | exact HB.out | apply ba_ | apply bn_ | apply bd_) | exact HB.out)) hb); clear HB; have HB := n0_; clear n0_; (try clear hb); (try clear hb2); (try clear hk); (try clear hi)) | (go_at_call 10; (with_reducible refine (pouchlaw2_num.calls t163 t164 _ A77.out).mono ?_); rintro e w' ⟨rfl, ⟨nd, rfl⟩⟩) | (go_at_call 11; (with_reducible refine (dots_Check.calls k1 (⟨#[97]⟩ : ByteArray) t165 _ ?side1 A79.out).mono ?_); (case side1 => exact GrOk.below hG (by repeat (first | (with_reducible first | exact HB.out | apply ba_ | apply bn_ | apply bd_) | exact HB.out))); rintro e w128 ⟨rfl, hb⟩; have n0_ := am_ (bt_ (by repeat (first | (with_reducible first | exact HB.out | apply ba_ | apply bn_ | apply bd_) | exact HB.out)) hb); clear HB; have HB := n0_; clear n0_; (try clear hb); (try clear hb2); (try clear hk); (try clear hi)) | (go_at_call 10; (with_reducible refine (pouchlaw2_num.calls t165 t166 _ A80.out).mono ?_); rintro e w' ⟨rfl, ⟨nd, rfl⟩⟩) | (go_at_call 11; (with_reducible refine (dots_Check.calls k1 (⟨#[97, 10]⟩ : ByteArray) t167 _ ?side1 A82.out).mono ?_); (case side1 => exact GrOk.below hG (by repeat (first | (with_reducible first | exact HB.out | apply ba_ | apply bn_ | apply bd_) | exact HB.out))); rintro e w129 ⟨rfl, hb⟩; have n0_ := am_ (bt_ (by repeat (first | (with_reducible first | exact HB.out | apply ba_ | apply bn_ | apply bd_) | exact HB.out)) hb); clear HB; have HB := n0_; clear n0_; (try clear hb); (try clear hb2); (try clear hk); (try clear hi)) | (go_at_call 10; (with_reducible refine (pouchlaw2_num.calls t167 t168 _ A83.out).mono ?_); rintro e w' ⟨rfl, ⟨nd, rfl⟩⟩))
                 go_ret
                 exact ⟨by first | rfl | (simp [errW_none, errW_some] <;> rfl) | (simp only [← hsc10, ← hsc14]; first | rfl | (simp [errW_none, errW_some] <;> rfl)) | (simp [*, errW_none, errW_some] <;> rfl), by repeat (first | (with_reducible first | exact HB.out | apply ba_ | apply bn_ | apply bd_) | exact HB.out)⟩
               ·
                rw [if_neg c81] at H
                have c81b0 : (t166 == 1) = false := beq_eq_false_iff_ne.mpr c81
                have c81b1 : (t166 != 1) = true := bne_iff_ne.mpr c81
                obtain rfl := Option.some.inj H
                have hwA : wrap64 ((wrap64 (8192 - (x4_1.size : Int))) - 2) = 8192 - (x4_1.size : Int) - 2 := by unfold wrap64; omega
                have hwB : wrap64 ((wrap64 (8192 - (x4_1.size : Int))) - 1) = 8192 - (x4_1.size : Int) - 1 := by unfold wrap64; omega
                have hwC : wrap64 (8192 - (x4_1.size : Int)) = 8192 - (x4_1.size : Int) := by unfold wrap64; omega
                have hwD : wrap64 ((wrap64 ((x4_1.size : Int) + (t145.size : Int))) + 2) = wrap64 ((x4_1.size : Int) + (t145.size : Int) + 2) := wrap_left _ _
                rw [hwA] at A8
                rw [hwB] at A12
                have c4x := c4b0
                rw [hwD] at c4x
                try have c24x := c24b0
                try rw [hwC] at c24x
                clear hwA hwB hwC hwD
                go_wp2_with (first | ((with_reducible refine gate_callee (f := 13) rfl ?_); refine goesL_ (some 26) rfl rfl Try.func13 (by kernel_rfl) rfl #[.int .u8 98, .int .i64 (8192 - (x4_1.size : Int) - 2)] rfl (by (try simp only [m1_, m2_, m3_]); first | done | rfl | (simp only [m4_, m5_]; rfl)) ?_; (with_reducible refine (pouchlaw2_many.calls k1 98 (8192 - (x4_1.size : Int) - 2) t146 _ A8.out).mono ?_); rintro e w130 ⟨rfl, hb⟩; refine ⟨_, rfl, ?_⟩; have n0_ := am_ (bt_ (by repeat (first | (with_reducible first | exact HB.out | apply ba_ | apply bn_ | apply bd_) | exact HB.out)) hb); clear HB; have HB := n0_; clear n0_; (try clear hb); (try clear hb2); (try clear hk); (try clear hi)) | ((with_reducible refine gate_callee (f := 13) rfl ?_); refine goesL_ (some 32) rfl rfl Try.func13 (by kernel_rfl) rfl #[.int .u8 98, .int .i64 (8192 - (x4_1.size : Int) - 1)] rfl (by (try simp only [m1_, m2_, m3_]); first | done | rfl | (simp only [m4_, m5_]; rfl)) ?_; (with_reducible refine (pouchlaw2_many.calls k1 98 (8192 - (x4_1.size : Int) - 1) t147 _ A12.out).mono ?_); rintro e w131 ⟨rfl, hb⟩; refine ⟨_, rfl, ?_⟩; have n0_ := am_ (bt_ (by repeat (first | (with_reducible first | exact HB.out | apply ba_ | apply bn_ | apply bd_) | exact HB.out)) hb); clear HB; have HB := n0_; clear n0_; (try clear hb); (try clear hb2); (try clear hk); (try clear hi)) | ((with_reducible refine gate_callee (f := 11) rfl ?_); refine goesL_ (some 37) rfl rfl Try.func11 (by kernel_rfl) rfl #[.string (t145 ++ (⟨#[13, 10]⟩ : ByteArray))] rfl (by (try simp only [m1_, m2_, m3_]); first | done | rfl | (simp only [m4_, m5_]; rfl)) ?_; (with_reducible refine (dots_Check.calls k1 (t145 ++ (⟨#[13, 10]⟩ : ByteArray)) t148 _ ?side1 A17.out).mono ?_); (case side1 => exact GrOk.below hG (by repeat (first | (with_reducible first | exact HB.out | apply ba_ | apply bn_ | apply bd_) | exact HB.out))); rintro e w132 ⟨rfl, hb⟩; refine ⟨_, rfl, ?_⟩; have n0_ := am_ (bt_ (by repeat (first | (with_reducible first | exact HB.out | apply ba_ | apply bn_ | apply bd_) | exact HB.out)) hb); clear HB; have HB := n0_; clear n0_; (try clear hb); (try clear hb2); (try clear hk); (try clear hi)) | ((with_reducible refine gate_callee (f := 10) rfl ?_); refine goesL_ (some 38) rfl rfl Try.func10 (by kernel_rfl) rfl #[.int .i64 t148] rfl (by (try simp only [m1_, m2_, m3_]); first | done | rfl | (simp only [m4_, m5_]; rfl)) ?_; (with_reducible refine (pouchlaw2_num.calls t148 t149 _ A18.out).mono ?_); rintro e w' ⟨rfl, ⟨nd, rfl⟩⟩; refine ⟨_, rfl, ?_⟩) | (go_at_call 11; (with_reducible refine (dots_Check.calls k1 (t145 ++ (⟨#[46, 13, 10]⟩ : ByteArray)) t150 _ ?side1 A21.out).mono ?_); (case side1 => exact GrOk.below hG (by repeat (first | (with_reducible first | exact HB.out | apply ba_ | apply bn_ | apply bd_) | exact HB.out))); rintro e w133 ⟨rfl, hb⟩; have n0_ := am_ (bt_ (by repeat (first | (with_reducible first | exact HB.out | apply ba_ | apply bn_ | apply bd_) | exact HB.out)) hb); clear HB; have HB := n0_; clear n0_; (try clear hb); (try clear hb2); (try clear hk); (try clear hi)) | (go_at_call 10; (with_reducible refine (pouchlaw2_num.calls t150 t151 _ A22.out).mono ?_); rintro e w' ⟨rfl, ⟨nd, rfl⟩⟩) | (go_at_call 11; (with_reducible refine (dots_Check.calls k1 ((sc10) ++ (⟨#[13, 10]⟩ : ByteArray)) t161 _ ?side1 A73.out).mono ?_); (case side1 => exact GrOk.below hG (by repeat (first | (with_reducible first | exact HB.out | apply ba_ | apply bn_ | apply bd_) | exact HB.out))); rintro e w134 ⟨rfl, hb⟩; have n0_ := am_ (bt_ (by repeat (first | (with_reducible first | exact HB.out | apply ba_ | apply bn_ | apply bd_) | exact HB.out)) hb); clear HB; have HB := n0_; clear n0_; (try clear hb); (try clear hb2); (try clear hk); (try clear hi)) | (go_at_call 10; (with_reducible refine (pouchlaw2_num.calls t161 t162 _ A74.out).mono ?_); rintro e w' ⟨rfl, ⟨nd, rfl⟩⟩) | (go_at_call 11; (with_reducible refine (dots_Check.calls k1 ((sc14) ++ (⟨#[13, 10]⟩ : ByteArray)) t163 _ ?side1 A76.out).mono ?_); (case side1 => exact GrOk.below hG (by repeat (first | (with_reducible first | exact HB.out | apply ba_ | apply bn_ | apply bd_) | exact HB.out))); rintro e w135 ⟨rfl, hb⟩; have n0_ := am_ (bt_ (by repeat (first | (with_reducible first | exact HB.out | apply ba_ | apply bn_ | apply bd_) | exact HB.out)) hb); clear HB; have HB := n0_; clear n0_; (try clear hb); (try clear hb2); (try clear hk); (try clear hi)) | (go_at_call 10; (with_reducible refine (pouchlaw2_num.calls t163 t164 _ A77.out).mono ?_); rintro e w' ⟨rfl, ⟨nd, rfl⟩⟩) | (go_at_call 11; (with_reducible refine (dots_Check.calls k1 (⟨#[97]⟩ : ByteArray) t165 _ ?side1 A79.out).mono ?_); (case side1 => exact GrOk.below hG (by repeat (first | (with_reducible first | exact HB.out | apply ba_ | apply bn_ | apply bd_) | exact HB.out))); rintro e w136 ⟨rfl, hb⟩; have n0_ := am_ (bt_ (by repeat (first | (with_reducible first | exact HB.out | apply ba_ | apply bn_ | apply bd_) | exact HB.out)) hb); clear HB; have HB := n0_; clear n0_; (try clear hb); (try clear hb2); (try clear hk); (try clear hi)) | (go_at_call 10; (with_reducible refine (pouchlaw2_num.calls t165 t166 _ A80.out).mono ?_); rintro e w' ⟨rfl, ⟨nd, rfl⟩⟩))
                go_ret
                exact ⟨by first | rfl | (simp [errW_none, errW_some] <;> rfl) | (simp only [← hsc10, ← hsc14]; first | rfl | (simp [errW_none, errW_some] <;> rfl)) | (simp [*, errW_none, errW_some] <;> rfl), by repeat (first | (with_reducible first | exact HB.out | apply ba_ | apply bn_ | apply bd_) | exact HB.out)⟩
              ·
               rw [if_neg c78] at H
               have c78b0 : (t164 == 1) = false := beq_eq_false_iff_ne.mpr c78
               have c78b1 : (t164 != 1) = true := bne_iff_ne.mpr c78
               obtain rfl := Option.some.inj H
               have hwA : wrap64 ((wrap64 (8192 - (x4_1.size : Int))) - 2) = 8192 - (x4_1.size : Int) - 2 := by unfold wrap64; omega
               have hwB : wrap64 ((wrap64 (8192 - (x4_1.size : Int))) - 1) = 8192 - (x4_1.size : Int) - 1 := by unfold wrap64; omega
               have hwC : wrap64 (8192 - (x4_1.size : Int)) = 8192 - (x4_1.size : Int) := by unfold wrap64; omega
               have hwD : wrap64 ((wrap64 ((x4_1.size : Int) + (t145.size : Int))) + 2) = wrap64 ((x4_1.size : Int) + (t145.size : Int) + 2) := wrap_left _ _
               rw [hwA] at A8
               rw [hwB] at A12
               have c4x := c4b0
               rw [hwD] at c4x
               try have c24x := c24b0
               try rw [hwC] at c24x
               clear hwA hwB hwC hwD
               go_wp2_with (first | ((with_reducible refine gate_callee (f := 13) rfl ?_); refine goesL_ (some 26) rfl rfl Try.func13 (by kernel_rfl) rfl #[.int .u8 98, .int .i64 (8192 - (x4_1.size : Int) - 2)] rfl (by (try simp only [m1_, m2_, m3_]); first | done | rfl | (simp only [m4_, m5_]; rfl)) ?_; (with_reducible refine (pouchlaw2_many.calls k1 98 (8192 - (x4_1.size : Int) - 2) t146 _ A8.out).mono ?_); rintro e w137 ⟨rfl, hb⟩; refine ⟨_, rfl, ?_⟩; have n0_ := am_ (bt_ (by repeat (first | (with_reducible first | exact HB.out | apply ba_ | apply bn_ | apply bd_) | exact HB.out)) hb); clear HB; have HB := n0_; clear n0_; (try clear hb); (try clear hb2); (try clear hk); (try clear hi)) | ((with_reducible refine gate_callee (f := 13) rfl ?_); refine goesL_ (some 32) rfl rfl Try.func13 (by kernel_rfl) rfl #[.int .u8 98, .int .i64 (8192 - (x4_1.size : Int) - 1)] rfl (by (try simp only [m1_, m2_, m3_]); first | done | rfl | (simp only [m4_, m5_]; rfl)) ?_; (with_reducible refine (pouchlaw2_many.calls k1 98 (8192 - (x4_1.size : Int) - 1) t147 _ A12.out).mono ?_); rintro e w138 ⟨rfl, hb⟩; refine ⟨_, rfl, ?_⟩; have n0_ := am_ (bt_ (by repeat (first | (with_reducible first | exact HB.out | apply ba_ | apply bn_ | apply bd_) | exact HB.out)) hb); clear HB; have HB := n0_; clear n0_; (try clear hb); (try clear hb2); (try clear hk); (try clear hi)) | ((with_reducible refine gate_callee (f := 11) rfl ?_); refine goesL_ (some 37) rfl rfl Try.func11 (by kernel_rfl) rfl #[.string (t145 ++ (⟨#[13, 10]⟩ : ByteArray))] rfl (by (try simp only [m1_, m2_, m3_]); first | done | rfl | (simp only [m4_, m5_]; rfl)) ?_; (with_reducible refine (dots_Check.calls k1 (t145 ++ (⟨#[13, 10]⟩ : ByteArray)) t148 _ ?side1 A17.out).mono ?_); (case side1 => exact GrOk.below hG (by repeat (first | (with_reducible first | exact HB.out | apply ba_ | apply bn_ | apply bd_) | exact HB.out))); rintro e w139 ⟨rfl, hb⟩; refine ⟨_, rfl, ?_⟩; have n0_ := am_ (bt_ (by repeat (first | (with_reducible first | exact HB.out | apply ba_ | apply bn_ | apply bd_) | exact HB.out)) hb); clear HB; have HB := n0_; clear n0_; (try clear hb); (try clear hb2); (try clear hk); (try clear hi)) | ((with_reducible refine gate_callee (f := 10) rfl ?_); refine goesL_ (some 38) rfl rfl Try.func10 (by kernel_rfl) rfl #[.int .i64 t148] rfl (by (try simp only [m1_, m2_, m3_]); first | done | rfl | (simp only [m4_, m5_]; rfl)) ?_; (with_reducible refine (pouchlaw2_num.calls t148 t149 _ A18.out).mono ?_); rintro e w' ⟨rfl, ⟨nd, rfl⟩⟩; refine ⟨_, rfl, ?_⟩) | (go_at_call 11; (with_reducible refine (dots_Check.calls k1 (t145 ++ (⟨#[46, 13, 10]⟩ : ByteArray)) t150 _ ?side1 A21.out).mono ?_); (case side1 => exact GrOk.below hG (by repeat (first | (with_reducible first | exact HB.out | apply ba_ | apply bn_ | apply bd_) | exact HB.out))); rintro e w140 ⟨rfl, hb⟩; have n0_ := am_ (bt_ (by repeat (first | (with_reducible first | exact HB.out | apply ba_ | apply bn_ | apply bd_) | exact HB.out)) hb); clear HB; have HB := n0_; clear n0_; (try clear hb); (try clear hb2); (try clear hk); (try clear hi)) | (go_at_call 10; (with_reducible refine (pouchlaw2_num.calls t150 t151 _ A22.out).mono ?_); rintro e w' ⟨rfl, ⟨nd, rfl⟩⟩) | (go_at_call 11; (with_reducible refine (dots_Check.calls k1 ((sc10) ++ (⟨#[13, 10]⟩ : ByteArray)) t161 _ ?side1 A73.out).mono ?_); (case side1 => exact GrOk.below hG (by repeat (first | (with_reducible first | exact HB.out | apply ba_ | apply bn_ | apply bd_) | exact HB.out))); rintro e w141 ⟨rfl, hb⟩; have n0_ := am_ (bt_ (by repeat (first | (with_reducible first | exact HB.out | apply ba_ | apply bn_ | apply bd_) | exact HB.out)) hb); clear HB; have HB := n0_; clear n0_; (try clear hb); (try clear hb2); (try clear hk); (try clear hi)) | (go_at_call 10; (with_reducible refine (pouchlaw2_num.calls t161 t162 _ A74.out).mono ?_); rintro e w' ⟨rfl, ⟨nd, rfl⟩⟩) | (go_at_call 11; (with_reducible refine (dots_Check.calls k1 ((sc14) ++ (⟨#[13, 10]⟩ : ByteArray)) t163 _ ?side1 A76.out).mono ?_); (case side1 => exact GrOk.below hG (by repeat (first | (with_reducible first | exact HB.out | apply ba_ | apply bn_ | apply bd_) | exact HB.out))); rintro e w142 ⟨rfl, hb⟩; have n0_ := am_ (bt_ (by repeat (first | (with_reducible first | exact HB.out | apply ba_ | apply bn_ | apply bd_) | exact HB.out)) hb); clear HB; have HB := n0_; clear n0_; (try clear hb); (try clear hb2); (try clear hk); (try clear hi)) | (go_at_call 10; (with_reducible refine (pouchlaw2_num.calls t163 t164 _ A77.out).mono ?_); rintro e w' ⟨rfl, ⟨nd, rfl⟩⟩))
               go_ret
               exact ⟨by first | rfl | (simp [errW_none, errW_some] <;> rfl) | (simp only [← hsc10, ← hsc14]; first | rfl | (simp [errW_none, errW_some] <;> rfl)) | (simp [*, errW_none, errW_some] <;> rfl), by repeat (first | (with_reducible first | exact HB.out | apply ba_ | apply bn_ | apply bd_) | exact HB.out)⟩
             ·
              rw [if_neg c75] at H
              have c75b0 : (t162 == 0) = false := beq_eq_false_iff_ne.mpr c75
              have c75b1 : (t162 != 0) = true := bne_iff_ne.mpr c75
              obtain rfl := Option.some.inj H
              have hwA : wrap64 ((wrap64 (8192 - (x4_1.size : Int))) - 2) = 8192 - (x4_1.size : Int) - 2 := by unfold wrap64; omega
              have hwB : wrap64 ((wrap64 (8192 - (x4_1.size : Int))) - 1) = 8192 - (x4_1.size : Int) - 1 := by unfold wrap64; omega
              have hwC : wrap64 (8192 - (x4_1.size : Int)) = 8192 - (x4_1.size : Int) := by unfold wrap64; omega
              have hwD : wrap64 ((wrap64 ((x4_1.size : Int) + (t145.size : Int))) + 2) = wrap64 ((x4_1.size : Int) + (t145.size : Int) + 2) := wrap_left _ _
              rw [hwA] at A8
              rw [hwB] at A12
              have c4x := c4b0
              rw [hwD] at c4x
              try have c24x := c24b0
              try rw [hwC] at c24x
              clear hwA hwB hwC hwD
              go_wp2_with (first | ((with_reducible refine gate_callee (f := 13) rfl ?_); refine goesL_ (some 26) rfl rfl Try.func13 (by kernel_rfl) rfl #[.int .u8 98, .int .i64 (8192 - (x4_1.size : Int) - 2)] rfl (by (try simp only [m1_, m2_, m3_]); first | done | rfl | (simp only [m4_, m5_]; rfl)) ?_; (with_reducible refine (pouchlaw2_many.calls k1 98 (8192 - (x4_1.size : Int) - 2) t146 _ A8.out).mono ?_); rintro e w143 ⟨rfl, hb⟩; refine ⟨_, rfl, ?_⟩; have n0_ := am_ (bt_ (by repeat (first | (with_reducible first | exact HB.out | apply ba_ | apply bn_ | apply bd_) | exact HB.out)) hb); clear HB; have HB := n0_; clear n0_; (try clear hb); (try clear hb2); (try clear hk); (try clear hi)) | ((with_reducible refine gate_callee (f := 13) rfl ?_); refine goesL_ (some 32) rfl rfl Try.func13 (by kernel_rfl) rfl #[.int .u8 98, .int .i64 (8192 - (x4_1.size : Int) - 1)] rfl (by (try simp only [m1_, m2_, m3_]); first | done | rfl | (simp only [m4_, m5_]; rfl)) ?_; (with_reducible refine (pouchlaw2_many.calls k1 98 (8192 - (x4_1.size : Int) - 1) t147 _ A12.out).mono ?_); rintro e w144 ⟨rfl, hb⟩; refine ⟨_, rfl, ?_⟩; have n0_ := am_ (bt_ (by repeat (first | (with_reducible first | exact HB.out | apply ba_ | apply bn_ | apply bd_) | exact HB.out)) hb); clear HB; have HB := n0_; clear n0_; (try clear hb); (try clear hb2); (try clear hk); (try clear hi)) | ((with_reducible refine gate_callee (f := 11) rfl ?_); refine goesL_ (some 37) rfl rfl Try.func11 (by kernel_rfl) rfl #[.string (t145 ++ (⟨#[13, 10]⟩ : ByteArray))] rfl (by (try simp only [m1_, m2_, m3_]); first | done | rfl | (simp only [m4_, m5_]; rfl)) ?_; (with_reducible refine (dots_Check.calls k1 (t145 ++ (⟨#[13, 10]⟩ : ByteArray)) t148 _ ?side1 A17.out).mono ?_); (case side1 => exact GrOk.below hG (by repeat (first | (with_reducible first | exact HB.out | apply ba_ | apply bn_ | apply bd_) | exact HB.out))); rintro e w145 ⟨rfl, hb⟩; refine ⟨_, rfl, ?_⟩; have n0_ := am_ (bt_ (by repeat (first | (with_reducible first | exact HB.out | apply ba_ | apply bn_ | apply bd_) | exact HB.out)) hb); clear HB; have HB := n0_; clear n0_; (try clear hb); (try clear hb2); (try clear hk); (try clear hi)) | ((with_reducible refine gate_callee (f := 10) rfl ?_); refine goesL_ (some 38) rfl rfl Try.func10 (by kernel_rfl) rfl #[.int .i64 t148] rfl (by (try simp only [m1_, m2_, m3_]); first | done | rfl | (simp only [m4_, m5_]; rfl)) ?_; (with_reducible refine (pouchlaw2_num.calls t148 t149 _ A18.out).mono ?_); rintro e w' ⟨rfl, ⟨nd, rfl⟩⟩; refine ⟨_, rfl, ?_⟩) | (go_at_call 11; (with_reducible refine (dots_Check.calls k1 (t145 ++ (⟨#[46, 13, 10]⟩ : ByteArray)) t150 _ ?side1 A21.out).mono ?_); (case side1 => exact GrOk.below hG (by repeat (first | (with_reducible first | exact HB.out | apply ba_ | apply bn_ | apply bd_) | exact HB.out))); rintro e w146 ⟨rfl, hb⟩; have n0_ := am_ (bt_ (by repeat (first | (with_reducible first | exact HB.out | apply ba_ | apply bn_ | apply bd_) | exact HB.out)) hb); clear HB; have HB := n0_; clear n0_; (try clear hb); (try clear hb2); (try clear hk); (try clear hi)) | (go_at_call 10; (with_reducible refine (pouchlaw2_num.calls t150 t151 _ A22.out).mono ?_); rintro e w' ⟨rfl, ⟨nd, rfl⟩⟩) | (go_at_call 11; (with_reducible refine (dots_Check.calls k1 ((sc10) ++ (⟨#[13, 10]⟩ : ByteArray)) t161 _ ?side1 A73.out).mono ?_); (case side1 => exact GrOk.below hG (by repeat (first | (with_reducible first | exact HB.out | apply ba_ | apply bn_ | apply bd_) | exact HB.out))); rintro e w147 ⟨rfl, hb⟩; have n0_ := am_ (bt_ (by repeat (first | (with_reducible first | exact HB.out | apply ba_ | apply bn_ | apply bd_) | exact HB.out)) hb); clear HB; have HB := n0_; clear n0_; (try clear hb); (try clear hb2); (try clear hk); (try clear hi)) | (go_at_call 10; (with_reducible refine (pouchlaw2_num.calls t161 t162 _ A74.out).mono ?_); rintro e w' ⟨rfl, ⟨nd, rfl⟩⟩))
              go_ret
              exact ⟨by first | rfl | (simp [errW_none, errW_some] <;> rfl) | (simp only [← hsc10, ← hsc14]; first | rfl | (simp [errW_none, errW_some] <;> rfl)) | (simp [*, errW_none, errW_some] <;> rfl), by repeat (first | (with_reducible first | exact HB.out | apply ba_ | apply bn_ | apply bd_) | exact HB.out)⟩
           ·
            rw [if_neg c23] at H
            have c23b0 : (t151 == 1) = false := beq_eq_false_iff_ne.mpr c23
            have c23b1 : (t151 != 1) = true := bne_iff_ne.mpr c23
            obtain rfl := Option.some.inj H
            have hwA : wrap64 ((wrap64 (8192 - (x4_1.size : Int))) - 2) = 8192 - (x4_1.size : Int) - 2 := by unfold wrap64; omega
            have hwB : wrap64 ((wrap64 (8192 - (x4_1.size : Int))) - 1) = 8192 - (x4_1.size : Int) - 1 := by unfold wrap64; omega
            have hwC : wrap64 (8192 - (x4_1.size : Int)) = 8192 - (x4_1.size : Int) := by unfold wrap64; omega
            have hwD : wrap64 ((wrap64 ((x4_1.size : Int) + (t145.size : Int))) + 2) = wrap64 ((x4_1.size : Int) + (t145.size : Int) + 2) := wrap_left _ _
            rw [hwA] at A8
            rw [hwB] at A12
            have c4x := c4b0
            rw [hwD] at c4x
            try have c24x := c24b0
            try rw [hwC] at c24x
            clear hwA hwB hwC hwD
            go_wp2_with (first | ((with_reducible refine gate_callee (f := 13) rfl ?_); refine goesL_ (some 26) rfl rfl Try.func13 (by kernel_rfl) rfl #[.int .u8 98, .int .i64 (8192 - (x4_1.size : Int) - 2)] rfl (by (try simp only [m1_, m2_, m3_]); first | done | rfl | (simp only [m4_, m5_]; rfl)) ?_; (with_reducible refine (pouchlaw2_many.calls k1 98 (8192 - (x4_1.size : Int) - 2) t146 _ A8.out).mono ?_); rintro e w148 ⟨rfl, hb⟩; refine ⟨_, rfl, ?_⟩; have n0_ := am_ (bt_ (by repeat (first | (with_reducible first | exact HB.out | apply ba_ | apply bn_ | apply bd_) | exact HB.out)) hb); clear HB; have HB := n0_; clear n0_; (try clear hb); (try clear hb2); (try clear hk); (try clear hi)) | ((with_reducible refine gate_callee (f := 13) rfl ?_); refine goesL_ (some 32) rfl rfl Try.func13 (by kernel_rfl) rfl #[.int .u8 98, .int .i64 (8192 - (x4_1.size : Int) - 1)] rfl (by (try simp only [m1_, m2_, m3_]); first | done | rfl | (simp only [m4_, m5_]; rfl)) ?_; (with_reducible refine (pouchlaw2_many.calls k1 98 (8192 - (x4_1.size : Int) - 1) t147 _ A12.out).mono ?_); rintro e w149 ⟨rfl, hb⟩; refine ⟨_, rfl, ?_⟩; have n0_ := am_ (bt_ (by repeat (first | (with_reducible first | exact HB.out | apply ba_ | apply bn_ | apply bd_) | exact HB.out)) hb); clear HB; have HB := n0_; clear n0_; (try clear hb); (try clear hb2); (try clear hk); (try clear hi)) | ((with_reducible refine gate_callee (f := 11) rfl ?_); refine goesL_ (some 37) rfl rfl Try.func11 (by kernel_rfl) rfl #[.string (t145 ++ (⟨#[13, 10]⟩ : ByteArray))] rfl (by (try simp only [m1_, m2_, m3_]); first | done | rfl | (simp only [m4_, m5_]; rfl)) ?_; (with_reducible refine (dots_Check.calls k1 (t145 ++ (⟨#[13, 10]⟩ : ByteArray)) t148 _ ?side1 A17.out).mono ?_); (case side1 => exact GrOk.below hG (by repeat (first | (with_reducible first | exact HB.out | apply ba_ | apply bn_ | apply bd_) | exact HB.out))); rintro e w150 ⟨rfl, hb⟩; refine ⟨_, rfl, ?_⟩; have n0_ := am_ (bt_ (by repeat (first | (with_reducible first | exact HB.out | apply ba_ | apply bn_ | apply bd_) | exact HB.out)) hb); clear HB; have HB := n0_; clear n0_; (try clear hb); (try clear hb2); (try clear hk); (try clear hi)) | ((with_reducible refine gate_callee (f := 10) rfl ?_); refine goesL_ (some 38) rfl rfl Try.func10 (by kernel_rfl) rfl #[.int .i64 t148] rfl (by (try simp only [m1_, m2_, m3_]); first | done | rfl | (simp only [m4_, m5_]; rfl)) ?_; (with_reducible refine (pouchlaw2_num.calls t148 t149 _ A18.out).mono ?_); rintro e w' ⟨rfl, ⟨nd, rfl⟩⟩; refine ⟨_, rfl, ?_⟩) | (go_at_call 11; (with_reducible refine (dots_Check.calls k1 (t145 ++ (⟨#[46, 13, 10]⟩ : ByteArray)) t150 _ ?side1 A21.out).mono ?_); (case side1 => exact GrOk.below hG (by repeat (first | (with_reducible first | exact HB.out | apply ba_ | apply bn_ | apply bd_) | exact HB.out))); rintro e w151 ⟨rfl, hb⟩; have n0_ := am_ (bt_ (by repeat (first | (with_reducible first | exact HB.out | apply ba_ | apply bn_ | apply bd_) | exact HB.out)) hb); clear HB; have HB := n0_; clear n0_; (try clear hb); (try clear hb2); (try clear hk); (try clear hi)) | (go_at_call 10; (with_reducible refine (pouchlaw2_num.calls t150 t151 _ A22.out).mono ?_); rintro e w' ⟨rfl, ⟨nd, rfl⟩⟩))
            go_ret
            exact ⟨by first | rfl | (simp [errW_none, errW_some] <;> rfl) | (simp only [← hsc10, ← hsc14]; first | rfl | (simp [errW_none, errW_some] <;> rfl)) | (simp [*, errW_none, errW_some] <;> rfl), by repeat (first | (with_reducible first | exact HB.out | apply ba_ | apply bn_ | apply bd_) | exact HB.out)⟩
          ·
           rw [if_neg c20] at H
           exact absurd H (by simp)
         ·
          rw [if_neg c19] at H
          have c19b0 : (t149 == 0) = false := beq_eq_false_iff_ne.mpr c19
          have c19b1 : (t149 != 0) = true := bne_iff_ne.mpr c19
          obtain rfl := Option.some.inj H
          have hwA : wrap64 ((wrap64 (8192 - (x4_1.size : Int))) - 2) = 8192 - (x4_1.size : Int) - 2 := by unfold wrap64; omega
          have hwB : wrap64 ((wrap64 (8192 - (x4_1.size : Int))) - 1) = 8192 - (x4_1.size : Int) - 1 := by unfold wrap64; omega
          have hwC : wrap64 (8192 - (x4_1.size : Int)) = 8192 - (x4_1.size : Int) := by unfold wrap64; omega
          have hwD : wrap64 ((wrap64 ((x4_1.size : Int) + (t145.size : Int))) + 2) = wrap64 ((x4_1.size : Int) + (t145.size : Int) + 2) := wrap_left _ _
          rw [hwA] at A8
          rw [hwB] at A12
          have c4x := c4b0
          rw [hwD] at c4x
          try have c24x := c24b0
          try rw [hwC] at c24x
          clear hwA hwB hwC hwD
          go_wp2_with (first | ((with_reducible refine gate_callee (f := 13) rfl ?_); refine goesL_ (some 26) rfl rfl Try.func13 (by kernel_rfl) rfl #[.int .u8 98, .int .i64 (8192 - (x4_1.size : Int) - 2)] rfl (by (try simp only [m1_, m2_, m3_]); first | done | rfl | (simp only [m4_, m5_]; rfl)) ?_; (with_reducible refine (pouchlaw2_many.calls k1 98 (8192 - (x4_1.size : Int) - 2) t146 _ A8.out).mono ?_); rintro e w152 ⟨rfl, hb⟩; refine ⟨_, rfl, ?_⟩; have n0_ := am_ (bt_ (by repeat (first | (with_reducible first | exact HB.out | apply ba_ | apply bn_ | apply bd_) | exact HB.out)) hb); clear HB; have HB := n0_; clear n0_; (try clear hb); (try clear hb2); (try clear hk); (try clear hi)) | ((with_reducible refine gate_callee (f := 13) rfl ?_); refine goesL_ (some 32) rfl rfl Try.func13 (by kernel_rfl) rfl #[.int .u8 98, .int .i64 (8192 - (x4_1.size : Int) - 1)] rfl (by (try simp only [m1_, m2_, m3_]); first | done | rfl | (simp only [m4_, m5_]; rfl)) ?_; (with_reducible refine (pouchlaw2_many.calls k1 98 (8192 - (x4_1.size : Int) - 1) t147 _ A12.out).mono ?_); rintro e w153 ⟨rfl, hb⟩; refine ⟨_, rfl, ?_⟩; have n0_ := am_ (bt_ (by repeat (first | (with_reducible first | exact HB.out | apply ba_ | apply bn_ | apply bd_) | exact HB.out)) hb); clear HB; have HB := n0_; clear n0_; (try clear hb); (try clear hb2); (try clear hk); (try clear hi)) | ((with_reducible refine gate_callee (f := 11) rfl ?_); refine goesL_ (some 37) rfl rfl Try.func11 (by kernel_rfl) rfl #[.string (t145 ++ (⟨#[13, 10]⟩ : ByteArray))] rfl (by (try simp only [m1_, m2_, m3_]); first | done | rfl | (simp only [m4_, m5_]; rfl)) ?_; (with_reducible refine (dots_Check.calls k1 (t145 ++ (⟨#[13, 10]⟩ : ByteArray)) t148 _ ?side1 A17.out).mono ?_); (case side1 => exact GrOk.below hG (by repeat (first | (with_reducible first | exact HB.out | apply ba_ | apply bn_ | apply bd_) | exact HB.out))); rintro e w154 ⟨rfl, hb⟩; refine ⟨_, rfl, ?_⟩; have n0_ := am_ (bt_ (by repeat (first | (with_reducible first | exact HB.out | apply ba_ | apply bn_ | apply bd_) | exact HB.out)) hb); clear HB; have HB := n0_; clear n0_; (try clear hb); (try clear hb2); (try clear hk); (try clear hi)) | ((with_reducible refine gate_callee (f := 10) rfl ?_); refine goesL_ (some 38) rfl rfl Try.func10 (by kernel_rfl) rfl #[.int .i64 t148] rfl (by (try simp only [m1_, m2_, m3_]); first | done | rfl | (simp only [m4_, m5_]; rfl)) ?_; (with_reducible refine (pouchlaw2_num.calls t148 t149 _ A18.out).mono ?_); rintro e w' ⟨rfl, ⟨nd, rfl⟩⟩; refine ⟨_, rfl, ?_⟩))
          go_ret
          exact ⟨by first | rfl | (simp [errW_none, errW_some] <;> rfl) | (simp only [← hsc10, ← hsc14]; first | rfl | (simp [errW_none, errW_some] <;> rfl)) | (simp [*, errW_none, errW_some] <;> rfl), by repeat (first | (with_reducible first | exact HB.out | apply ba_ | apply bn_ | apply bd_) | exact HB.out)⟩
        ·
         rw [if_neg c16] at H
         exact absurd H (by simp)
       ·
        rw [if_neg c15] at H
        exact absurd H (by simp)
      ·
       rw [if_neg c13] at H
       exact absurd H (by simp)
     ·
      rw [if_neg c11] at H
      exact absurd H (by simp)
    ·
     rw [if_neg c9] at H
     exact absurd H (by simp)

/-! ### stringslite_HasPrefix: function 32 -/
def stringslite_HasPrefix.f (a0 : ByteArray) (a1 : ByteArray) : Option (Bool) := if (a0.size : Int) ≥ (a1.size : Int) then (if 0 ≤ (a1.size : Int) then (if (a1.size : Int) ≤ (a0.size : Int) then (some ((a0.extract 0 ((a1.size : Int) : Int).toNat).toList == a1.toList)) else (none)) else (none)) else (some false)
set_option maxHeartbeats 8000000 in
set_option maxRecDepth 100000 in
theorem stringslite_HasPrefix.calls (a0 : ByteArray) (a1 : ByteArray) (r : Bool) (w : World) (h : stringslite_HasPrefix.f a0 a1 = some r) :
  Calls Try.prog 32 #[.string a0, .string a1] w fun e w' => e = .returned (.bool r) ∧ Drawn0 w w' := by
 have H : (if (a0.size : Int) ≥ (a1.size : Int) then (if 0 ≤ (a1.size : Int) then (if (a1.size : Int) ≤ (a0.size : Int) then (some ((a0.extract 0 ((a1.size : Int) : Int).toNat).toList == a1.toList)) else (none)) else (none)) else (some false)) = some r := h
 clear h
 by_cases c3 : (a0.size : Int) ≥ (a1.size : Int)
 ·
  rw [if_pos c3] at H
  have c3b0 : decide ((a1.size : Int) ≤ (a0.size : Int)) = true := decide_eq_true c3
  have c3b1 : decide (a1.size ≤ a0.size) = true := decide_eq_true (Int.ofNat_le.mp c3)
  clear c3
  by_cases c4 : 0 ≤ (a1.size : Int)
  ·
   rw [if_pos c4] at H
   have c4b0 := eq_true c4
   have c4b1 : decide (0 ≤ (a1.size : Int)) = true := decide_eq_true c4
   clear c4
   by_cases c5 : (a1.size : Int) ≤ (a0.size : Int)
   ·
    rw [if_pos c5] at H
    have c5b0 := eq_true c5
    have c5b1 : decide ((a1.size : Int) ≤ (a0.size : Int)) = true := decide_eq_true c5
    clear c5
    obtain rfl := Option.some.inj H
    go_enter Try.func32, Try.ntmps32
    go_wp2
    go_ret
    exact ⟨by first | rfl | (simp; done) | (simp [*]; done), by repeat (first | exact Drawn0.refl _ | apply Drawn0.step)⟩
   ·
    rw [if_neg c5] at H
    exact absurd H (by simp)
  ·
   rw [if_neg c4] at H
   exact absurd H (by simp)
 ·
  rw [if_neg c3] at H
  have c3b0 : decide ((a1.size : Int) ≤ (a0.size : Int)) = false := decide_eq_false c3
  have c3b1 : decide (a1.size ≤ a0.size) = false := decide_eq_false (fun h => c3 (Int.ofNat_le.mpr h))
  clear c3
  obtain rfl := Option.some.inj H
  go_enter Try.func32, Try.ntmps32
  go_wp2
  go_ret
  exact ⟨by first | rfl | (simp; done) | (simp [*]; done), by repeat (first | exact Drawn0.refl _ | apply Drawn0.step)⟩

/-! ### stringslite_TrimPrefix: function 27 -/
def stringslite_TrimPrefix.f (a0 : ByteArray) (a1 : ByteArray) : Option (ByteArray) := (stringslite_HasPrefix.f a0 a1).bind fun t174 => (if t174 = true then (if 0 ≤ (a1.size : Int) then (if (a1.size : Int) ≤ (a0.size : Int) then (some (a0.extract ((a1.size : Int) : Int).toNat a0.size)) else (none)) else (none)) else (some a0))
set_option maxHeartbeats 8000000 in
set_option maxRecDepth 100000 in
theorem stringslite_TrimPrefix.calls (a0 : ByteArray) (a1 : ByteArray) (r : ByteArray) (w : World) (h : stringslite_TrimPrefix.f a0 a1 = some r) :
  Calls Try.prog 27 #[.string a0, .string a1] w fun e w' => e = .returned (.string r) ∧ Drawn0 w w' := by
 have H : ((stringslite_HasPrefix.f a0 a1).bind fun t174 => (if t174 = true then (if 0 ≤ (a1.size : Int) then (if (a1.size : Int) ≤ (a0.size : Int) then (some (a0.extract ((a1.size : Int) : Int).toNat a0.size)) else (none)) else (none)) else (some a0))) = some r := h
 clear h
 replace H := Option.bind_eq_some_iff.mp H
 obtain ⟨t174, A30, H⟩ := H
 replace H : (if t174 = true then (if 0 ≤ (a1.size : Int) then (if (a1.size : Int) ≤ (a0.size : Int) then (some (a0.extract ((a1.size : Int) : Int).toNat a0.size)) else (none)) else (none)) else (some a0)) = some r := H
 have A3 := am_ A30
 clear A30
 by_cases c4 : t174 = true
 ·
  subst c4
  have H1 : (if 0 ≤ (a1.size : Int) then (if (a1.size : Int) ≤ (a0.size : Int) then (some (a0.extract ((a1.size : Int) : Int).toNat a0.size)) else (none)) else (none)) = some r := by rw [if_pos rfl] at H; exact H
  clear H; have H := H1; clear H1
  by_cases c5 : 0 ≤ (a1.size : Int)
  ·
   rw [if_pos c5] at H
   have c5b0 := eq_true c5
   have c5b1 : decide (0 ≤ (a1.size : Int)) = true := decide_eq_true c5
   clear c5
   by_cases c6 : (a1.size : Int) ≤ (a0.size : Int)
   ·
    rw [if_pos c6] at H
    have c6b0 := eq_true c6
    have c6b1 : decide ((a1.size : Int) ≤ (a0.size : Int)) = true := decide_eq_true c6
    clear c6
    obtain rfl := Option.some.inj H
    go_enter Try.func27, Try.ntmps27
    go_wp2_with (first | ((with_reducible refine gate_callee (f := 32) rfl ?_); refine goesL_ (some 7) rfl rfl Try.func32 (by kernel_rfl) rfl #[.string a0, .string a1] rfl (by (try simp only [m1_, m2_, m3_]); first | done | rfl | (simp only [m4_, m5_]; rfl)) ?_; (with_reducible refine (stringslite_HasPrefix.calls a0 a1 true _ A3.out).mono ?_); rintro e w' ⟨rfl, ⟨nd, rfl⟩⟩; refine ⟨_, rfl, ?_⟩))
    go_ret
    exact ⟨by first | rfl | (simp; done) | (simp [*]; done), by repeat (first | exact Drawn0.refl _ | apply Drawn0.step)⟩
   ·
    rw [if_neg c6] at H
    exact absurd H (by simp)
  ·
   rw [if_neg c5] at H
   exact absurd H (by simp)
 ·
  replace c4 := Bool.eq_false_iff.mpr c4
  subst c4
  have H1 : (some a0) = some r := by rw [if_neg (show ¬ (false = true) by decide)] at H; exact H
  clear H; have H := H1; clear H1
  obtain rfl := Option.some.inj H
  go_enter Try.func27, Try.ntmps27
  go_wp2_with (first | ((with_reducible refine gate_callee (f := 32) rfl ?_); refine goesL_ (some 7) rfl rfl Try.func32 (by kernel_rfl) rfl #[.string a0, .string a1] rfl (by (try simp only [m1_, m2_, m3_]); first | done | rfl | (simp only [m4_, m5_]; rfl)) ?_; (with_reducible refine (stringslite_HasPrefix.calls a0 a1 false _ A3.out).mono ?_); rintro e w' ⟨rfl, ⟨nd, rfl⟩⟩; refine ⟨_, rfl, ?_⟩))
  go_ret
  exact ⟨by first | rfl | (simp; done) | (simp [*]; done), by repeat (first | exact Drawn0.refl _ | apply Drawn0.step)⟩

/-! ### strings_TrimPrefix: function 19 -/
def strings_TrimPrefix.f (a0 : ByteArray) (a1 : ByteArray) : Option (ByteArray) := (stringslite_TrimPrefix.f a0 a1).bind fun t175 => (some t175)
set_option maxHeartbeats 8000000 in
set_option maxRecDepth 100000 in
theorem strings_TrimPrefix.calls (a0 : ByteArray) (a1 : ByteArray) (r : ByteArray) (w : World) (h : strings_TrimPrefix.f a0 a1 = some r) :
  Calls Try.prog 19 #[.string a0, .string a1] w fun e w' => e = .returned (.string r) ∧ Drawn0 w w' := by
 have H : ((stringslite_TrimPrefix.f a0 a1).bind fun t175 => (some t175)) = some r := h
 clear h
 replace H := Option.bind_eq_some_iff.mp H
 obtain ⟨t175, A30, H⟩ := H
 replace H : (some t175) = some r := H
 have A3 := am_ A30
 clear A30
 obtain rfl := Option.some.inj H
 go_enter Try.func19, Try.ntmps19
 go_wp2_with (first | ((with_reducible refine gate_callee (f := 27) rfl ?_); refine goesL_ (some 7) rfl rfl Try.func27 (by kernel_rfl) rfl #[.string a0, .string a1] rfl (by (try simp only [m1_, m2_, m3_]); first | done | rfl | (simp only [m4_, m5_]; rfl)) ?_; (with_reducible refine (stringslite_TrimPrefix.calls a0 a1 t175 _ A3.out).mono ?_); rintro e w' ⟨rfl, ⟨nd, rfl⟩⟩; refine ⟨_, rfl, ?_⟩))
 go_ret
 exact ⟨by first | rfl | (simp; done) | (simp [*]; done), by repeat (first | exact Drawn0.refl _ | apply Drawn0.step)⟩

/-! ### dots_Take: function 14 -/
def dots_Take.f (a0 : ByteArray) : Option (ByteArray × Bool) := if a0.toList = ([46] : List UInt8) then (some ((⟨#[]⟩ : ByteArray), true)) else ((strings_TrimPrefix.f a0 (⟨#[46]⟩ : ByteArray)).bind fun t176 => (some (t176, false)))
set_option maxHeartbeats 8000000 in
set_option maxRecDepth 100000 in
theorem dots_Take.calls (a0 : ByteArray) (r1 : ByteArray) (r2 : Bool) (w : World) (h : dots_Take.f a0 = some (r1, r2)) :
  Calls Try.prog 14 #[.string a0] w fun e w' => e = .returned (.tuple #[.string r1, .bool r2]) ∧ Drawn0 w w' := by
 have H : (if a0.toList = ([46] : List UInt8) then (some ((⟨#[]⟩ : ByteArray), true)) else ((strings_TrimPrefix.f a0 (⟨#[46]⟩ : ByteArray)).bind fun t176 => (some (t176, false)))) = some (r1, r2) := h
 clear h
 by_cases c2 : a0.toList = ([46] : List UInt8)
 ·
  rw [if_pos c2] at H
  have c2b0 : (a0.toList == ([46] : List UInt8)) = true := beq_iff_eq.mpr c2
  have c2b1 : (a0.toList != ([46] : List UInt8)) = false := bne_eq_false_iff_eq.mpr c2
  clear c2
  simp only [Option.some.injEq, Prod.mk.injEq] at H
  obtain ⟨rfl, rfl⟩ := H
  go_enter Try.func14, Try.ntmps14
  go_wp2
  go_ret2
  exact ⟨by first | rfl | (simp; done) | (simp [*]; done), by repeat (first | exact Drawn0.refl _ | apply Drawn0.step)⟩
 ·
  rw [if_neg c2] at H
  have c2b0 : (a0.toList == ([46] : List UInt8)) = false := beq_eq_false_iff_ne.mpr c2
  have c2b1 : (a0.toList != ([46] : List UInt8)) = true := bne_iff_ne.mpr c2
  replace H := Option.bind_eq_some_iff.mp H
  obtain ⟨t176, A30, H⟩ := H
  replace H : (some (t176, false)) = some (r1, r2) := H
  have A3 := am_ A30
  clear A30
  simp only [Option.some.injEq, Prod.mk.injEq] at H
  obtain ⟨rfl, rfl⟩ := H
  go_enter Try.func14, Try.ntmps14
  go_wp2_with (first | ((with_reducible refine gate_callee (f := 19) rfl ?_); refine goesL_ (some 7) rfl rfl Try.func19 (by kernel_rfl) rfl #[.string a0, .string (⟨#[46]⟩ : ByteArray)] rfl (by (try simp only [m1_, m2_, m3_]); first | done | rfl | (simp only [m4_, m5_]; rfl)) ?_; (with_reducible refine (strings_TrimPrefix.calls a0 (⟨#[46]⟩ : ByteArray) t176 _ A3.out).mono ?_); rintro e w' ⟨rfl, ⟨nd, rfl⟩⟩; refine ⟨_, rfl, ?_⟩))
  go_ret2
  exact ⟨by first | rfl | (simp; done) | (simp [*]; done), by repeat (first | exact Drawn0.refl _ | apply Drawn0.step)⟩

/-! ### pouchref1_Take: function 15 -/
def pouchref1_Take.f (a0 : ByteArray) : Option (ByteArray × Bool) := if a0.toList = ([46] : List UInt8) then (some ((⟨#[]⟩ : ByteArray), true)) else (if (a0.size : Int) > 0 then (if 0 < (a0.size : Int) then (if (bt a0 0) = 46 then (if 1 ≤ (a0.size : Int) then (some (a0.extract 1 a0.size, false)) else (none)) else (some (a0, false))) else (none)) else (some (a0, false)))
set_option maxHeartbeats 8000000 in
set_option maxRecDepth 100000 in
theorem pouchref1_Take.calls (a0 : ByteArray) (r1 : ByteArray) (r2 : Bool) (w : World) (h : pouchref1_Take.f a0 = some (r1, r2)) :
  Calls Try.prog 15 #[.string a0] w fun e w' => e = .returned (.tuple #[.string r1, .bool r2]) ∧ Drawn0 w w' := by
 have H : (if a0.toList = ([46] : List UInt8) then (some ((⟨#[]⟩ : ByteArray), true)) else (if (a0.size : Int) > 0 then (if 0 < (a0.size : Int) then (if (bt a0 0) = 46 then (if 1 ≤ (a0.size : Int) then (some (a0.extract 1 a0.size, false)) else (none)) else (some (a0, false))) else (none)) else (some (a0, false)))) = some (r1, r2) := h
 clear h
 by_cases c2 : a0.toList = ([46] : List UInt8)
 ·
  rw [if_pos c2] at H
  have c2b0 : (a0.toList == ([46] : List UInt8)) = true := beq_iff_eq.mpr c2
  have c2b1 : (a0.toList != ([46] : List UInt8)) = false := bne_eq_false_iff_eq.mpr c2
  clear c2
  simp only [Option.some.injEq, Prod.mk.injEq] at H
  obtain ⟨rfl, rfl⟩ := H
  go_enter Try.func15, Try.ntmps15
  go_wp2
  go_ret2
  exact ⟨by first | rfl | (simp; done) | (simp [*]; done), by repeat (first | exact Drawn0.refl _ | apply Drawn0.step)⟩
 ·
  rw [if_neg c2] at H
  have c2b0 : (a0.toList == ([46] : List UInt8)) = false := beq_eq_false_iff_ne.mpr c2
  have c2b1 : (a0.toList != ([46] : List UInt8)) = true := bne_iff_ne.mpr c2
  by_cases c3 : (a0.size : Int) > 0
  ·
   rw [if_pos c3] at H
   have c3b0 : decide (0 < (a0.size : Int)) = true := decide_eq_true c3
   have c3b1 : decide (0 < a0.size) = true := decide_eq_true (by omega)
   clear c3
   by_cases c4 : 0 < (a0.size : Int)
   ·
    rw [if_pos c4] at H
    have c4b0 : decide (0 < (a0.size : Int)) = true := decide_eq_true c4
    have c4b1 : decide (0 < a0.size) = true := decide_eq_true (by omega)
    clear c4
    by_cases c6 : (bt a0 0) = 46
    ·
     rw [if_pos c6] at H
     have c6b0 : ((bt a0 0) == 46) = true := beq_iff_eq.mpr c6
     have c6b1 : ((bt a0 0) != 46) = false := bne_eq_false_iff_eq.mpr c6
     clear c6
     by_cases c7 : 1 ≤ (a0.size : Int)
     ·
      rw [if_pos c7] at H
      have c7b0 := eq_true c7
      have c7b1 : decide (1 ≤ (a0.size : Int)) = true := decide_eq_true c7
      clear c7
      simp only [Option.some.injEq, Prod.mk.injEq] at H
      obtain ⟨rfl, rfl⟩ := H
      have p5 : 0 ≤ (0 : Int) := (by omega)
      have q5 : 0 < a0.size := (by have : (0 : Int) < (a0.size : Int) := od_ (by first | (with_reducible assumption) | assumption); omega)
      have hx5 : ∀ h : 0 < a0.size, ((a0[0]'h).toNat : Int) = bt a0 0 := bt_at a0 0
      clear p5
      have qi5 : (0 < (a0.size : Int)) = True := eq_true (od_ (by first | (with_reducible assumption) | assumption))
      replace q5 := eq_true q5
      go_enter Try.func15, Try.ntmps15
      go_wp2
      go_ret2
      exact ⟨by first | rfl | (simp; done) | (simp [*]; done), by repeat (first | exact Drawn0.refl _ | apply Drawn0.step)⟩
     ·
      rw [if_neg c7] at H
      exact absurd H (by simp)
    ·
     rw [if_neg c6] at H
     have c6b0 : ((bt a0 0) == 46) = false := beq_eq_false_iff_ne.mpr c6
     have c6b1 : ((bt a0 0) != 46) = true := bne_iff_ne.mpr c6
     simp only [Option.some.injEq, Prod.mk.injEq] at H
     obtain ⟨rfl, rfl⟩ := H
     have p5 : 0 ≤ (0 : Int) := (by omega)
     have q5 : 0 < a0.size := (by have : (0 : Int) < (a0.size : Int) := od_ (by first | (with_reducible assumption) | assumption); omega)
     have hx5 : ∀ h : 0 < a0.size, ((a0[0]'h).toNat : Int) = bt a0 0 := bt_at a0 0
     clear p5
     have qi5 : (0 < (a0.size : Int)) = True := eq_true (od_ (by first | (with_reducible assumption) | assumption))
     replace q5 := eq_true q5
     go_enter Try.func15, Try.ntmps15
     go_wp2
     go_ret2
     exact ⟨by first | rfl | (simp; done) | (simp [*]; done), by repeat (first | exact Drawn0.refl _ | apply Drawn0.step)⟩
   ·
    rw [if_neg c4] at H
    exact absurd H (by simp)
  ·
   rw [if_neg c3] at H
   have c3b0 : decide (0 < (a0.size : Int)) = false := decide_eq_false c3
   have c3b1 : decide (0 < a0.size) = false := decide_eq_false (by omega)
   clear c3
   simp only [Option.some.injEq, Prod.mk.injEq] at H
   obtain ⟨rfl, rfl⟩ := H
   go_enter Try.func15, Try.ntmps15
   go_wp2
   go_ret2
   exact ⟨by first | rfl | (simp; done) | (simp [*]; done), by repeat (first | exact Drawn0.refl _ | apply Drawn0.step)⟩

end Go.Proofs.Ytdedodfeopdkaaa.PDo
