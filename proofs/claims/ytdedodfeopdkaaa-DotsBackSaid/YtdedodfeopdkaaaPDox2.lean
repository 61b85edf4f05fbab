-- Written for this claim by a program: the kit's print.py from a scratch copy, turned by wip/tools/ghostprint.py
import Derived.Test.YtdedodfeopdkaaaPDox0
import Derived.Test.YtdedodfeopdkaaaPDox1
namespace Go.Proofs.Ytdedodfeopdkaaa.PDo
open Go.RowKit Go.Proofs.YtdedodfeopdkaaaW.PrintWords Go.Proofs.YtdedodfeopdkaaaW.PrintLast Go.Proofs.YtdedodfeopdkaaaW.PrintMore
attribute [local go_sem] max2_int min2_int max_two min_two max_three min_three max_four min_four   -- for this text's walks alone
set_option linter.unusedVariables false
set_option linter.unusedSimpArgs false

/-! ### dots_Stuff: function 9 -/
def dots_Stuff.f (k : Nat) (a0 : ByteArray) : Option (ByteArray × Int) := (dots_May.f k a0).bind fun t119 => (if t119 = true then ((dots_Lay.f a0).bind fun t120 => (some (t120, 0))) else (some ((⟨#[]⟩ : ByteArray), 1)))
theorem dots_Stuff.mono : ∀ a0 k, LeO (dots_Stuff.f k a0) (dots_Stuff.f (k + 1) a0) := by
 intro a0 k
 unfold dots_Stuff.f
 repeat' first
   | (with_reducible exact dots_May.mono _ _)
   | (with_reducible exact LeO.refl _)
   | (with_reducible exact LeO.none _)
   | (with_reducible refine LeO.ite ?_ ?_)
   | (with_reducible refine LeO.bind ?_ (fun _ => ?_))
   | exact dots_May.mono _ _
   | exact LeO.none _
   | refine LeO.ite ?_ ?_
   | refine LeO.bind ?_ (fun _ => ?_)
set_option maxHeartbeats 8000000 in
set_option maxRecDepth 100000 in
theorem dots_Stuff.calls (k : Nat) (a0 : ByteArray) (r1 : ByteArray) (r2 : Int) (w : World) (hG : GrOk w) (h : dots_Stuff.f k a0 = some (r1, r2)) :
  Calls Try.prog 9 #[.string a0] w fun e w' => e = .returned (.tuple #[.string r1, .int .i64 r2]) ∧ Below w.heap.size w w' := by
 have HB := am_ (Below.refl w.heap.size w)
 have H : ((dots_May.f k a0).bind fun t119 => (if t119 = true then ((dots_Lay.f a0).bind fun t120 => (some (t120, 0))) else (some ((⟨#[]⟩ : ByteArray), 1)))) = some (r1, r2) := h
 clear h
 replace H := Option.bind_eq_some_iff.mp H
 obtain ⟨t119, A20, H⟩ := H
 replace H : (if t119 = true then ((dots_Lay.f a0).bind fun t120 => (some (t120, 0))) else (some ((⟨#[]⟩ : ByteArray), 1))) = some (r1, r2) := H
 have A2 := am_ A20
 clear A20
 by_cases c3 : t119 = true
 ·
  subst c3
  have H1 : ((dots_Lay.f a0).bind fun t120 => (some (t120, 0))) = some (r1, r2) := by rw [if_pos rfl] at H; exact H
  clear H; have H := H1; clear H1
  replace H := Option.bind_eq_some_iff.mp H
  obtain ⟨t120, A40, H⟩ := H
  replace H : (some (t120, 0)) = some (r1, r2) := H
  have A4 := am_ A40
  clear A40
  simp only [Option.some.injEq, Prod.mk.injEq] at H
  obtain ⟨rfl, rfl⟩ := H
  go_enter Try.func9, Try.ntmps9
  go_wp2_with (first | ((with_reducible refine gate_callee (f := 17) rfl ?_); refine goesL_ (some 5) rfl rfl Try.func17 (by kernel_rfl) rfl #[.string a0] rfl (by (try simp only [m1_, m2_, m3_]); first | done | rfl | (simp only [m4_, m5_]; rfl)) ?_; (with_reducible refine (dots_May.calls k a0 true _ ?side1 A2.out).mono ?_); (case side1 => exact GrOk.below hG (by repeat (first | (with_reducible first | exact HB.out | apply ba_ | apply bn_ | apply bd_) | exact HB.out))); rintro e w5 ⟨rfl, hb⟩; refine ⟨_, rfl, ?_⟩; have n0_ := am_ (bt_ (by repeat (first | (with_reducible first | exact HB.out | apply ba_ | apply bn_ | apply bd_) | exact HB.out)) hb); clear HB; have HB := n0_; clear n0_; (try clear hb); (try clear hb2); (try clear hk); (try clear hi)) | ((with_reducible refine gate_callee (f := 18) rfl ?_); refine goesL_ (some 8) rfl rfl Try.func18 (by kernel_rfl) rfl #[.string a0] rfl (by (try simp only [m1_, m2_, m3_]); first | done | rfl | (simp only [m4_, m5_]; rfl)) ?_; (with_reducible refine (dots_Lay.calls a0 t120 _ A4.out).mono ?_); rintro e w6 ⟨rfl, hb⟩; refine ⟨_, rfl, ?_⟩; have n0_ := am_ (bt_ (by repeat (first | (with_reducible first | exact HB.out | apply ba_ | apply bn_ | apply bd_) | exact HB.out)) hb); clear HB; have HB := n0_; clear n0_; (try clear hb); (try clear hb2); (try clear hk); (try clear hi)))
  go_ret2
  exact ⟨by first | rfl | (simp [errW_none, errW_some] <;> rfl) | (simp [*, errW_none, errW_some] <;> rfl), by repeat (first | (with_reducible first | exact HB.out | apply ba_ | apply bn_ | apply bd_) | exact HB.out)⟩
 ·
  replace c3 := Bool.eq_false_iff.mpr c3
  subst c3
  have H1 : (some ((⟨#[]⟩ : ByteArray), 1)) = some (r1, r2) := by rw [if_neg (show ¬ (false = true) by decide)] at H; exact H
  clear H; have H := H1; clear H1
  simp only [Option.some.injEq, Prod.mk.injEq] at H
  obtain ⟨rfl, rfl⟩ := H
  go_enter Try.func9, Try.ntmps9
  go_wp2_with (first | ((with_reducible refine gate_callee (f := 17) rfl ?_); refine goesL_ (some 5) rfl rfl Try.func17 (by kernel_rfl) rfl #[.string a0] rfl (by (try simp only [m1_, m2_, m3_]); first | done | rfl | (simp only [m4_, m5_]; rfl)) ?_; (with_reducible refine (dots_May.calls k a0 false _ ?side1 A2.out).mono ?_); (case side1 => exact GrOk.below hG (by repeat (first | (with_reducible first | exact HB.out | apply ba_ | apply bn_ | apply bd_) | exact HB.out))); rintro e w7 ⟨rfl, hb⟩; refine ⟨_, rfl, ?_⟩; have n0_ := am_ (bt_ (by repeat (first | (with_reducible first | exact HB.out | apply ba_ | apply bn_ | apply bd_) | exact HB.out)) hb); clear HB; have HB := n0_; clear n0_; (try clear hb); (try clear hb2); (try clear hk); (try clear hi)))
  go_ret2
  exact ⟨by first | rfl | (simp [errW_none, errW_some] <;> rfl) | (simp [*, errW_none, errW_some] <;> rfl), by repeat (first | (with_reducible first | exact HB.out | apply ba_ | apply bn_ | apply bd_) | exact HB.out)⟩

/-! ### pouchlaw2_num: function 10 -/
def pouchlaw2_num.f (a0 : Int) : Option (Int) := some a0
set_option maxHeartbeats 8000000 in
set_option maxRecDepth 100000 in
theorem pouchlaw2_num.calls (a0 : Int) (r : Int) (w : World) (h : pouchlaw2_num.f a0 = some r) :
  Calls Try.prog 10 #[.int .i64 a0] w fun e w' => e = .returned (.int .i64 r) ∧ Drawn0 w w' := by
 have H : (some a0) = some r := h
 clear h
 obtain rfl := Option.some.inj H
 go_enter Try.func10, Try.ntmps10
 go_wp2
 go_ret
 exact ⟨by first | rfl | (simp; done) | (simp [*]; done), by repeat (first | exact Drawn0.refl _ | apply Drawn0.step)⟩

/-! ### dots_Check: function 11 -/
def dots_Check.f (k : Nat) (a0 : ByteArray) : Option (Int) := (dots_May.f k a0).bind fun t121 => (if t121 = true then (some 0) else (some 1))
theorem dots_Check.mono : ∀ a0 k, LeO (dots_Check.f k a0) (dots_Check.f (k + 1) a0) := by
 intro a0 k
 unfold dots_Check.f
 repeat' first
   | (with_reducible exact dots_May.mono _ _)
   | (with_reducible exact LeO.refl _)
   | (with_reducible exact LeO.none _)
   | (with_reducible refine LeO.ite ?_ ?_)
   | (with_reducible refine LeO.bind ?_ (fun _ => ?_))
   | exact dots_May.mono _ _
   | exact LeO.none _
   | refine LeO.ite ?_ ?_
   | refine LeO.bind ?_ (fun _ => ?_)
set_option maxHeartbeats 8000000 in
set_option maxRecDepth 100000 in
theorem dots_Check.calls (k : Nat) (a0 : ByteArray) (r : Int) (w : World) (hG : GrOk w) (h : dots_Check.f k a0 = some r) :
  Calls Try.prog 11 #[.string a0] w fun e w' => e = .returned (.int .i64 r) ∧ Below w.heap.size w w' := by
 have HB := am_ (Below.refl w.heap.size w)
 have H : ((dots_May.f k a0).bind fun t121 => (if t121 = true then (some 0) else (some 1))) = some r := h
 clear h
 replace H := Option.bind_eq_some_iff.mp H
 obtain ⟨t121, A20, H⟩ := H
 replace H : (if t121 = true then (some 0) else (some 1)) = some r := H
 have A2 := am_ A20
 clear A20
 by_cases c3 : t121 = true
 ·
  subst c3
  have H1 : (some 0) = some r := by rw [if_pos rfl] at H; exact H
  clear H; have H := H1; clear H1
  obtain rfl := Option.some.inj H
  go_enter Try.func11, Try.ntmps11
  go_wp2_with (first | ((with_reducible refine gate_callee (f := 17) rfl ?_); refine goesL_ (some 4) rfl rfl Try.func17 (by kernel_rfl) rfl #[.string a0] rfl (by (try simp only [m1_, m2_, m3_]); first | done | rfl | (simp only [m4_, m5_]; rfl)) ?_; (with_reducible refine (dots_May.calls k a0 true _ ?side1 A2.out).mono ?_); (case side1 => exact GrOk.below hG (by repeat (first | (with_reducible first | exact HB.out | apply ba_ | apply bn_ | apply bd_) | exact HB.out))); rintro e w4 ⟨rfl, hb⟩; refine ⟨_, rfl, ?_⟩; have n0_ := am_ (bt_ (by repeat (first | (with_reducible first | exact HB.out | apply ba_ | apply bn_ | apply bd_) | exact HB.out)) hb); clear HB; have HB := n0_; clear n0_; (try clear hb); (try clear hb2); (try clear hk); (try clear hi)))
  go_ret
  exact ⟨by first | rfl | (simp [errW_none, errW_some] <;> rfl) | (simp [*, errW_none, errW_some] <;> rfl), by repeat (first | (with_reducible first | exact HB.out | apply ba_ | apply bn_ | apply bd_) | exact HB.out)⟩
 ·
  replace c3 := Bool.eq_false_iff.mpr c3
  subst c3
  have H1 : (some 1) = some r := by rw [if_neg (show ¬ (false = true) by decide)] at H; exact H
  clear H; have H := H1; clear H1
  obtain rfl := Option.some.inj H
  go_enter Try.func11, Try.ntmps11
  go_wp2_with (first | ((with_reducible refine gate_callee (f := 17) rfl ?_); refine goesL_ (some 4) rfl rfl Try.func17 (by kernel_rfl) rfl #[.string a0] rfl (by (try simp only [m1_, m2_, m3_]); first | done | rfl | (simp only [m4_, m5_]; rfl)) ?_; (with_reducible refine (dots_May.calls k a0 false _ ?side1 A2.out).mono ?_); (case side1 => exact GrOk.below hG (by repeat (first | (with_reducible first | exact HB.out | apply ba_ | apply bn_ | apply bd_) | exact HB.out))); rintro e w5 ⟨rfl, hb⟩; refine ⟨_, rfl, ?_⟩; have n0_ := am_ (bt_ (by repeat (first | (with_reducible first | exact HB.out | apply ba_ | apply bn_ | apply bd_) | exact HB.out)) hb); clear HB; have HB := n0_; clear n0_; (try clear hb); (try clear hb2); (try clear hk); (try clear hi)))
  go_ret
  exact ⟨by first | rfl | (simp [errW_none, errW_some] <;> rfl) | (simp [*, errW_none, errW_some] <;> rfl), by repeat (first | (with_reducible first | exact HB.out | apply ba_ | apply bn_ | apply bd_) | exact HB.out)⟩

/-! ### pouchlaw2_wakes: function 12 -/
def pouchlaw2_wakes.f (k : Nat)  : Option (Bool) := (dots_Stuff.f k (⟨#[]⟩ : ByteArray)).bind fun bt122 => ((pouchlaw2_num.f bt122.2).bind fun t124 => (if t124 = 0 then (some (bt122.1.toList == ([46, 13, 10] : List UInt8))) else (some false)))
theorem pouchlaw2_wakes.mono : ∀ k, LeO (pouchlaw2_wakes.f k ) (pouchlaw2_wakes.f (k + 1) ) := by
 intro  k
 unfold pouchlaw2_wakes.f
 repeat' first
   | (with_reducible exact dots_Stuff.mono _ _)
   | (with_reducible exact LeO.refl _)
   | (with_reducible exact LeO.none _)
   | (with_reducible refine LeO.ite ?_ ?_)
   | (with_reducible refine LeO.bind ?_ (fun _ => ?_))
   | exact dots_Stuff.mono _ _
   | exact LeO.none _
   | refine LeO.ite ?_ ?_
   | refine LeO.bind ?_ (fun _ => ?_)
set_option maxHeartbeats 8000000 in
set_option maxRecDepth 100000 in
theorem pouchlaw2_wakes.calls (k : Nat)  (r : Bool) (w : World) (hG : GrOk w) (h : pouchlaw2_wakes.f k  = some r) :
  Calls Try.prog 12 #[] w fun e w' => e = .returned (.bool r) ∧ Below w.heap.size w w' := by
 have HB := am_ (Below.refl w.heap.size w)
 have H : ((dots_Stuff.f k (⟨#[]⟩ : ByteArray)).bind fun bt122 => ((pouchlaw2_num.f bt122.2).bind fun t124 => (if t124 = 0 then (some (bt122.1.toList == ([46, 13, 10] : List UInt8))) else (some false)))) = some r := h
 clear h
 replace H := Option.bind_eq_some_iff.mp H
 obtain ⟨⟨t122, t123⟩, A10, H⟩ := H
 replace H : ((pouchlaw2_num.f t123).bind fun t124 => (if t124 = 0 then (some (t122.toList == ([46, 13, 10] : List UInt8))) else (some false))) = some r := H
 have A1 := am_ A10
 clear A10
 replace H := Option.bind_eq_some_iff.mp H
 obtain ⟨t124, A20, H⟩ := H
 replace H : (if t124 = 0 then (some (t122.toList == ([46, 13, 10] : List UInt8))) else (some false)) = some r := H
 have A2 := am_ A20
 clear A20
 by_cases c3 : t124 = 0
 ·
  rw [if_pos c3] at H
  have c3b0 : (t124 == 0) = true := beq_iff_eq.mpr c3
  have c3b1 : (t124 != 0) = false := bne_eq_false_iff_eq.mpr c3
  clear c3
  obtain rfl := Option.some.inj H
  go_enter Try.func12, Try.ntmps12
  go_wp2_with (first | ((with_reducible refine gate_callee (f := 9) rfl ?_); refine goesL_ (some 4) rfl rfl Try.func9 (by kernel_rfl) rfl #[.string (⟨#[]⟩ : ByteArray)] rfl (by (try simp only [m1_, m2_, m3_]); first | done | rfl | (simp only [m4_, m5_]; rfl)) ?_; (with_reducible refine (dots_Stuff.calls k (⟨#[]⟩ : ByteArray) t122 t123 _ ?side1 A1.out).mono ?_); (case side1 => exact GrOk.below hG (by repeat (first | (with_reducible first | exact HB.out | apply ba_ | apply bn_ | apply bd_) | exact HB.out))); rintro e w4 ⟨rfl, hb⟩; refine ⟨_, rfl, ?_⟩; have n0_ := am_ (bt_ (by repeat (first | (with_reducible first | exact HB.out | apply ba_ | apply bn_ | apply bd_) | exact HB.out)) hb); clear HB; have HB := n0_; clear n0_; (try clear hb); (try clear hb2); (try clear hk); (try clear hi)) | ((with_reducible refine gate_callee (f := 10) rfl ?_); refine goesL_ (some 8) rfl rfl Try.func10 (by kernel_rfl) rfl #[.int .i64 t123] rfl (by (try simp only [m1_, m2_, m3_]); first | done | rfl | (simp only [m4_, m5_]; rfl)) ?_; (with_reducible refine (pouchlaw2_num.calls t123 t124 _ A2.out).mono ?_); rintro e w' ⟨rfl, ⟨nd, rfl⟩⟩; refine ⟨_, rfl, ?_⟩))
  go_ret
  exact ⟨by first | rfl | (simp [errW_none, errW_some] <;> rfl) | (simp [*, errW_none, errW_some] <;> rfl), by repeat (first | (with_reducible first | exact HB.out | apply ba_ | apply bn_ | apply bd_) | exact HB.out)⟩
 ·
  rw [if_neg c3] at H
  have c3b0 : (t124 == 0) = false := beq_eq_false_iff_ne.mpr c3
  have c3b1 : (t124 != 0) = true := bne_iff_ne.mpr c3
  obtain rfl := Option.some.inj H
  go_enter Try.func12, Try.ntmps12
  go_wp2_with (first | ((with_reducible refine gate_callee (f := 9) rfl ?_); refine goesL_ (some 4) rfl rfl Try.func9 (by kernel_rfl) rfl #[.string (⟨#[]⟩ : ByteArray)] rfl (by (try simp only [m1_, m2_, m3_]); first | done | rfl | (simp only [m4_, m5_]; rfl)) ?_; (with_reducible refine (dots_Stuff.calls k (⟨#[]⟩ : ByteArray) t122 t123 _ ?side1 A1.out).mono ?_); (case side1 => exact GrOk.below hG (by repeat (first | (with_reducible first | exact HB.out | apply ba_ | apply bn_ | apply bd_) | exact HB.out))); rintro e w5 ⟨rfl, hb⟩; refine ⟨_, rfl, ?_⟩; have n0_ := am_ (bt_ (by repeat (first | (with_reducible first | exact HB.out | apply ba_ | apply bn_ | apply bd_) | exact HB.out)) hb); clear HB; have HB := n0_; clear n0_; (try clear hb); (try clear hb2); (try clear hk); (try clear hi)) | ((with_reducible refine gate_callee (f := 10) rfl ?_); refine goesL_ (some 8) rfl rfl Try.func10 (by kernel_rfl) rfl #[.int .i64 t123] rfl (by (try simp only [m1_, m2_, m3_]); first | done | rfl | (simp only [m4_, m5_]; rfl)) ?_; (with_reducible refine (pouchlaw2_num.calls t123 t124 _ A2.out).mono ?_); rintro e w' ⟨rfl, ⟨nd, rfl⟩⟩; refine ⟨_, rfl, ?_⟩))
  go_ret
  exact ⟨by first | rfl | (simp [errW_none, errW_some] <;> rfl) | (simp [*, errW_none, errW_some] <;> rfl), by repeat (first | (with_reducible first | exact HB.out | apply ba_ | apply bn_ | apply bd_) | exact HB.out)⟩

/-! ### pouchlaw2_DotsStuffs: function 3 -/
mutual
def pouchlaw2_DotsStuffs.l0 : Nat → List ByteArray → Int → Option (Bool)
 | 0, _, _ => none
 | k + 1, x0, x3 => if x3 < (x0.length : Int) then (pouchlaw2_DotsStuffs.j1 k x0 x3 (decide (x3 < 10))) else (pouchlaw2_DotsStuffs.j1 k x0 x3 false)
def pouchlaw2_DotsStuffs.j1 : Nat → List ByteArray → Int → Bool → Option (Bool)
 | 0, _, _, _ => none
 | k + 1, x0, x3, x17 => if x17 = true then (if 0 ≤ x3 then (if x3 < (x0.length : Int) then (if ((rdOf ByteArray.empty x0 x3).size : Int) > 5000 then (some true) else ((pouchref1_Rows.f k (rdOf ByteArray.empty x0 x3)).bind fun bt128 => (if bt128.2 = true then ((pouchref1_Stuff.f k (rdOf ByteArray.empty x0 x3)).bind fun t133 => (pouchlaw2_DotsStuffs.j2 k x0 x3 0 t133)) else (pouchlaw2_DotsStuffs.j2 k x0 x3 1 (⟨#[]⟩ : ByteArray))))) else (none)) else (none)) else ((pouchlaw2_wakes.f k).bind fun t125 => (some t125))
def pouchlaw2_DotsStuffs.j2 : Nat → List ByteArray → Int → Int → ByteArray → Option (Bool)
 | 0, _, _, _, _ => none
 | k + 1, x0, x3, x6, x7 => if 0 ≤ x3 then (if x3 < (x0.length : Int) then ((dots_Stuff.f k (rdOf ByteArray.empty x0 x3)).bind fun bt135 => ((dots_Check.f k (rdOf ByteArray.empty x0 x3)).bind fun t138 => ((pouchlaw2_num.f t138).bind fun t139 => (if t139 = x6 then ((pouchlaw2_num.f bt135.2).bind fun t140 => (if t140 = x6 then (if bt135.1.toList = x7.toList then (pouchlaw2_DotsStuffs.l0 k x0 (wrap64 (x3 + 1))) else (some false)) else (some false))) else (some false))))) else (none)) else (none)
end
def pouchlaw2_DotsStuffs.f (k : Nat) (l0 : List ByteArray) : Option (Bool) := pouchlaw2_DotsStuffs.l0 k l0 0
theorem pouchlaw2_DotsStuffs.mono_l : ∀ k, (∀ y0 y1, LeO (pouchlaw2_DotsStuffs.l0 k y0 y1) (pouchlaw2_DotsStuffs.l0 (k + 1) y0 y1)) ∧ (∀ y0 y1 y2, LeO (pouchlaw2_DotsStuffs.j1 k y0 y1 y2) (pouchlaw2_DotsStuffs.j1 (k + 1) y0 y1 y2)) ∧ (∀ y0 y1 y2 y3, LeO (pouchlaw2_DotsStuffs.j2 k y0 y1 y2 y3) (pouchlaw2_DotsStuffs.j2 (k + 1) y0 y1 y2 y3))
 | 0 => ⟨fun _ _ r h => by simp [pouchlaw2_DotsStuffs.l0] at h, fun _ _ _ r h => by simp [pouchlaw2_DotsStuffs.j1] at h, fun _ _ _ _ r h => by simp [pouchlaw2_DotsStuffs.j2] at h⟩
 | k + 1 => by
  obtain ⟨ih0, ih1, ih2⟩ := pouchlaw2_DotsStuffs.mono_l k
  refine ⟨?_, ?_, ?_⟩
  ·
   intro y0 y1
   unfold pouchlaw2_DotsStuffs.l0
   repeat' first
   | (with_reducible exact ih0 _ _)
   | (with_reducible exact ih1 _ _ _)
   | (with_reducible exact ih2 _ _ _ _)
   | (with_reducible exact dots_Check.mono _ _)
   | (with_reducible exact dots_Stuff.mono _ _)
   | (with_reducible exact pouchlaw2_wakes.mono _)
   | (with_reducible exact pouchref1_Rows.mono _ _)
   | (with_reducible exact pouchref1_Stuff.mono _ _)
   | (with_reducible exact LeO.refl _)
   | (with_reducible exact LeO.none _)
   | (with_reducible refine LeO.ite ?_ ?_)
   | (with_reducible refine LeO.bind ?_ (fun _ => ?_))
   | exact ih0 _ _
   | exact ih1 _ _ _
   | exact ih2 _ _ _ _
   | exact dots_Check.mono _ _
   | exact dots_Stuff.mono _ _
   | exact pouchlaw2_wakes.mono _
   | exact pouchref1_Rows.mono _ _
   | exact pouchref1_Stuff.mono _ _
   | exact LeO.none _
   | refine LeO.ite ?_ ?_
   | refine LeO.bind ?_ (fun _ => ?_)
  ·
   intro y0 y1 y2
   unfold pouchlaw2_DotsStuffs.j1
   repeat' first
   | (with_reducible exact ih0 _ _)
   | (with_reducible exact ih1 _ _ _)
   | (with_reducible exact ih2 _ _ _ _)
   | (with_reducible exact dots_Check.mono _ _)
   | (with_reducible exact dots_Stuff.mono _ _)
   | (with_reducible exact pouchlaw2_wakes.mono _)
   | (with_reducible exact pouchref1_Rows.mono _ _)
   | (with_reducible exact pouchref1_Stuff.mono _ _)
   | (with_reducible exact LeO.refl _)
   | (with_reducible exact LeO.none _)
   | (with_reducible refine LeO.ite ?_ ?_)
   | (with_reducible refine LeO.bind ?_ (fun _ => ?_))
   | exact ih0 _ _
   | exact ih1 _ _ _
   | exact ih2 _ _ _ _
   | exact dots_Check.mono _ _
   | exact dots_Stuff.mono _ _
   | exact pouchlaw2_wakes.mono _
   | exact pouchref1_Rows.mono _ _
   | exact pouchref1_Stuff.mono _ _
   | exact LeO.none _
   | refine LeO.ite ?_ ?_
   | refine LeO.bind ?_ (fun _ => ?_)
  ·
   intro y0 y1 y2 y3
   unfold pouchlaw2_DotsStuffs.j2
   repeat' first
   | (with_reducible exact ih0 _ _)
   | (with_reducible exact ih1 _ _ _)
   | (with_reducible exact ih2 _ _ _ _)
   | (with_reducible exact dots_Check.mono _ _)
   | (with_reducible exact dots_Stuff.mono _ _)
   | (with_reducible exact pouchlaw2_wakes.mono _)
   | (with_reducible exact pouchref1_Rows.mono _ _)
   | (with_reducible exact pouchref1_Stuff.mono _ _)
   | (with_reducible exact LeO.refl _)
   | (with_reducible exact LeO.none _)
   | (with_reducible refine LeO.ite ?_ ?_)
   | (with_reducible refine LeO.bind ?_ (fun _ => ?_))
   | exact ih0 _ _
   | exact ih1 _ _ _
   | exact ih2 _ _ _ _
   | exact dots_Check.mono _ _
   | exact dots_Stuff.mono _ _
   | exact pouchlaw2_wakes.mono _
   | exact pouchref1_Rows.mono _ _
   | exact pouchref1_Stuff.mono _ _
   | exact LeO.none _
   | refine LeO.ite ?_ ?_
   | refine LeO.bind ?_ (fun _ => ?_)
theorem pouchlaw2_DotsStuffs.mono : ∀ a0 k, LeO (pouchlaw2_DotsStuffs.f k a0) (pouchlaw2_DotsStuffs.f (k + 1) a0) := by
 intro a0 k
 obtain ⟨ih0, ih1, ih2⟩ := pouchlaw2_DotsStuffs.mono_l k
 unfold pouchlaw2_DotsStuffs.f
 repeat' first
   | (with_reducible exact ih0 _ _)
   | (with_reducible exact ih1 _ _ _)
   | (with_reducible exact ih2 _ _ _ _)
   | (with_reducible exact dots_Check.mono _ _)
   | (with_reducible exact dots_Stuff.mono _ _)
   | (with_reducible exact pouchlaw2_wakes.mono _)
   | (with_reducible exact pouchref1_Rows.mono _ _)
   | (with_reducible exact pouchref1_Stuff.mono _ _)
   | (with_reducible exact LeO.refl _)
   | (with_reducible exact LeO.none _)
   | (with_reducible refine LeO.ite ?_ ?_)
   | (with_reducible refine LeO.bind ?_ (fun _ => ?_))
   | exact ih0 _ _
   | exact ih1 _ _ _
   | exact ih2 _ _ _ _
   | exact dots_Check.mono _ _
   | exact dots_Stuff.mono _ _
   | exact pouchlaw2_wakes.mono _
   | exact pouchref1_Rows.mono _ _
   | exact pouchref1_Stuff.mono _ _
   | exact LeO.none _
   | refine LeO.ite ?_ ?_
   | refine LeO.bind ?_ (fun _ => ?_)
set_option maxHeartbeats 8000000 in
set_option maxRecDepth 100000 in
theorem pouchlaw2_DotsStuffs.calls (k : Nat) (A0 : Option Addr) (c0 : Nat) (l0 : List ByteArray) (r : Bool) (w : World) (hr0 : Kd.C Kd.string w A0 l0.length l0) (hc0 : l0.length ≤ c0) (hG : GrOk w) (h : pouchlaw2_DotsStuffs.f k l0 = some r) :
  Calls Try.prog 3 #[.slice A0 l0.length c0] w fun e w' => e = .returned (.bool r) ∧ Below w.heap.size w w' := by
 have HR0 := am_ hr0
 have HC0 := am_ hc0
 clear hr0 hc0
 have HB := am_ (Below.refl w.heap.size w)
 have H : (pouchlaw2_DotsStuffs.l0 k l0 0) = some r := h
 clear h
 have H' := am_ H
 clear H
 go_enter Try.func3, Try.ntmps3
 go_wp2
 go_loopg [3] k (fun kq v3 w' => ∃ (x3_1 : Int), v3 = .int .i64 x3_1 ∧ Aside0 (pouchlaw2_DotsStuffs.l0 kq l0 x3_1 = some r) ∧ Aside0 (kq ≤ k) ∧ Aside0 (Below w.heap.size w w'))
 case atStart => exact ⟨(0), (by first | rfl | (simp; done) | (simp [*]; done)), H', ⟨Nat.le_refl _⟩, ⟨by repeat (first | (with_reducible first | exact HB.out | apply ba_ | apply bn_ | apply bd_) | exact HB.out)⟩⟩
 case round =>
  clear H'
  obtain ⟨x3_1, rfl, HA, HK1, HB⟩ := hrel
  cases gk with
  | zero => exact absurd HA.out (by simp [pouchlaw2_DotsStuffs.l0])
  | succ k1 =>
   have H := HA.out
   clear HA
   simp only [pouchlaw2_DotsStuffs.l0] at H
   have HC2 := am_ H
   clear H
   go_upto_region 2 with (fail)
   go_cut [17] (fun v17 wc => ∃ (kq : Nat) (x17_1 : Bool), v17 = .bool x17_1 ∧ Aside0 (pouchlaw2_DotsStuffs.j1 kq l0 x3_1 x17_1 = some r) ∧ Aside0 (kq ≤ k1) ∧ Aside0 (Below w.heap.size w wc))
   case first =>
    have H := HC2.out
    clear HC2
    by_cases c3 : x3_1 < (l0.length : Int)
    ·
     rw [if_pos c3] at H
     have c3b0 : decide (x3_1 < (l0.length : Int)) = true := decide_eq_true c3
     clear c3
     (first | rw [c3b0] | (simp only [i64_w, i32_w]; rw [c3b0]) | skip)
     have H' := am_ H
     clear H
     go_wp2
     go_meet
     case rel => exact ⟨_, (decide (x3_1 < 10)), (by first | rfl | (simp; done) | (simp [*]; done)), H', ⟨by have := HK1.out; first | omega | exact Nat.le_refl _⟩, ⟨by repeat (first | (with_reducible first | exact HB.out | apply ba_ | apply bn_ | apply bd_) | exact HB.out)⟩⟩
    ·
     rw [if_neg c3] at H
     have c3b0 : decide (x3_1 < (l0.length : Int)) = false := decide_eq_false c3
     clear c3
     (first | rw [c3b0] | (simp only [i64_w, i32_w]; rw [c3b0]) | skip)
     have H' := am_ H
     clear H
     go_wp2
     go_meet
     case rel => exact ⟨_, (false), (by first | rfl | (simp; done) | (simp [*]; done)), H', ⟨by have := HK1.out; first | omega | exact Nat.le_refl _⟩, ⟨by repeat (first | (with_reducible first | exact HB.out | apply ba_ | apply bn_ | apply bd_) | exact HB.out)⟩⟩
   case rest =>
    clear HC2
    try clear p2
    try clear c3
    try clear c3b0
    obtain ⟨kq, x17_1, rfl, HA, HJ1, HB⟩ := hcut
    cases kq with
    | zero => exact absurd HA.out (by simp [pouchlaw2_DotsStuffs.j1])
    | succ kj1 =>
     have H := HA.out
     clear HA
     simp only [pouchlaw2_DotsStuffs.j1] at H
     by_cases c4 : x17_1 = true
     ·
      subst c4
      have H1 : (if 0 ≤ x3_1 then (if x3_1 < (l0.length : Int) then (if ((rdOf ByteArray.empty l0 x3_1).size : Int) > 5000 then (some true) else ((pouchref1_Rows.f kj1 (rdOf ByteArray.empty l0 x3_1)).bind fun bt128 => (if bt128.2 = true then ((pouchref1_Stuff.f kj1 (rdOf ByteArray.empty l0 x3_1)).bind fun t133 => (pouchlaw2_DotsStuffs.j2 kj1 l0 x3_1 0 t133)) else (pouchlaw2_DotsStuffs.j2 kj1 l0 x3_1 1 (⟨#[]⟩ : ByteArray))))) else (none)) else (none)) = some r := by rw [if_pos rfl] at H; exact H
      clear H; have H := H1; clear H1
      by_cases c5 : 0 ≤ x3_1
      ·
       rw [if_pos c5] at H
       have c5b0 : decide (0 ≤ x3_1) = true := decide_eq_true c5
       clear c5
       by_cases c6 : x3_1 < (l0.length : Int)
       ·
        rw [if_pos c6] at H
        have c6b0 : decide (x3_1 < (l0.length : Int)) = true := decide_eq_true c6
        clear c6
        by_cases c7 : ((rdOf ByteArray.empty l0 x3_1).size : Int) > 5000
        ·
         rw [if_pos c7] at H
         have c7b0 : decide (5000 < ((rdOf ByteArray.empty l0 x3_1).size : Int)) = true := decide_eq_true c7
         have c7b1 : decide (5000 < (rdOf ByteArray.empty l0 x3_1).size) = true := decide_eq_true (by omega)
         clear c7
         obtain rfl := Option.some.inj H
         have p126 : 0 ≤ (x3_1 : Int) := od_ (by first | (with_reducible assumption) | assumption)
         have q126 : x3_1 < (l0.length : Int) := od_ (by first | (with_reducible assumption) | assumption)
         obtain ⟨ad126, e126, hx126_0⟩ := Kd.at_string HR0.out x3_1 p126 q126
         cases e126
         replace hx126_0 := (HB.out.cell (bl_ w _ hx126_0)).trans hx126_0
         replace p126 := eq_true p126
         replace q126 := eq_true q126
         go_wp2
         go_ret
         exact ⟨by first | rfl | (simp [errW_none, errW_some] <;> rfl) | (simp [*, errW_none, errW_some] <;> rfl), by repeat (first | (with_reducible first | exact HB.out | apply ba_ | apply bn_ | apply bd_) | exact HB.out)⟩
        ·
         rw [if_neg c7] at H
         have c7b0 : decide (5000 < ((rdOf ByteArray.empty l0 x3_1).size : Int)) = false := decide_eq_false c7
         have c7b1 : decide (5000 < (rdOf ByteArray.empty l0 x3_1).size) = false := decide_eq_false (by omega)
         clear c7
         replace H := Option.bind_eq_some_iff.mp H
         obtain ⟨⟨t128, t129⟩, A80, H⟩ := H
         replace H : (if t129 = true then ((pouchref1_Stuff.f kj1 (rdOf ByteArray.empty l0 x3_1)).bind fun t133 => (pouchlaw2_DotsStuffs.j2 kj1 l0 x3_1 0 t133)) else (pouchlaw2_DotsStuffs.j2 kj1 l0 x3_1 1 (⟨#[]⟩ : ByteArray))) = some r := H
         have A8 := am_ A80
         clear A80
         have HC9 := am_ H
         clear H
         have p126 : 0 ≤ (x3_1 : Int) := od_ (by first | (with_reducible assumption) | assumption)
         have q126 : x3_1 < (l0.length : Int) := od_ (by first | (with_reducible assumption) | assumption)
         obtain ⟨ad126, e126, hx126_0⟩ := Kd.at_string HR0.out x3_1 p126 q126
         cases e126
         replace hx126_0 := (HB.out.cell (bl_ w _ hx126_0)).trans hx126_0
         replace p126 := eq_true p126
         replace q126 := eq_true q126
         have p127 : 0 ≤ (x3_1 : Int) := od_ (by first | (with_reducible assumption) | assumption)
         have q127 : x3_1 < (l0.length : Int) := od_ (by first | (with_reducible assumption) | assumption)
         obtain ⟨ad127, e127, hx127_0⟩ := Kd.at_string HR0.out x3_1 p127 q127
         obtain rfl : ad126 = ad127 := (by injection e127)
         replace hx127_0 := (HB.out.cell (bl_ w _ hx127_0)).trans hx127_0
         replace p127 := eq_true p127
         replace q127 := eq_true q127
         go_upto_if 34 with (first | ((with_reducible refine gate_callee (f := 7) rfl ?_); refine goesL_ (some 31) rfl rfl Try.func7 (by kernel_rfl) rfl #[.string (rdOf ByteArray.empty l0 x3_1)] rfl (by (try simp only [m1_, m2_, m3_]); first | done | rfl | (simp only [m4_, m5_]; rfl)) ?_; (with_reducible refine (pouchref1_Rows.calls kj1 (rdOf ByteArray.empty l0 x3_1) t128 t129 _ A8.out).mono ?_); rintro e w10 ⟨v130, rfl, ho0, hb⟩; refine ⟨_, rfl, ?_⟩; have n0_ := am_ (Kd.R_lower ho0 (bz_ (by repeat (first | (with_reducible first | exact HB.out | apply ba_ | apply bn_ | apply bd_) | exact HB.out)))); have n1_ := am_ (bt_ (by repeat (first | (with_reducible first | exact HB.out | apply ba_ | apply bn_ | apply bd_) | exact HB.out)) hb); clear HB; have HO131 := n0_; have HB := n1_; clear n0_ n1_; (try clear hb); (try clear hb2); (try clear hk); (try clear hi); (try clear ho0)))
         (try simp only [Act.put, s1_, s2_, s3_])
         go_cut [6, 7] (fun v6 v7 wc => ∃ (kq : Nat) (x6_8 : Int) (x7_8 : ByteArray), v6 = .int .i64 x6_8 ∧ v7 = .string x7_8 ∧ Aside0 (pouchlaw2_DotsStuffs.j2 kq l0 x3_1 x6_8 x7_8 = some r) ∧ Aside0 (kq ≤ kj1) ∧ Aside0 (Below w.heap.size w wc))
         case first =>
          have H := HC9.out
          clear HC9
          by_cases c11 : t129 = true
          ·
           subst c11
           have H1 : ((pouchref1_Stuff.f kj1 (rdOf ByteArray.empty l0 x3_1)).bind fun t133 => (pouchlaw2_DotsStuffs.j2 kj1 l0 x3_1 0 t133)) = some r := by rw [if_pos rfl] at H; exact H
           clear H; have H := H1; clear H1
           replace H := Option.bind_eq_some_iff.mp H
           obtain ⟨t133, A120, H⟩ := H
           replace H : (pouchlaw2_DotsStuffs.j2 kj1 l0 x3_1 0 t133) = some r := H
           have A12 := am_ A120
           clear A120
           have H' := am_ H
           clear H
           have p132 : 0 ≤ (x3_1 : Int) := od_ (by first | (with_reducible assumption) | assumption)
           have q132 : x3_1 < (l0.length : Int) := od_ (by first | (with_reducible assumption) | assumption)
           obtain ⟨ad132, e132, hx132_0⟩ := Kd.at_string HR0.out x3_1 p132 q132
           obtain rfl : ad126 = ad132 := (by injection e132)
           replace hx132_0 := (HB.out.cell (bl_ w _ hx132_0)).trans hx132_0
           replace p132 := eq_true p132
           replace q132 := eq_true q132
           go_wp2_with (first | ((with_reducible refine gate_callee (f := 8) rfl ?_); refine goesL_ (some 39) rfl rfl Try.func8 (by kernel_rfl) rfl #[.string (rdOf ByteArray.empty l0 x3_1)] rfl (by (try simp only [m1_, m2_, m3_]); first | done | rfl | (simp only [m4_, m5_]; rfl)) ?_; (with_reducible refine (pouchref1_Stuff.calls kj1 (rdOf ByteArray.empty l0 x3_1) t133 _ A12.out).mono ?_); rintro e w13 ⟨rfl, hb⟩; refine ⟨_, rfl, ?_⟩; have n0_ := am_ (rb_ (by (with_reducible repeat (first | apply ra_ | apply rn_ | apply re_)); exact HO131.out) hb); have n1_ := am_ (bt_ (by repeat (first | (with_reducible first | exact HB.out | apply ba_ | apply bn_ | apply bd_) | exact HB.out)) hb); clear HO131; clear HB; have HO131 := n0_; have HB := n1_; clear n0_ n1_; (try clear hb); (try clear hb2); (try clear hk); (try clear hi)))
           go_meet
           case rel => exact ⟨_, (0), (t133), (by first | rfl | (simp; done) | (simp [*]; done)), (by first | rfl | (simp; done) | (simp [*]; done)), H', ⟨by have := HK1.out; have := HJ1.out; first | omega | exact Nat.le_refl _⟩, ⟨by repeat (first | (with_reducible first | exact HB.out | apply ba_ | apply bn_ | apply bd_) | exact HB.out)⟩⟩
          ·
           replace c11 := Bool.eq_false_iff.mpr c11
           subst c11
           have H1 : (pouchlaw2_DotsStuffs.j2 kj1 l0 x3_1 1 (⟨#[]⟩ : ByteArray)) = some r := by rw [if_neg (show ¬ (false = true) by decide)] at H; exact H
           clear H; have H := H1; clear H1
           have H' := am_ H
           clear H
           go_wp2
           go_meet
           case rel => exact ⟨_, (1), ((⟨#[]⟩ : ByteArray)), (by first | rfl | (simp; done) | (simp [*]; done)), (by first | rfl | (simp; done) | (simp [*]; done)), H', ⟨by have := HK1.out; have := HJ1.out; first | omega | exact Nat.le_refl _⟩, ⟨by repeat (first | (with_reducible first | exact HB.out | apply ba_ | apply bn_ | apply bd_) | exact HB.out)⟩⟩
         case rest =>
          clear HC9
          try clear c1
          try clear p1
          try clear q1
          try clear hx1
          try clear p2
          try clear c3
          try clear c3b0
          try clear c4
          try clear c5
          try clear c5b0
          try clear c6
          try clear c6b0
          try clear c7
          try clear c7b0
          try clear c7b1
          try clear c8
          try clear c11
          try clear p12
          try clear q12
          try clear hx12
          try clear p13
          try clear q13
          try clear hx13
          try clear hx126_0
          try clear hx127_0
          try clear hx132_0
          try clear p126
          try clear p127
          try clear p132
          try clear p2
          try clear q126
          try clear q127
          try clear q132
          obtain ⟨kq, x6_8, x7_8, rfl, rfl, HA, HJ8, HB⟩ := hcut
          cases kq with
          | zero => exact absurd HA.out (by simp [pouchlaw2_DotsStuffs.j2])
          | succ kj8 =>
           have H := HA.out
           clear HA
           simp only [pouchlaw2_DotsStuffs.j2] at H
           by_cases c14 : 0 ≤ x3_1
           ·
            rw [if_pos c14] at H
            have c14b0 : decide (0 ≤ x3_1) = true := decide_eq_true c14
            clear c14
            by_cases c15 : x3_1 < (l0.length : Int)
            ·
             rw [if_pos c15] at H
             have c15b0 : decide (x3_1 < (l0.length : Int)) = true := decide_eq_true c15
             clear c15
             replace H := Option.bind_eq_some_iff.mp H
             obtain ⟨⟨t135, t136⟩, A160, H⟩ := H
             replace H : ((dots_Check.f kj8 (rdOf ByteArray.empty l0 x3_1)).bind fun t138 => ((pouchlaw2_num.f t138).bind fun t139 => (if t139 = x6_8 then ((pouchlaw2_num.f t136).bind fun t140 => (if t140 = x6_8 then (if t135.toList = x7_8.toList then (pouchlaw2_DotsStuffs.l0 kj8 l0 (wrap64 (x3_1 + 1))) else (some false)) else (some false))) else (some false)))) = some r := H
             have A16 := am_ A160
             clear A160
             replace H := Option.bind_eq_some_iff.mp H
             obtain ⟨t138, A170, H⟩ := H
             replace H : ((pouchlaw2_num.f t138).bind fun t139 => (if t139 = x6_8 then ((pouchlaw2_num.f t136).bind fun t140 => (if t140 = x6_8 then (if t135.toList = x7_8.toList then (pouchlaw2_DotsStuffs.l0 kj8 l0 (wrap64 (x3_1 + 1))) else (some false)) else (some false))) else (some false))) = some r := H
             have A17 := am_ A170
             clear A170
             replace H := Option.bind_eq_some_iff.mp H
             obtain ⟨t139, A180, H⟩ := H
             replace H : (if t139 = x6_8 then ((pouchlaw2_num.f t136).bind fun t140 => (if t140 = x6_8 then (if t135.toList = x7_8.toList then (pouchlaw2_DotsStuffs.l0 kj8 l0 (wrap64 (x3_1 + 1))) else (some false)) else (some false))) else (some false)) = some r := H
             have A18 := am_ A180
             clear A180
             by_cases c19 : t139 = x6_8
             ·
              rw [if_pos c19] at H
              have c19b0 : (t139 == x6_8) = true := beq_iff_eq.mpr c19
              have c19b1 : (t139 != x6_8) = false := bne_eq_false_iff_eq.mpr c19
              clear c19
              replace H := Option.bind_eq_some_iff.mp H
              obtain ⟨t140, A200, H⟩ := H
              replace H : (if t140 = x6_8 then (if t135.toList = x7_8.toList then (pouchlaw2_DotsStuffs.l0 kj8 l0 (wrap64 (x3_1 + 1))) else (some false)) else (some false)) = some r := H
              have A20 := am_ A200
              clear A200
              by_cases c21 : t140 = x6_8
              ·
               rw [if_pos c21] at H
               have c21b0 : (t140 == x6_8) = true := beq_iff_eq.mpr c21
               have c21b1 : (t140 != x6_8) = false := bne_eq_false_iff_eq.mpr c21
               clear c21
               by_cases c22 : t135.toList = x7_8.toList
               ·
                rw [if_pos c22] at H
                have c22b0 : (t135.toList == x7_8.toList) = true := beq_iff_eq.mpr c22
                have c22b1 : (t135.toList != x7_8.toList) = false := bne_eq_false_iff_eq.mpr c22
                clear c22
                have H' := am_ H
                clear H
                have p134 : 0 ≤ (x3_1 : Int) := od_ (by first | (with_reducible assumption) | assumption)
                have q134 : x3_1 < (l0.length : Int) := od_ (by first | (with_reducible assumption) | assumption)
                obtain ⟨ad134, e134, hx134_0⟩ := Kd.at_string HR0.out x3_1 p134 q134
                obtain rfl : ad126 = ad134 := (by injection e134)
                replace hx134_0 := (HB.out.cell (bl_ w _ hx134_0)).trans hx134_0
                replace p134 := eq_true p134
                replace q134 := eq_true q134
                go_wp2_with (first | ((with_reducible refine gate_callee (f := 9) rfl ?_); refine goesL_ (some 45) rfl rfl Try.func9 (by kernel_rfl) rfl #[.string (rdOf ByteArray.empty l0 x3_1)] rfl (by (try simp only [m1_, m2_, m3_]); first | done | rfl | (simp only [m4_, m5_]; rfl)) ?_; (with_reducible refine (dots_Stuff.calls kj8 (rdOf ByteArray.empty l0 x3_1) t135 t136 _ ?side1 A16.out).mono ?_); (case side1 => exact GrOk.below hG (by repeat (first | (with_reducible first | exact HB.out | apply ba_ | apply bn_ | apply bd_) | exact HB.out))); rintro e w23 ⟨rfl, hb⟩; refine ⟨_, rfl, ?_⟩; have n0_ := am_ (bt_ (by repeat (first | (with_reducible first | exact HB.out | apply ba_ | apply bn_ | apply bd_) | exact HB.out)) hb); clear HB; have HB := n0_; clear n0_; (try clear hb); (try clear hb2); (try clear hk); (try clear hi); have p137 : 0 ≤ (x3_1 : Int) := od_ (by first | (with_reducible assumption) | assumption); have q137 : x3_1 < (l0.length : Int) := od_ (by first | (with_reducible assumption) | assumption); obtain ⟨ad137, e137, hx137_0⟩ := Kd.at_string HR0.out x3_1 p137 q137; obtain rfl : ad126 = ad137 := (by injection e137); replace hx137_0 := (HB.out.cell (bl_ w _ hx137_0)).trans hx137_0; replace p137 := eq_true p137; replace q137 := eq_true q137) | ((with_reducible refine gate_callee (f := 11) rfl ?_); refine goesL_ (some 52) rfl rfl Try.func11 (by kernel_rfl) rfl #[.string (rdOf ByteArray.empty l0 x3_1)] rfl (by (try simp only [m1_, m2_, m3_]); first | done | rfl | (simp only [m4_, m5_]; rfl)) ?_; (with_reducible refine (dots_Check.calls kj8 (rdOf ByteArray.empty l0 x3_1) t138 _ ?side1 A17.out).mono ?_); (case side1 => exact GrOk.below hG (by repeat (first | (with_reducible first | exact HB.out | apply ba_ | apply bn_ | apply bd_) | exact HB.out))); rintro e w24 ⟨rfl, hb⟩; refine ⟨_, rfl, ?_⟩; have n0_ := am_ (bt_ (by repeat (first | (with_reducible first | exact HB.out | apply ba_ | apply bn_ | apply bd_) | exact HB.out)) hb); clear HB; have HB := n0_; clear n0_; (try clear hb); (try clear hb2); (try clear hk); (try clear hi)) | ((with_reducible refine gate_callee (f := 10) rfl ?_); refine goesL_ (some 53) rfl rfl Try.func10 (by kernel_rfl) rfl #[.int .i64 t138] rfl (by (try simp only [m1_, m2_, m3_]); first | done | rfl | (simp only [m4_, m5_]; rfl)) ?_; (with_reducible refine (pouchlaw2_num.calls t138 t139 _ A18.out).mono ?_); rintro e w' ⟨rfl, ⟨nd, rfl⟩⟩; refine ⟨_, rfl, ?_⟩) | (go_at_call 10; (with_reducible refine (pouchlaw2_num.calls t136 t140 _ A20.out).mono ?_); rintro e w' ⟨rfl, ⟨nd, rfl⟩⟩))
                go_roundg kj8
                case measure => have := HK1.out; have := HJ1.out; have := HJ8.out; omega
                case rel => exact ⟨(wrap64 (x3_1 + 1)), (by first | rfl | (simp; done) | (simp [*]; done)), H', ⟨by have := HK1.out; have := HJ1.out; have := HJ8.out; omega⟩, ⟨by repeat (first | (with_reducible first | exact HB.out | apply ba_ | apply bn_ | apply bd_) | exact HB.out)⟩⟩
               ·
                rw [if_neg c22] at H
                have c22b0 : (t135.toList == x7_8.toList) = false := beq_eq_false_iff_ne.mpr c22
                have c22b1 : (t135.toList != x7_8.toList) = true := bne_iff_ne.mpr c22
                obtain rfl := Option.some.inj H
                have p134 : 0 ≤ (x3_1 : Int) := od_ (by first | (with_reducible assumption) | assumption)
                have q134 : x3_1 < (l0.length : Int) := od_ (by first | (with_reducible assumption) | assumption)
                obtain ⟨ad134, e134, hx134_0⟩ := Kd.at_string HR0.out x3_1 p134 q134
                obtain rfl : ad126 = ad134 := (by injection e134)
                replace hx134_0 := (HB.out.cell (bl_ w _ hx134_0)).trans hx134_0
                replace p134 := eq_true p134
                replace q134 := eq_true q134
                go_wp2_with (first | ((with_reducible refine gate_callee (f := 9) rfl ?_); refine goesL_ (some 45) rfl rfl Try.func9 (by kernel_rfl) rfl #[.string (rdOf ByteArray.empty l0 x3_1)] rfl (by (try simp only [m1_, m2_, m3_]); first | done | rfl | (simp only [m4_, m5_]; rfl)) ?_; (with_reducible refine (dots_Stuff.calls kj8 (rdOf ByteArray.empty l0 x3_1) t135 t136 _ ?side1 A16.out).mono ?_); (case side1 => exact GrOk.below hG (by repeat (first | (with_reducible first | exact HB.out | apply ba_ | apply bn_ | apply bd_) | exact HB.out))); rintro e w25 ⟨rfl, hb⟩; refine ⟨_, rfl, ?_⟩; have n0_ := am_ (bt_ (by repeat (first | (with_reducible first | exact HB.out | apply ba_ | apply bn_ | apply bd_) | exact HB.out)) hb); clear HB; have HB := n0_; clear n0_; (try clear hb); (try clear hb2); (try clear hk); (try clear hi); have p137 : 0 ≤ (x3_1 : Int) := od_ (by first | (with_reducible assumption) | assumption); have q137 : x3_1 < (l0.length : Int) := od_ (by first | (with_reducible assumption) | assumption); obtain ⟨ad137, e137, hx137_0⟩ := Kd.at_string HR0.out x3_1 p137 q137; obtain rfl : ad126 = ad137 := (by injection e137); replace hx137_0 := (HB.out.cell (bl_ w _ hx137_0)).trans hx137_0; replace p137 := eq_true p137; replace q137 := eq_true q137) | ((with_reducible refine gate_callee (f := 11) rfl ?_); refine goesL_ (some 52) rfl rfl Try.func11 (by kernel_rfl) rfl #[.string (rdOf ByteArray.empty l0 x3_1)] rfl (by (try simp only [m1_, m2_, m3_]); first | done | rfl | (simp only [m4_, m5_]; rfl)) ?_; (with_reducible refine (dots_Check.calls kj8 (rdOf ByteArray.empty l0 x3_1) t138 _ ?side1 A17.out).mono ?_); (case side1 => exact GrOk.below hG (by repeat (first | (with_reducible first | exact HB.out | apply ba_ | apply bn_ | apply bd_) | exact HB.out))); rintro e w26 ⟨rfl, hb⟩; refine ⟨_, rfl, ?_⟩; have n0_ := am_ (bt_ (by repeat (first | (with_reducible first | exact HB.out | apply ba_ | apply bn_ | apply bd_) | exact HB.out)) hb); clear HB; have HB := n0_; clear n0_; (try clear hb); (try clear hb2); (try clear hk); (try clear hi)) | ((with_reducible refine gate_callee (f := 10) rfl ?_); refine goesL_ (some 53) rfl rfl Try.func10 (by kernel_rfl) rfl #[.int .i64 t138] rfl (by (try simp only [m1_, m2_, m3_]); first | done | rfl | (simp only [m4_, m5_]; rfl)) ?_; (with_reducible refine (pouchlaw2_num.calls t138 t139 _ A18.out).mono ?_); rintro e w' ⟨rfl, ⟨nd, rfl⟩⟩; refine ⟨_, rfl, ?_⟩) | (go_at_call 10; (with_reducible refine (pouchlaw2_num.calls t136 t140 _ A20.out).mono ?_); rintro e w' ⟨rfl, ⟨nd, rfl⟩⟩))
                go_ret
                exact ⟨by first | rfl | (simp [errW_none, errW_some] <;> rfl) | (simp [*, errW_none, errW_some] <;> rfl), by repeat (first | (with_reducible first | exact HB.out | apply ba_ | apply bn_ | apply bd_) | exact HB.out)⟩
              ·
               rw [if_neg c21] at H
               have c21b0 : (t140 == x6_8) = false := beq_eq_false_iff_ne.mpr c21
               have c21b1 : (t140 != x6_8) = true := bne_iff_ne.mpr c21
               obtain rfl := Option.some.inj H
               have p134 : 0 ≤ (x3_1 : Int) := od_ (by first | (with_reducible assumption) | assumption)
               have q134 : x3_1 < (l0.length : Int) := od_ (by first | (with_reducible assumption) | assumption)
               obtain ⟨ad134, e134, hx134_0⟩ := Kd.at_string HR0.out x3_1 p134 q134
               obtain rfl : ad126 = ad134 := (by injection e134)
               replace hx134_0 := (HB.out.cell (bl_ w _ hx134_0)).trans hx134_0
               replace p134 := eq_true p134
               replace q134 := eq_true q134
               go_wp2_with (first | ((with_reducible refine gate_callee (f := 9) rfl ?_); refine goesL_ (some 45) rfl rfl Try.func9 (by kernel_rfl) rfl #[.string (rdOf ByteArray.empty l0 x3_1)] rfl (by (try simp only [m1_, m2_, m3_]); first | done | rfl | (simp only [m4_, m5_]; rfl)) ?_; (with_reducible refine (dots_Stuff.calls kj8 (rdOf ByteArray.empty l0 x3_1) t135 t136 _ ?side1 A16.out).mono ?_); (case side1 => exact GrOk.below hG (by repeat (first | (with_reducible first | exact HB.out | apply ba_ | apply bn_ | apply bd_) | exact HB.out))); rintro e w27 ⟨rfl, hb⟩; refine ⟨_, rfl, ?_⟩; have n0_ := am_ (bt_ (by repeat (first | (with_reducible first | exact HB.out | apply ba_ | apply bn_ | apply bd_) | exact HB.out)) hb); clear HB; have HB := n0_; clear n0_; (try clear hb); (try clear hb2); (try clear hk); (try clear hi); have p137 : 0 ≤ (x3_1 : Int) := od_ (by first | (with_reducible assumption) | assumption); have q137 : x3_1 < (l0.length : Int) := od_ (by first | (with_reducible assumption) | assumption); obtain ⟨ad137, e137, hx137_0⟩ := Kd.at_string HR0.out x3_1 p137 q137; obtain rfl : ad126 = ad137 := (by injection e137); replace hx137_0 := (HB.out.cell (bl_ w _ hx137_0)).trans hx137_0; replace p137 := eq_true p137; replace q137 := eq_true q137) | ((with_reducible refine gate_callee (f := 11) rfl ?_); refine goesL_ (some 52) rfl rfl Try.func11 (by kernel_rfl) rfl #[.string (rdOf ByteArray.empty l0 x3_1)] rfl (by (try simp only [m1_, m2_, m3_]); first | done | rfl | (simp only [m4_, m5_]; rfl)) ?_; (with_reducible refine (dots_Check.calls kj8 (rdOf ByteArray.empty l0 x3_1) t138 _ ?side1 A17.out).mono ?_); (case side1 => exact GrOk.below hG (by repeat (first | (with_reducible first | exact HB.out | apply ba_ | apply bn_ | apply bd_) | exact HB.out))); rintro e w28 ⟨rfl, hb⟩; refine ⟨_, rfl, ?_⟩; have n0_ := am_ (bt_ (by repeat (first | (with_reducible first | exact HB.out | apply ba_ | apply bn_ | apply bd_) | exact HB.out)) hb); clear HB; have HB := n0_; clear n0_; (try clear hb); (try clear hb2); (try clear hk); (try clear hi)) | ((with_reducible refine gate_callee (f := 10) rfl ?_); refine goesL_ (some 53) rfl rfl Try.func10 (by kernel_rfl) rfl #[.int .i64 t138] rfl (by (try simp only [m1_, m2_, m3_]); first | done | rfl | (simp only [m4_, m5_]; rfl)) ?_; (with_reducible refine (pouchlaw2_num.calls t138 t139 _ A18.out).mono ?_); rintro e w' ⟨rfl, ⟨nd, rfl⟩⟩; refine ⟨_, rfl, ?_⟩) | (go_at_call 10; (with_reducible refine (pouchlaw2_num.calls t136 t140 _ A20.out).mono ?_); rintro e w' ⟨rfl, ⟨nd, rfl⟩⟩))
               go_ret
               exact ⟨by first | rfl | (simp [errW_none, errW_some] <;> rfl) | (simp [*, errW_none, errW_some] <;> rfl), by repeat (first | (with_reducible first | exact HB.out | apply ba_ | apply bn_ | apply bd_) | exact HB.out)⟩
             ·
              rw [if_neg c19] at H
              have c19b0 : (t139 == x6_8) = false := beq_eq_false_iff_ne.mpr c19
              have c19b1 : (t139 != x6_8) = true := bne_iff_ne.mpr c19
              obtain rfl := Option.some.inj H
              have p134 : 0 ≤ (x3_1 : Int) := od_ (by first | (with_reducible assumption) | assumption)
              have q134 : x3_1 < (l0.length : Int) := od_ (by first | (with_reducible assumption) | assumption)
              obtain ⟨ad134, e134, hx134_0⟩ := Kd.at_string HR0.out x3_1 p134 q134
              obtain rfl : ad126 = ad134 := (by injection e134)
              replace hx134_0 := (HB.out.cell (bl_ w _ hx134_0)).trans hx134_0
              replace p134 := eq_true p134
              replace q134 := eq_true q134
              go_wp2_with (first | ((with_reducible refine gate_callee (f := 9) rfl ?_); refine goesL_ (some 45) rfl rfl Try.func9 (by kernel_rfl) rfl #[.string (rdOf ByteArray.empty l0 x3_1)] rfl (by (try simp only [m1_, m2_, m3_]); first | done | rfl | (simp only [m4_, m5_]; rfl)) ?_; (with_reducible refine (dots_Stuff.calls kj8 (rdOf ByteArray.empty l0 x3_1) t135 t136 _ ?side1 A16.out).mono ?_); (case side1 => exact GrOk.below hG (by repeat (first | (with_reducible first | exact HB.out | apply ba_ | apply bn_ | apply bd_) | exact HB.out))); rintro e w29 ⟨rfl, hb⟩; refine ⟨_, rfl, ?_⟩; have n0_ := am_ (bt_ (by repeat (first | (with_reducible first | exact HB.out | apply ba_ | apply bn_ | apply bd_) | exact HB.out)) hb); clear HB; have HB := n0_; clear n0_; (try clear hb); (try clear hb2); (try clear hk); (try clear hi); have p137 : 0 ≤ (x3_1 : Int) := od_ (by first | (with_reducible assumption) | assumption); have q137 : x3_1 < (l0.length : Int) := od_ (by first | (with_reducible assumption) | assumption); obtain ⟨ad137, e137, hx137_0⟩ := Kd.at_string HR0.out x3_1 p137 q137; obtain rfl : ad126 = ad137 := (by injection e137); replace hx137_0 := (HB.out.cell (bl_ w _ hx137_0)).trans hx137_0; replace p137 := eq_true p137; replace q137 := eq_true q137) | ((with_reducible refine gate_callee (f := 11) rfl ?_); refine goesL_ (some 52) rfl rfl Try.func11 (by kernel_rfl) rfl #[.string (rdOf ByteArray.empty l0 x3_1)] rfl (by (try simp only [m1_, m2_, m3_]); first | done | rfl | (simp only [m4_, m5_]; rfl)) ?_; (with_reducible refine (dots_Check.calls kj8 (rdOf ByteArray.empty l0 x3_1) t138 _ ?side1 A17.out).mono ?_); (case side1 => exact GrOk.below hG (by repeat (first | (with_reducible first | exact HB.out | apply ba_ | apply bn_ | apply bd_) | exact HB.out))); rintro e w30 ⟨rfl, hb⟩; refine ⟨_, rfl, ?_⟩; have n0_ := am_ (bt_ (by repeat (first | (with_reducible first | exact HB.out | apply ba_ | apply bn_ | apply bd_) | exact HB.out)) hb); clear HB; have HB := n0_; clear n0_; (try clear hb); (try clear hb2); (try clear hk); (try clear hi)) | ((with_reducible refine gate_callee (f := 10) rfl ?_); refine goesL_ (some 53) rfl rfl Try.func10 (by kernel_rfl) rfl #[.int .i64 t138] rfl (by (try simp only [m1_, m2_, m3_]); first | done | rfl | (simp only [m4_, m5_]; rfl)) ?_; (with_reducible refine (pouchlaw2_num.calls t138 t139 _ A18.out).mono ?_); rintro e w' ⟨rfl, ⟨nd, rfl⟩⟩; refine ⟨_, rfl, ?_⟩))
              go_ret
              exact ⟨by first | rfl | (simp [errW_none, errW_some] <;> rfl) | (simp [*, errW_none, errW_some] <;> rfl), by repeat (first | (with_reducible first | exact HB.out | apply ba_ | apply bn_ | apply bd_) | exact HB.out)⟩
            ·
             rw [if_neg c15] at H
             exact absurd H (by simp)
           ·
            rw [if_neg c14] at H
            exact absurd H (by simp)
       ·
        rw [if_neg c6] at H
        exact absurd H (by simp)
      ·
       rw [if_neg c5] at H
       exact absurd H (by simp)
     ·
      replace c4 := Bool.eq_false_iff.mpr c4
      subst c4
      have H1 : ((pouchlaw2_wakes.f kj1).bind fun t125 => (some t125)) = some r := by rw [if_neg (show ¬ (false = true) by decide)] at H; exact H
      clear H; have H := H1; clear H1
      replace H := Option.bind_eq_some_iff.mp H
      obtain ⟨t125, A310, H⟩ := H
      replace H : (some t125) = some r := H
      have A31 := am_ A310
      clear A310
      obtain rfl := Option.some.inj H
      go_wp2_with (first | ((with_reducible refine gate_callee (f := 12) rfl ?_); refine goesL_ (some 67) rfl rfl Try.func12 (by kernel_rfl) rfl #[] rfl (by (try simp only [m1_, m2_, m3_]); first | done | rfl | (simp only [m4_, m5_]; rfl)) ?_; (with_reducible refine (pouchlaw2_wakes.calls kj1  t125 _ ?side1 A31.out).mono ?_); (case side1 => exact GrOk.below hG (by repeat (first | (with_reducible first | exact HB.out | apply ba_ | apply bn_ | apply bd_) | exact HB.out))); rintro e w32 ⟨rfl, hb⟩; refine ⟨_, rfl, ?_⟩; have n0_ := am_ (bt_ (by repeat (first | (with_reducible first | exact HB.out | apply ba_ | apply bn_ | apply bd_) | exact HB.out)) hb); clear HB; have HB := n0_; clear n0_; (try clear hb); (try clear hb2); (try clear hk); (try clear hi)))
      go_ret
      exact ⟨by first | rfl | (simp [errW_none, errW_some] <;> rfl) | (simp [*, errW_none, errW_some] <;> rfl), by repeat (first | (with_reducible first | exact HB.out | apply ba_ | apply bn_ | apply bd_) | exact HB.out)⟩

/-! ### pouchlaw2_many: function 13 -/
def pouchlaw2_many.l0 : Nat → Int → List Int → Int → Option (ByteArray)
 | 0, _, _, _ => none
 | k + 1, x0, x5, x6 => if x6 < (x5.length : Int) then (if 0 ≤ x6 then (pouchlaw2_many.l0 k x0 (x5.set (x6 : Int).toNat x0) (wrap64 (x6 + 1))) else (none)) else (some (strOfNums x5))
def pouchlaw2_many.f (k : Nat) (a0 : Int) (a1 : Int) : Option (ByteArray) := if 0 ≤ (mx 0 a1) then (if (mx 0 a1 : Int).toNat ≤ 281474976710656 then (pouchlaw2_many.l0 k a0 (List.replicate (mx 0 a1 : Int).toNat 0) 0) else (none)) else (none)
theorem pouchlaw2_many.mono_l : ∀ k, (∀ y0 y1 y2, LeO (pouchlaw2_many.l0 k y0 y1 y2) (pouchlaw2_many.l0 (k + 1) y0 y1 y2))
 | 0 => fun _ _ _ r h => by simp [pouchlaw2_many.l0] at h
 | k + 1 => by
  have ih0 := pouchlaw2_many.mono_l k
  ·
   intro y0 y1 y2
   unfold pouchlaw2_many.l0
   repeat' first
   | (with_reducible exact ih0 _ _ _)
   | (with_reducible exact LeO.refl _)
   | (with_reducible exact LeO.none _)
   | (with_reducible refine LeO.ite ?_ ?_)
   | (with_reducible refine LeO.bind ?_ (fun _ => ?_))
   | exact ih0 _ _ _
   | exact LeO.none _
   | refine LeO.ite ?_ ?_
   | refine LeO.bind ?_ (fun _ => ?_)
theorem pouchlaw2_many.mono : ∀ a0 a1 k, LeO (pouchlaw2_many.f k a0 a1) (pouchlaw2_many.f (k + 1) a0 a1) := by
 intro a0 a1 k
 have ih0 := pouchlaw2_many.mono_l k
 unfold pouchlaw2_many.f
 repeat' first
   | (with_reducible exact ih0 _ _ _)
   | (with_reducible exact LeO.refl _)
   | (with_reducible exact LeO.none _)
   | (with_reducible refine LeO.ite ?_ ?_)
   | (with_reducible refine LeO.bind ?_ (fun _ => ?_))
   | exact ih0 _ _ _
   | exact LeO.none _
   | refine LeO.ite ?_ ?_
   | refine LeO.bind ?_ (fun _ => ?_)
set_option maxHeartbeats 8000000 in
set_option maxRecDepth 100000 in
theorem pouchlaw2_many.calls (k : Nat) (a0 : Int) (a1 : Int) (r : ByteArray) (w : World) (h : pouchlaw2_many.f k a0 a1 = some r) :
  Calls Try.prog 13 #[.int .u8 a0, .int .i64 a1] w fun e w' => e = .returned (.string r) ∧ Below w.heap.size w w' := by
 have HB := am_ (Below.refl w.heap.size w)
 have H : (if 0 ≤ (mx 0 a1) then (if (mx 0 a1 : Int).toNat ≤ 281474976710656 then (pouchlaw2_many.l0 k a0 (List.replicate (mx 0 a1 : Int).toNat 0) 0) else (none)) else (none)) = some r := h
 clear h
 obtain ⟨ji3, hji3⟩ : ∃ j_ : Int, (mx 0 a1) = j_ := ⟨_, rfl⟩
 replace H : (if 0 ≤ (ji3) then (if (ji3 : Int).toNat ≤ 281474976710656 then (pouchlaw2_many.l0 k a0 (List.replicate (ji3 : Int).toNat 0) 0) else (none)) else (none)) = some r := by first | (rw [hji3] at H; exact H) | (simp only [hji3] at H ⊢; exact H)
 (try (have hji3l : 0 ≤ ji3 := by (rw [← hji3]; unfold mx; (repeat' split) <;> omega)))
 (try (have hji3m : 0 ≤ ji3 := by omega))
 have hji3_ : (if 0 < a1 then a1 else 0) = ji3 := hji3
 by_cases c4 : 0 ≤ (ji3)
 ·
  rw [if_pos c4] at H
  have c4b0 := eq_true c4
  have c4b1 : decide (0 ≤ (ji3)) = true := decide_eq_true c4
  clear c4
  by_cases c5 : (ji3 : Int).toNat ≤ 281474976710656
  ·
   rw [if_pos c5] at H
   have c5b0 := eq_true c5
   have c5b1 : decide ((ji3 : Int).toNat ≤ 281474976710656) = true := decide_eq_true c5
   clear c5
   obtain ⟨y141, hy141⟩ : ∃ y_ : List Int, y_ = (List.replicate (ji3 : Int).toNat 0) := ⟨_, rfl⟩
   replace H : (pouchlaw2_many.l0 k a0 y141 0) = some r := by first | (rw [hy141]; with_reducible exact H) | (have H2_ := (Option.bind_some _ _).symm.trans H; rw [hy141]; with_reducible exact H2_) | (have H2_ := (Option.bind_some _ _).symm.trans H; with_reducible exact H2_) | with_reducible exact H | (rw [hy141]; exact H) | exact H
   have Ny141 := am_ hy141
   clear hy141
   have H' := am_ H
   clear H
   go_enter Try.func13, Try.ntmps13
   go_wp2_with (first | ((with_reducible refine gate_dst (N := 9) rfl ?_); refine Kd.R_make (Kd.int .u8) _ 5 rfl (N := 9) rfl 37 _ _ rfl ji3 rfl rfl Try.underlying37 (.int .u8 0) 1 info5 rfl (by decide) (by omega) 0 (ok := fun _ => True) (okp := fun _ => True) rfl (fun _ hk => hk) trivial (od_ (by first | (with_reducible assumption) | assumption)) (Nat.le_trans (Nat.mul_le_mul_right _ (od_ (by first | (with_reducible assumption) | assumption) : ji3.toNat ≤ 281474976710656)) (by omega)) (Below.refl _ _) (Nat.le_refl _) ?_; intro v142 w6 ho7 hb hg_ hnew_; clear hg_ hnew_; (first | rw [← Ny141.out] at ho7 | (simp only [Int.reduceToNat] at ho7; rw [← Ny141.out] at ho7)); have n0_ := am_ (Kd.R_lower ho7 (bz_ (by repeat (first | (with_reducible first | exact HB.out | apply ba_ | apply bn_ | apply bd_) | exact HB.out)))); have n1_ := am_ (bt_ (by repeat (first | (with_reducible first | exact HB.out | apply ba_ | apply bn_ | apply bd_) | exact HB.out)) hb); clear HB; have HO143 := n0_; have HB := n1_; clear n0_ n1_; clear hb ho7))
   go_loopg [6] k (fun kq v6 w' => ∃ (x5_1 : List Int) (x6_1 : Int), v6 = .int .i64 x6_1 ∧ Aside0 (pouchlaw2_many.l0 kq a0 x5_1 x6_1 = some r) ∧ Aside0 (kq ≤ k) ∧ Aside0 (Kd.R (Kd.int .u8) 5 w' w.heap.size (fun _ => True) v142 x5_1) ∧ Aside0 (Below w.heap.size w w'))
   case atStart => exact ⟨(y141), (0), (by first | rfl | (simp; done) | (simp [*]; done)), H', ⟨Nat.le_refl _⟩, ⟨by (with_reducible repeat (first | apply ra_ | apply rn_ | apply re_)); exact HO143.out⟩, ⟨by repeat (first | (with_reducible first | exact HB.out | apply ba_ | apply bn_ | apply bd_) | exact HB.out)⟩⟩
   case round =>
    clear H'
    try clear c1
    try clear p2
    try clear c4
    try clear c4b0
    try clear c4b1
    try clear c5
    try clear c5b0
    try clear c5b1
    obtain ⟨x5_1, x6_1, rfl, HA, HK1, HO_5, HB⟩ := hrel
    cases gk with
    | zero => exact absurd HA.out (by simp [pouchlaw2_many.l0])
    | succ k1 =>
     have H := HA.out
     clear HA
     simp only [pouchlaw2_many.l0] at H
     by_cases c8 : x6_1 < (x5_1.length : Int)
     ·
      rw [if_pos c8] at H
      have c8b0 : decide (x6_1 < (x5_1.length : Int)) = true := decide_eq_true c8
      clear c8
      by_cases c9 : 0 ≤ x6_1
      ·
       rw [if_pos c9] at H
       have c9b0 : decide (0 ≤ x6_1) = true := decide_eq_true c9
       clear c9
       obtain ⟨y144, hy144⟩ : ∃ y_ : List Int, y_ = (x5_1.set (x6_1 : Int).toNat a0) := ⟨_, rfl⟩
       replace H : (pouchlaw2_many.l0 k1 a0 y144 (wrap64 (x6_1 + 1))) = some r := by first | (rw [hy144]; with_reducible exact H) | (have H2_ := (Option.bind_some _ _).symm.trans H; rw [hy144]; with_reducible exact H2_) | (have H2_ := (Option.bind_some _ _).symm.trans H; with_reducible exact H2_) | with_reducible exact H | (rw [hy144]; exact H) | exact H
       have Ny144 := am_ hy144
       clear hy144
       have H' := am_ H
       clear H
       obtain ⟨Ao11, co11, eo11⟩ := Kd.R_slice HO_5.out
       subst eo11
       have p10 : 0 ≤ (x6_1 : Int) := od_ (by first | (with_reducible assumption) | assumption)
       have q10 : (x6_1 : Int) < ((x5_1.length : Int) : Int) := od_ (by first | (with_reducible assumption) | assumption)
       obtain ⟨go10, co10, eo10, gb10, gl10, cl10, HG10⟩ := Kd.R_form HO_5.out (by omega)
       (first | cases eo10 | (injection eo10 with ea_ en_ ec_; (first | subst ea_ | (injection ea_ with ea_; subst ea_)); subst ec_; clear en_))
       have GB10 := am_ gb10
       have GG10 := am_ HG10
       clear gb10 gl10 HG10
       obtain ⟨hx10_0, hf10_0⟩ := Kd.R_celln 0 HO_5.out (x6_1 : Int) p10 q10
       replace p10 := eq_true p10
       replace q10 := eq_true q10
       have HP12 := Kd.R_putg HO_5.out (x6_1 : Int) a0
       go_wp2_with (first | ((with_reducible refine gate_store (t := 5) (p := 19) rfl ?_); refine store_event (t := 5) (p := 19) (v := ?vo_w13) (w1 := (wr.setCell ⟨go10, (x6_1 : Int).toNat, none⟩ (.int .u8 a0))) ?hg ?ho ?hn ?hr ?_; (case ho => rfl); (case hg => rfl); (case hn => rfl); (case hr => first | (go_simp; done) | (go_simp; rfl)); intro w13 hw; have hg : wr.grownBy w13 (some go10) := (by rw [hw]; exact HP12.2); have hp_ : Kd.R (Kd.int .u8) 5 w13 w.heap.size (fun _ => True) (.slice (some ⟨go10, 0, none⟩) x5_1.length co11) y144 := (by rw [hw, Ny144.out]; exact HP12.1); clear HP12; have n0_ := am_ (hp_); have n1_ := am_ ((by rw [hw]; exact bs_ (HB.out) GB10.out : Below w.heap.size w w13)); clear HO_5; clear HB; have HO_5 := n0_; have HB := n1_; clear n0_ n1_; clear hg hw hp_))
       go_roundg k1
       case measure => have := HK1.out; omega
       case rel => exact ⟨(y144), (wrap64 (x6_1 + 1)), (by first | rfl | (simp; done) | (simp [*]; done)), H', ⟨by have := HK1.out; omega⟩, ⟨by (with_reducible repeat (first | apply ra_ | apply rn_ | apply re_)); exact HO_5.out⟩, ⟨by repeat (first | (with_reducible first | exact HB.out | apply ba_ | apply bn_ | apply bd_) | exact HB.out)⟩⟩
      ·
       rw [if_neg c9] at H
       exact absurd H (by simp)
     ·
      rw [if_neg c8] at H
      have c8b0 : decide (x6_1 < (x5_1.length : Int)) = false := decide_eq_false c8
      clear c8
      obtain rfl := Option.some.inj H
      obtain ⟨Ao14, co14, eo14⟩ := Kd.R_slice HO_5.out
      subst eo14
      have hcv15 := own_string (P := Try.prog) Try.underlying37 Try.underlying5 Try.underlying9 (Kd.own_of_R HO_5.out)
      go_wp2
      go_ret
      exact ⟨by first | rfl | (simp [errW_none, errW_some] <;> rfl) | (simp only [← hji3]; first | rfl | (simp [errW_none, errW_some] <;> rfl)) | (simp [*, errW_none, errW_some] <;> rfl), by repeat (first | (with_reducible first | exact HB.out | apply ba_ | apply bn_ | apply bd_) | exact HB.out)⟩
  ·
   rw [if_neg c5] at H
   exact absurd H (by simp)
 ·
  rw [if_neg c4] at H
  exact absurd H (by simp)

end Go.Proofs.Ytdedodfeopdkaaa.PDo
