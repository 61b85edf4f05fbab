/- The law of a talk, SenderBrings, of any size. -/
import Derived.Test.YtilagaapfbfkkaaGreatDoorZV10
namespace Go.Proofs.YtilagaapfbfkkaaGreatDoor.Ab
open Go Go.RowKit Go.Proofs.YtilagaapfbfkkaaGreatDoorW.PrintWords
set_option linter.unusedSimpArgs false
set_option linter.unusedVariables false
set_option maxRecDepth 100000
variable {G : World → Prop}
def s48b : Sense := ⟨false, fun os xs K => ∃ s, xs = [.one (.str s)] ∧ os = [] ∧ 8192 < s.size ∧ K [] (.ret (.tup [.one .nil, .one (.bool (mayT (bl s)))]))⟩
theorem ok48b : SenseOK G Go.Proofs.Tryz.prog 14 s48b := SenseOK.any Γ48.ok (fun _ => [0, 4, 5, 6]) Go.Proofs.Tryz.func14 fun os xs K h => by
  obtain ⟨s, rfl, rfl, h1, hk⟩ := h
  have f0 : decide ((s.size : Int) > 8192) = true := decide_eq_true (by omega)
  have hm : mayT (bl s) = false := by rw [mayT, bl_len, decide_eq_false (by omega), Bool.false_and]
  rw [hm] at hk
  refine zs1 f0 ?_
  exact hk
def s48c : Sense := ⟨false, fun os xs K => ∃ s, xs = [.one (.str s)] ∧ os = [] ∧
  K [] (.ret (.tup [.one .nil, .one (.bool (mayT (bl s)))])) ∧ (∀ rows mv, K [.own 9 .str rows true mv] (.ret (.tup [.one (.own 0), .one (.bool (mayT (bl s)))])))⟩
theorem ok48c : SenseOK G Go.Proofs.Tryz.prog 14 s48c := SenseOK.or ok48 ok48b rfl rfl fun os xs K h => by
  obtain ⟨s, h1, h2, h3, h4⟩ := h
  by_cases hs : 8192 < s.size
  · exact .inr ⟨s, h1, h2, hs, h3⟩
  · exact .inl ⟨s, h1, h2, by simp only [big]; omega, h3, h4⟩
def Γ3b : Sems := ext 14 s48c (Γ0)
theorem Γ3b.ok : SemsOK Gr Go.Proofs.Tryz.prog Γ3b := (Γ0.ok.ext Go.Proofs.Tryz.func14 rfl (by decide) ok48c)
def q3b : Sense := ⟨false, fun os xs K => ∃ (b : ByteArray) (n : Int) (lm : Bool) (c z : List Int), xs = [.agg (tkC b n lm c z)] ∧ os = [] ∧ (3000 < b.size ∨ (100 < c.length ∨ 100 < z.length)) ∧ K [] (.ret (.one (.bool true)))⟩
set_option maxHeartbeats 64000000 in
theorem qk3b : SenseOK Gr Go.Proofs.Tryz.prog 3 q3b := SenseOK.anyF Γ3b.ok L3 J3 F3 Go.Proofs.Tryz.func3 fun os xs K hq => by
  obtain ⟨body, N, lm, c, z, rfl, rfl, hl, hk⟩ := hq
  refine zv ?_
  refine ⟨fun σ => σ = ⟨slots 385 [(1, .one (.ref 0 0)), (4, .one (.bool (mayT (bl body))))], [.box 24 (tkC body N lm c z)]⟩, ?_, ?_⟩
  · refine zs0 ?_
    intro rows mv
    refine zs0 ?_
    try exact (by first | exact rfl | exact True.intro)
  rintro σ rfl
  cases hT : decide ((body.size : Int) > 3000) with
  | true =>
    refine zs1 hT ?_
    exact hk
  | false =>
  cases hM : mayT (bl body) with
  | false =>
    refine zs1 hT ?_
    exact hk
  | true =>
  cases hC : decide ((c.length : Int) > 100) with
  | true =>
    refine zs2 hT hC ?_
    exact hk
  | false =>
  cases hZ : decide ((z.length : Int) > 100) with
  | true =>
    refine zs3 hT hC hZ ?_
    exact hk
  | false =>
  have h1 := of_decide_eq_false hT
  have h2 := of_decide_eq_false hC
  have h3 := of_decide_eq_false hZ
  omega
def q3c : Sense := ⟨false, fun os xs K => ∃ (b : ByteArray) (n : Int) (lm : Bool) (c z : List Int), xs = [.agg (tkC b n lm c z)] ∧ os = [] ∧ K [] (.ret (.one (.bool true)))⟩
theorem qk3c : SenseOK Gr Go.Proofs.Tryz.prog 3 q3c := SenseOK.or qk3 qk3b rfl rfl fun os xs K h => by
  obtain ⟨b, n, lm, c, z, h1, h2, h3⟩ := h
  by_cases hl : 3000 < b.size ∨ (100 < c.length ∨ 100 < z.length)
  · exact .inr ⟨b, n, lm, c, z, h1, h2, hl, h3⟩
  · exact .inl ⟨b, n, lm, c, z, h1, h2, ⟨by simp only [big]; omega, by simp only [big]; omega, by simp only [big]; omega⟩, h3⟩
end Go.Proofs.YtilagaapfbfkkaaGreatDoor.Ab
