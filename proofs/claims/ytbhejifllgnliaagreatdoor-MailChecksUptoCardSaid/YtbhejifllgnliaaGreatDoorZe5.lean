/- Part 5 of 5 of the proof of mailChecks_holds: texts put together by a program; no condition. -/
import Derived.Test.YtbhejifllgnliaaGreatDoorZe4
namespace Go.Proofs.YtbhejifllgnliaaGreatDoor.Ab
open Go Go.RowKit Go.Proofs.YtbhejifllgnliaaGreatDoorW.PrintWords
set_option linter.unusedSimpArgs false
set_option linter.unusedVariables false
set_option maxRecDepth 100000
def restMd (m : Md) : Md := { m with rc := m.rc.map restR }
def Γ8 : Sems := ext 26 sTrue (ext 16 s16 (ext 15 s15 (ext 34 s34 (ext 33 s33 (ext 32 s32 (ext 31 s31 (ext 24 sNum (ext 18 s18 (ext 30 s30 (ext 29 s29 (ext 28 s28 (ext 10 s10 (ext 27 s27 Γ0)))))))))))))
theorem Γ8.ok : SemsOK Gr Go.Proofs.Tryz.prog Γ8 := (((((((((((((Γ0.ok.ext Go.Proofs.Tryz.func27 rfl (by decide) ok27).ext Go.Proofs.Tryz.func10 rfl (by decide) ok10).ext Go.Proofs.Tryz.func28 rfl (by decide) ok28).ext Go.Proofs.Tryz.func29 rfl (by decide) ok29).ext Go.Proofs.Tryz.func30 rfl (by decide) ok30).ext Go.Proofs.Tryz.func18 rfl (by decide) ok18).ext Go.Proofs.Tryz.func24 rfl (by decide) ok24).ext Go.Proofs.Tryz.func31 rfl (by decide) ok31).ext Go.Proofs.Tryz.func32 rfl (by decide) ok32).ext Go.Proofs.Tryz.func33 rfl (by decide) ok33).ext Go.Proofs.Tryz.func34 rfl (by decide) ok34).ext Go.Proofs.Tryz.func15 rfl (by decide) ok15).ext Go.Proofs.Tryz.func16 rfl (by decide) ok16).ext Go.Proofs.Tryz.func26 rfl (by decide) ok26
def s8 : Sense := ⟨false, fun os xs K => ∃ (l : List MT.den), xs = [.one (.sl MT l)] ∧ os = [] ∧ l.length ≤ big ∧ (∀ x ∈ l, wtSmall (mdOf x)) ∧ K [] (.ret (.one (.bool true)))⟩
set_option maxHeartbeats 64000000 in
theorem ok8 : SenseOK Gr Go.Proofs.Tryz.prog 8 s8 := SenseOK.any Γ8.ok (fun _ => [0, 3]) Go.Proofs.Tryz.func8 fun os xs K h => by
  obtain ⟨l, rfl, rfl, hl, hb, hk⟩ := h
  simp only [big] at hl
  ((conv => whnf); repeat ((first | refine Br.t ?_ | refine Br.f ?_ | refine ob ?_ | refine ⟨_, rfl, ?_⟩ | refine ⟨_, _, rfl, ?_⟩ | refine ⟨_, _, _, rfl, ?_⟩ | refine ⟨_, _, _, _, rfl, ?_⟩); (conv => whnf)))
  refine iter_of (I := fun k σ => ∃ j : Nat, k = l.length - j ∧ j ≤ l.length ∧ σ = ⟨slots 137 [(0, .one (.sl MT l)), (3, .one (.int .i64 j))], []⟩) ?_ l.length ⟨0, by omega, by omega, rfl⟩
  rintro k σ K' ⟨j, rfl, hj, rfl⟩ hK'
  have w1 := IntWalk.i64_in ((j : Int) + 1) (by omega)
  by_cases h1 : j < l.length
  case neg =>
    have f1 : decide ((j : Int) < l.length) = false := by simp; omega
    ((conv => whnf); repeat ((first | refine Br.t ?_ | refine Br.f ?_ | refine ob ?_ | refine ⟨_, rfl, ?_⟩ | refine ⟨_, _, rfl, ?_⟩ | refine ⟨_, _, _, rfl, ?_⟩ | refine ⟨_, _, _, _, rfl, ?_⟩ | simp only [f1]); (conv => whnf)))
    exact hk
  have f1 : decide ((j : Int) < l.length) = true := by simpa using h1
  by_cases h2 : j < 10
  case neg =>
    have f2 : decide ((j : Int) < 10) = false := by simp; omega
    ((conv => whnf); repeat ((first | refine Br.t ?_ | refine Br.f ?_ | refine ob ?_ | refine ⟨_, rfl, ?_⟩ | refine ⟨_, _, rfl, ?_⟩ | refine ⟨_, _, _, rfl, ?_⟩ | refine ⟨_, _, _, _, rfl, ?_⟩ | simp only [f1, f2]); (conv => whnf)))
    exact hk
  have f2 : decide ((j : Int) < 10) = true := by simp; omega
  obtain ⟨x, hr0⟩ : ∃ x, l[j]? = some x := ⟨_, List.getElem?_eq_getElem h1⟩
  have hw := hb x (List.mem_of_getElem? hr0)
  obtain ⟨m, rfl⟩ : ∃ m, x = mtOf m := ⟨_, mt_md x⟩
  rw [mdOf_mt] at hw
  have rr := nth_of hr0 MT.dflt
  ((conv => whnf); repeat ((first | refine Br.t ?_ | refine Br.f ?_ | refine ob ?_ | refine ⟨_, rfl, ?_⟩ | refine ⟨_, _, rfl, ?_⟩ | refine ⟨_, _, _, rfl, ?_⟩ | refine ⟨_, _, _, _, rfl, ?_⟩ | simp only [f1, f2, rr]); (conv => whnf)))
  refine ⟨.inl ⟨rfl, rfl⟩, hw, ?_⟩
  by_cases h3 : wtM m > 6000
  case pos =>
    have f3 : decide (wtM m > 6000) = true := by simpa using h3
    ((conv => whnf); repeat ((first | refine Br.t ?_ | refine Br.f ?_ | refine ob ?_ | refine ⟨_, rfl, ?_⟩ | refine ⟨_, _, rfl, ?_⟩ | refine ⟨_, _, _, rfl, ?_⟩ | refine ⟨_, _, _, _, rfl, ?_⟩ | simp only [f3]); (conv => whnf)))
    exact hk
  have f3 : decide (wtM m > 6000) = false := by simpa using h3
  have hL := light_of h3
  have hbd : m.body.size ≤ big := hw.2.1
  have hfd : m.fd.size ≤ big := hw.2.2.2.1
  have hrs : ∀ r ∈ m.rc, r.1.2.size ≤ big := fun r hr => (hw.2.2.2.2 r hr).2
  ((conv => whnf); repeat ((first | refine Br.t ?_ | refine Br.f ?_ | refine ob ?_ | refine ⟨_, rfl, ?_⟩ | refine ⟨_, _, rfl, ?_⟩ | refine ⟨_, _, _, rfl, ?_⟩ | refine ⟨_, _, _, _, rfl, ?_⟩ | simp only [f3, rr]); (conv => whnf)))
  refine ⟨.inl ⟨rfl, rfl⟩, hw.1, fun hz => ?_, fun hz mv => ?_⟩
  · have e1 : mailP m.ml = false := by
      cases hh : mailP m.ml with
      | false => rfl
      | true => exact absurd hz (mailP_ne hh)
    ((conv => whnf); repeat ((first | refine Br.t ?_ | refine Br.f ?_ | refine ob ?_ | refine ⟨_, rfl, ?_⟩ | refine ⟨_, _, rfl, ?_⟩ | refine ⟨_, _, _, rfl, ?_⟩ | refine ⟨_, _, _, _, rfl, ?_⟩ | simp only []); (conv => whnf)))
    refine ⟨.inr (.inl ⟨rfl, rfl, hz⟩), hL.sml, fun h0 => ?_, fun h0 => absurd (h0.symm.trans e1) (by simp)⟩
    ((conv => whnf); repeat ((first | refine Br.t ?_ | refine Br.f ?_ | refine ob ?_ | refine ⟨_, rfl, ?_⟩ | refine ⟨_, _, rfl, ?_⟩ | refine ⟨_, _, _, rfl, ?_⟩ | refine ⟨_, _, _, _, rfl, ?_⟩ | simp only []); (conv => whnf)))
    refine ⟨.inr (.inl ⟨rfl, rfl, hz⟩), hL.sml, hbd, fun h0 => ?_, fun h0 => absurd (h0.symm.trans e1) (by simp)⟩
    ((conv => whnf); repeat ((first | refine Br.t ?_ | refine Br.f ?_ | refine ob ?_ | refine ⟨_, rfl, ?_⟩ | refine ⟨_, _, rfl, ?_⟩ | refine ⟨_, _, _, rfl, ?_⟩ | refine ⟨_, _, _, _, rfl, ?_⟩ | simp only []); (conv => whnf)))
    refine ⟨.inr (.inl ⟨rfl, rfl, hz⟩), hL.sml, fun h0 => ?_, fun h0 => absurd (h0.symm.trans e1) (by simp)⟩
    ((conv => whnf); repeat ((first | refine Br.t ?_ | refine Br.f ?_ | refine ob ?_ | refine ⟨_, rfl, ?_⟩ | refine ⟨_, _, rfl, ?_⟩ | refine ⟨_, _, _, rfl, ?_⟩ | refine ⟨_, _, _, _, rfl, ?_⟩ | simp only [rr]); (conv => whnf)))
    refine ⟨.inl ⟨rfl, rfl⟩, hbd, hfd, hrs, ?_⟩
    ((conv => whnf); repeat ((first | refine Br.t ?_ | refine Br.f ?_ | refine ob ?_ | refine ⟨_, rfl, ?_⟩ | refine ⟨_, _, rfl, ?_⟩ | refine ⟨_, _, _, rfl, ?_⟩ | refine ⟨_, _, _, _, rfl, ?_⟩ | simp only [e1, rr]); (conv => whnf)))
    refine ⟨.inr (.inl ⟨rfl, rfl, hz⟩), hL.sml, ?_⟩
    ((conv => whnf); repeat ((first | refine Br.t ?_ | refine Br.f ?_ | refine ob ?_ | refine ⟨_, rfl, ?_⟩ | refine ⟨_, _, rfl, ?_⟩ | refine ⟨_, _, _, rfl, ?_⟩ | refine ⟨_, _, _, _, rfl, ?_⟩ | simp only [e1, rr, w1]); (conv => whnf)))
    exact hK' _ _ (by omega) ⟨j + 1, rfl, by omega, rfl⟩
  · cases e1 : mailP m.ml with
    | false =>
      ((conv => whnf); repeat ((first | refine Br.t ?_ | refine Br.f ?_ | refine ob ?_ | refine ⟨_, rfl, ?_⟩ | refine ⟨_, _, rfl, ?_⟩ | refine ⟨_, _, _, rfl, ?_⟩ | refine ⟨_, _, _, _, rfl, ?_⟩ | simp only []); (conv => whnf)))
      refine ⟨.inr (.inr ⟨true, rfl, rfl⟩), hL.sml, fun h0 => ?_, fun h0 => absurd (h0.symm.trans e1) (by simp)⟩
      ((conv => whnf); repeat ((first | refine Br.t ?_ | refine Br.f ?_ | refine ob ?_ | refine ⟨_, rfl, ?_⟩ | refine ⟨_, _, rfl, ?_⟩ | refine ⟨_, _, _, rfl, ?_⟩ | refine ⟨_, _, _, _, rfl, ?_⟩ | simp only []); (conv => whnf)))
      refine ⟨.inr (.inr ⟨true, rfl, rfl⟩), hL.sml, hbd, fun h0 => ?_, fun h0 => absurd (h0.symm.trans e1) (by simp)⟩
      ((conv => whnf); repeat ((first | refine Br.t ?_ | refine Br.f ?_ | refine ob ?_ | refine ⟨_, rfl, ?_⟩ | refine ⟨_, _, rfl, ?_⟩ | refine ⟨_, _, _, rfl, ?_⟩ | refine ⟨_, _, _, _, rfl, ?_⟩ | simp only []); (conv => whnf)))
      refine ⟨.inr (.inr ⟨true, rfl, rfl⟩), hL.sml, fun h0 => ?_, fun h0 => absurd (h0.symm.trans e1) (by simp)⟩
      ((conv => whnf); repeat ((first | refine Br.t ?_ | refine Br.f ?_ | refine ob ?_ | refine ⟨_, rfl, ?_⟩ | refine ⟨_, _, rfl, ?_⟩ | refine ⟨_, _, _, rfl, ?_⟩ | refine ⟨_, _, _, _, rfl, ?_⟩ | simp only [rr]); (conv => whnf)))
      refine ⟨.inl ⟨rfl, rfl⟩, hbd, hfd, hrs, ?_⟩
      ((conv => whnf); repeat ((first | refine Br.t ?_ | refine Br.f ?_ | refine ob ?_ | refine ⟨_, rfl, ?_⟩ | refine ⟨_, _, rfl, ?_⟩ | refine ⟨_, _, _, rfl, ?_⟩ | refine ⟨_, _, _, _, rfl, ?_⟩ | simp only [e1, rr]); (conv => whnf)))
      refine ⟨.inr (.inr ⟨true, rfl, rfl⟩), hL.sml, ?_⟩
      ((conv => whnf); repeat ((first | refine Br.t ?_ | refine Br.f ?_ | refine ob ?_ | refine ⟨_, rfl, ?_⟩ | refine ⟨_, _, rfl, ?_⟩ | refine ⟨_, _, _, rfl, ?_⟩ | refine ⟨_, _, _, _, rfl, ?_⟩ | simp only [e1, rr, w1]); (conv => whnf)))
      exact hK' _ _ (by omega) ⟨j + 1, rfl, by omega, rfl⟩
    | true =>
      ((conv => whnf); repeat ((first | refine Br.t ?_ | refine Br.f ?_ | refine ob ?_ | refine ⟨_, rfl, ?_⟩ | refine ⟨_, _, rfl, ?_⟩ | refine ⟨_, _, _, rfl, ?_⟩ | refine ⟨_, _, _, _, rfl, ?_⟩ | simp only []); (conv => whnf)))
      refine ⟨.inr (.inr ⟨true, rfl, rfl⟩), hL.sml, fun h0 => absurd (h0.symm.trans e1) (by simp), fun h0 => ?_⟩
      ((conv => whnf); repeat ((first | refine Br.t ?_ | refine Br.f ?_ | refine ob ?_ | refine ⟨_, rfl, ?_⟩ | refine ⟨_, _, rfl, ?_⟩ | refine ⟨_, _, _, rfl, ?_⟩ | refine ⟨_, _, _, _, rfl, ?_⟩ | simp only []); (conv => whnf)))
      refine ⟨.inr (.inr ⟨true, rfl, rfl⟩), hL.sml, hbd, fun h0 => absurd (h0.symm.trans e1) (by simp), fun h0 => ?_⟩
      ((conv => whnf); repeat ((first | refine Br.t ?_ | refine Br.f ?_ | refine ob ?_ | refine ⟨_, rfl, ?_⟩ | refine ⟨_, _, rfl, ?_⟩ | refine ⟨_, _, _, rfl, ?_⟩ | refine ⟨_, _, _, _, rfl, ?_⟩ | simp only []); (conv => whnf)))
      refine ⟨.inr (.inr ⟨true, rfl, rfl⟩), hL.sml, fun h0 => absurd (h0.symm.trans e1) (by simp), fun h0 mv2 => ?_⟩
      ((conv => whnf); repeat ((first | refine Br.t ?_ | refine Br.f ?_ | refine ob ?_ | refine ⟨_, rfl, ?_⟩ | refine ⟨_, _, rfl, ?_⟩ | refine ⟨_, _, _, rfl, ?_⟩ | refine ⟨_, _, _, _, rfl, ?_⟩ | simp only [rr]); (conv => whnf)))
      refine ⟨.inl ⟨rfl, rfl⟩, hbd, hfd, hrs, ?_⟩
      ((conv => whnf); repeat ((first | refine Br.t ?_ | refine Br.f ?_ | refine ob ?_ | refine ⟨_, rfl, ?_⟩ | refine ⟨_, _, rfl, ?_⟩ | refine ⟨_, _, _, rfl, ?_⟩ | refine ⟨_, _, _, _, rfl, ?_⟩ | simp only [e1, rr]); (conv => whnf)))
      refine ⟨[0, 2], (.take 0 (.br 1 (.br 2 (.take 3 (.take 4 (.take 5 (.br 6 (.take 7 (.take 8 (.take 9 (.take 10 (.br 11 (.take 12 (.take 13 (.take 14 (.take 15 (.br 16 (.take 17 (.take 18 (.take 19 (.take 20 (.take 21 (.take 22 (.take 23 (.take 24 (.br 25 (.take 26 (.take 27 (.take 28 (.take 29 (.take 30 (.take 31 (.take 32 (.take 33 (.br 34 (.take 35 (.take 36 (.take 37 (.take 38 (.take 39 (.take 40 (.take 41 (.take 42 (.br 43 (.br 44 (.take 45 (.take 46 (.take 47 (.take 48 (.take 49 (.take 50 (.take 51 (.take 52 (.br 53 (.take 54 (.take 55 .done)) .nil))))))))) .nil) .nil))))))))) .nil))))))))) .nil))))))))) .nil))))) .nil))))) .nil)))) .nil) .nil)), by kernel_rfl, ?_⟩
      ((conv => whnf); repeat ((first | refine Br.t ?_ | refine Br.f ?_ | refine ob ?_ | refine ⟨_, rfl, ?_⟩ | refine ⟨_, _, rfl, ?_⟩ | refine ⟨_, _, _, rfl, ?_⟩ | refine ⟨_, _, _, _, rfl, ?_⟩ | simp only [e1, rr]); (conv => whnf)))
      have q1 : (overB m == overB m) = true := beq_self_eq_true _
      have q2 : ((m.body.size : Int) + 1000 != m.body.size + 1000) = false := bne_self_eq_false _
      have q3 : decide ((restMd m).ml = (restMd m).ml) = true := decide_eq_true rfl
      have q4 : decide (m.ml = m.ml) = true := decide_eq_true rfl
      have hl2 : (restMd m).rc.length ≤ big := by simp only [restMd, List.length_map]; exact hw.1
      refine ⟨.inr (.inr ⟨true, rfl, rfl⟩), hL.sml, ?_⟩
      ((conv => whnf); repeat ((first | refine Br.t ?_ | refine Br.f ?_ | refine ob ?_ | refine ⟨_, rfl, ?_⟩ | refine ⟨_, _, rfl, ?_⟩ | refine ⟨_, _, _, rfl, ?_⟩ | refine ⟨_, _, _, _, rfl, ?_⟩ | simp only [e1, rr]); (conv => whnf)))
      refine ⟨.inl ⟨rfl, rfl⟩, hw.1, ?_⟩
      ((conv => whnf); repeat ((first | refine Br.t ?_ | refine Br.f ?_ | refine ob ?_ | refine ⟨_, rfl, ?_⟩ | refine ⟨_, _, rfl, ?_⟩ | refine ⟨_, _, _, rfl, ?_⟩ | refine ⟨_, _, _, _, rfl, ?_⟩ | simp only [e1, rr, q1]); (conv => whnf)))
      refine ⟨.inl ⟨rfl, rfl⟩, by have := hL.body; omega, ?_⟩
      ((conv => whnf); repeat ((first | refine Br.t ?_ | refine Br.f ?_ | refine ob ?_ | refine ⟨_, rfl, ?_⟩ | refine ⟨_, _, rfl, ?_⟩ | refine ⟨_, _, _, rfl, ?_⟩ | refine ⟨_, _, _, _, rfl, ?_⟩ | simp only [e1, rr, q1, q2]); (conv => whnf)))
      refine ⟨.inl ⟨rfl, rfl⟩, hw.1, fun h2 => absurd h2 hz, fun _ mv3 => ?_⟩
      ((conv => whnf); repeat ((first | refine Br.t ?_ | refine Br.f ?_ | refine ob ?_ | refine ⟨_, rfl, ?_⟩ | refine ⟨_, _, rfl, ?_⟩ | refine ⟨_, _, _, rfl, ?_⟩ | refine ⟨_, _, _, _, rfl, ?_⟩ | simp only [e1, rr, q1, q2]); (conv => whnf)))
      refine ⟨restMd m, restMd m, .own 0, .own 1, [.own 45 RT (restMd m).rc true false], [.own 45 RT (restMd m).rc true false], rfl, .inr (.inr ⟨true, rfl, rfl⟩), .inr (.inr ⟨true, rfl, rfl⟩), rfl, hl2, hl2, ?_⟩
      ((conv => whnf); repeat ((first | refine Br.t ?_ | refine Br.f ?_ | refine ob ?_ | refine ⟨_, rfl, ?_⟩ | refine ⟨_, _, rfl, ?_⟩ | refine ⟨_, _, _, rfl, ?_⟩ | refine ⟨_, _, _, _, rfl, ?_⟩ | simp only [e1, rr, q1, q2, q3]); (conv => whnf)))
      refine ⟨m, m, .own 0, .sl RT m.rc, [.own 45 RT m.rc true false], [], rfl, .inr (.inr ⟨true, rfl, rfl⟩), .inl ⟨rfl, rfl⟩, rfl, hw.1, hw.1, ?_⟩
      ((conv => whnf); repeat ((first | refine Br.t ?_ | refine Br.f ?_ | refine ob ?_ | simp only [e1, rr, q1, q2, q3, q4]); (conv => whnf)))
      refine ⟨restMd m, .own 0, rfl, hl2, .inr ⟨true, rfl, rfl, ?_⟩⟩
      ((conv => whnf); repeat ((first | refine Br.t ?_ | refine Br.f ?_ | refine ob ?_ | refine ⟨_, rfl, ?_⟩ | refine ⟨_, _, rfl, ?_⟩ | refine ⟨_, _, _, rfl, ?_⟩ | refine ⟨_, _, _, _, rfl, ?_⟩ | simp only [e1, rr, q1, q2, q3, q4]); (conv => whnf)))
      refine ⟨[0], (.take 0 (.take 1 (.take 2 (.take 3 (.take 4 (.br 5 (.take 6 .done) .nil)))))), by kernel_rfl, ?_⟩
      ((conv => whnf); repeat ((first | refine Br.t ?_ | refine Br.f ?_ | refine ob ?_ | refine ⟨_, rfl, ?_⟩ | refine ⟨_, _, rfl, ?_⟩ | refine ⟨_, _, _, rfl, ?_⟩ | refine ⟨_, _, _, _, rfl, ?_⟩ | simp only [e1, rr, q1, q2, q3, q4]); (conv => whnf)))
      refine ⟨m, m, .own 0, .sl RT m.rc, [.own 45 RT m.rc true false], [], rfl, .inr (.inr ⟨true, rfl, rfl⟩), .inl ⟨rfl, rfl⟩, rfl, hw.1, hw.1, ?_⟩
      ((conv => whnf); repeat ((first | refine Br.t ?_ | refine Br.f ?_ | refine ob ?_ | refine ⟨_, rfl, ?_⟩ | refine ⟨_, _, rfl, ?_⟩ | refine ⟨_, _, _, rfl, ?_⟩ | refine ⟨_, _, _, _, rfl, ?_⟩ | simp only [e1, rr, q1, q2, q3, q4, w1]); (conv => whnf)))
      exact hK' _ _ (by omega) ⟨j + 1, rfl, by omega, rfl⟩
end Go.Proofs.YtbhejifllgnliaaGreatDoor.Ab
namespace Go.Proofs.YtbhejifllgnliaaGreatDoor.mailChecks
open Go Go.ChangeShapes Go.WideShapes Go.ChangeAt Go.RowKit Go.Proofs.YtbhejifllgnliaaGreatDoor.Ab
open Go.ChangeMaps (open_string shut_string)
set_option linter.unusedVariables false
set_option maxRecDepth 100000
theorem reads (os : Os) {H : Type} (enc : TypeId × Value → H) : ∃ places, DataW.whole enc Tryz.prog ((laidWorld os).forCall (fun _ _ => 0) ⟨#[], #[.slice none 0 0], []⟩).memory Tryz.f8.params.toList Rows.mailChecksSpec.vars false #[Value.slice none 0 0].toList 8 = some ([.nil], [], places) :=
  ⟨[], by kernel_rfl⟩
theorem contract (H : Type) (enc : TypeId × Value → H) (W : World) (base : Nat) (args : Array Value) (ds gs : List (DataW H)) (before : List MemPlace)
    (hval0 : ∀ (j : Nat) t v, Tryz.f8.params[j]? = some t → args[j]? = some v → Value.okWide Tryz.prog W .any base t v)
    (hW : DataW.Whole enc Tryz.prog Tryz.f8.params.toList Rows.mailChecksSpec.vars false W args.toList ds gs before) (hbk : Rows.uptoSmall H (ds ++ gs) = true)
    (hsz0 : (DataW.weightsEach Tryz.prog (Tryz.f8.params.toList ++ Rows.mailChecksSpec.plain.varTypes Tryz.prog) (ds ++ gs)).all (· ≤ reachBytes) = true)
    (hL : laidMetH Tryz.prog Rows.mailChecksUptoRow.laid W) (hsh : W.ShapedOpen Tryz.prog) :
    Calls Tryz.prog 8 args W fun e W' => ∃ v, e = .returned v ∧ Rows.mailChecksSpec.post enc Tryz.prog Tryz.f8 false true false false W args v W' := by
  have hval : ∀ (j : Nat) t v, Tryz.f8.params[j]? = some t → args[j]? = some v → Value.okWide Tryz.prog W .any base t v := hval0
  have hsz := hsz0
  have hW' := hW
  have hbound : Rows.uptoBulkAll (ds ++ gs) ≤ 1048576 := of_decide_eq_true hbk
  obtain ⟨p, q, hA0, hV, rfl, hfz, hnd⟩ := hW
  have hA : DataW.TrodAll enc Tryz.prog W 0 (fun _ => true) true Tryz.f8.params.toList args.toList ds p := hA0
  rw [Tryz.params8] at hA hval hsz
  obtain ⟨v0, vs0, d0, ds0, p0, q0, hargs, rfl, rfl, h0, r0⟩ := trodAll_cons hA
  obtain ⟨rfl, rfl, rfl⟩ := trodAll_nil r0
  obtain rfl : args = #[v0] := by cases args; simp_all
  obtain ⟨rfl, rfl⟩ := trodVars_none hV
  have k0 := h0
  have lt0 : ∀ x ∈ p0, x.block < W.heap.size := by obtain ⟨m, hm⟩ := k0; exact DataW.trod_lt m _ _ _ hm
  have hw0 : ∀ n ∈ d0.weights Tryz.prog 56, n ≤ reachBytes := fun n hn => by
    have := List.all_eq_true.1 hsz _ (DataW.weights_mem_each (j := 0) (t := 56) (d := d0) rfl rfl n hn)
    simpa using this
  have hb0 : Rows.uptoBulk d0 ≤ bulkB := Nat.le_trans (bulk_part (by simp)) hbound
  obtain ⟨a0, len0, cap0, rfl⟩ := okWide_slice Tryz.underlying56 (hval 0 56 v0 rfl rfl)
  obtain ⟨fuel0, hf0⟩ := h0
  obtain ⟨x0, hT, hwf0⟩ := opb56.op hf0 hw0 hb0
  obtain ⟨A0, c0, hcs0, hle0, hC0⟩ := hT
  simp only [Value.cells, List.cons.injEq, Value.slice.injEq, and_true] at hcs0
  obtain ⟨rfl, rfl, rfl⟩ := hcs0
  refine (ok8.top (Gr.of_laid hsh hL).gnd (ags := [.one (.sl MT x0)]) (vs := [.slice a0 x0.length cap0]) (K := fun o => o = .ret (.one (.bool true))) ⟨⟨a0, cap0, rfl, hle0, hC0⟩, trivial⟩ ⟨x0, rfl, rfl, Nat.le_trans hwf0.1 (by decide), hwf0.2, rfl, rfl⟩).mono ?_
  rintro e W' ⟨bel, out, rfl, v, rfl, rfl⟩
  exact ⟨_, rfl, _, _, _, [], _, [], hW', trodAll_mk1 (shut_bool Tryz.underlying4 _), (trodAll_cons_mk (Below.trod laidOut (by kernel_rfl) (of_decide_eq_true (by kernel_rfl)) k0 bel lt0) trodAll_mk0), rfl, bel.frame _, fun h => by cases h⟩
theorem lifted (os : Os) (started : os.Started) (H : Type) (enc : TypeId × Value → H) (F : Stop.Interp) :
    ReturnsInHanded {} Tryz.checked os 8 .any ((Rows.OpenSpec.upto Rows.mailChecksSpec).preRow enc Tryz.prog Tryz.f8 Rows.mailChecksUptoRow.domain false Rows.mailChecksUptoRow.laid) (((Rows.OpenSpec.upto Rows.mailChecksSpec).at F).post enc Tryz.prog Tryz.f8 false true false false) := by
  obtain ⟨places, hx⟩ := reads os enc
  refine returnsInHanded_of_row (C := Tryz.checked) (s := Rows.OpenSpec.upto Rows.mailChecksSpec) own started (by kernel_rfl) Tryz.func8
    (witness_row_atRef (enc := enc) (C := Tryz.checked) false (laidWorld os) #[.slice none 0 0] rfl (by kernel_rfl) (by kernel_rfl) (by kernel_rfl)
      (OpenSpec.preRow_of_cond 8 hx (by kernel_rfl) (fun k hk => by cases hk; kernel_rfl) (by kernel_rfl) (door_met os _))) ?_
  intro W base args ds gs before hval hW _ hcond hsz hL hsh _
  exact contract H enc W base args ds gs before hval hW (hcond _ rfl) hsz hL hsh
theorem said : Rows.MailChecksUptoSaid :=
  OpenClaim.holds_of_cond 8 Tryz.f8 rfl rfl rfl rfl rfl rfl rfl ⟨rfl, rfl, rfl, rfl, rfl⟩ rfl rfl rfl rfl rfl (by kernel_rfl) Tryz.func8 (by kernel_rfl)
    (of_decide_eq_true (by kernel_rfl)) (by unfold Func.isWrapper; first | (rw [if_pos (by decide +kernel)]; kernel_rfl) | (rw [if_neg (by decide +kernel)]; exact ⟨rfl, rfl⟩))
    (fun os started H enc _ F => by rw [OpenClaim.pre_eq_preRow]; exact lifted os started H enc F)
/-- No parameter wants a stand-in; the program's own looks are off: what the card asks. -/
theorem plain (f : FuncId) (fn : Func) (hf : Tryz.pinned.checked.prog.funcNamed "pouch/pouchlaw15.MailChecks" = some f) (hfn : Tryz.pinned.checked.prog.funcs[f]? = some fn) :
    true = Tryz.pinned.checked.prog.looks [] ∧ ∀ (j : Nat) t, fn.params[j]? = some t → Tryz.pinned.checked.prog.wantsStandIn t = false := by
  obtain rfl : f = 8 := Option.some.inj ((show Tryz.prog.funcNamed "pouch/pouchlaw15.MailChecks" = some 8 by kernel_rfl).symm.trans hf) |>.symm
  obtain rfl : fn = Tryz.f8 := (Option.some.inj (Tryz.func8.symm.trans hfn)).symm
  refine ⟨by kernel_rfl, fun j t ht => ?_⟩
  rw [Tryz.params8] at ht
  obtain rfl : t = 56 := by simpa using Array.mem_of_getElem? ht
  exact (show Tryz.prog.wantsStandIn 56 = false by kernel_rfl)
theorem card : Rows.MailChecksUptoCardSaid :=
  Claim7.holds_tied_plain_at .later [] _ _ _ _ said (fun _ h => by cases h) (by kernel_rfl) (fun _ h => by cases h) mailChecksUpto_row_tie rfl ⟨rfl, rfl⟩ (by kernel_rfl) rfl plain (by kernel_rfl)
end Go.Proofs.YtbhejifllgnliaaGreatDoor.mailChecks
namespace Go.Proofs.YtbhejifllgnliaaGreatDoor
/-- The statement, under a short name, for the claim. -/
theorem mailChecks_holds : Rows.MailChecksUptoCardSaid := mailChecks.card
end Go.Proofs.YtbhejifllgnliaaGreatDoor
