/- Part 10 of 11 of the texts that the sender's rows rest on, put together by a program; no condition. -/
import Derived.Test.YtilagaapfbfkkaaGreatDoorZB9
import Derived.Test.YtilagaapfbfkkaaGreatDoorZB7
import Derived.Test.YtilagaapfbfkkaaGreatDoorZB8
import Derived.Test.YtilagaapfbfkkaaGreatDoorZB6
set_option maxHeartbeats 128000000
set_option linter.unusedSimpArgs false
set_option linter.unusedVariables false
namespace Go.Proofs.YtilagaapfbfkkaaGreatDoor.Ab
open Go Go.RowKit Go.Proofs.YtilagaapfbfkkaaGreatDoorW.PrintWords
set_option maxRecDepth 100000
variable {G : World → Prop}
theorem ris_mono {m m' : Int} (h : m ≤ m') : ∀ {l : List Int} {p : Option Int}, risF m p l = true → risF m' p l = true
  | [], _, _ => rfl
  | x :: l, p, hr => by
    rw [risF_cons, Bool.and_eq_true, Bool.and_eq_true, Bool.and_eq_true] at hr ⊢
    obtain ⟨⟨h1, h2⟩, h3, h4⟩ := hr
    simp only [decide_eq_true_eq] at h2
    exact ⟨⟨h1, decide_eq_true (by omega)⟩, h3, ris_mono h h4⟩
theorem ris_last {m a : Int} : ∀ {l : List Int} {p : Option Int}, risF m p l = true → ∀ {z : Int}, l.getLast? = some z → risF a p l = decide (z < a)
  | x :: l, p, hr, z, hz => by
    rw [risF_cons, Bool.and_eq_true, Bool.and_eq_true, Bool.and_eq_true] at hr
    obtain ⟨⟨h1, h2⟩, h3, h4⟩ := hr
    simp only [decide_eq_true_eq] at h1 h2
    rw [risF_cons, decide_eq_true h1, h3, Bool.true_and, Bool.true_and]
    cases l with
    | nil =>
      simp only [List.getLast?_singleton, Option.some.injEq] at hz
      subst hz
      rw [show risF a (some x) [] = true from rfl, Bool.and_true]
      by_cases h5 : x < a
      · rw [decide_eq_true h5, decide_eq_true (by omega)]
      · rw [decide_eq_false h5, decide_eq_false (by omega)]
    | cons y l =>
      have hz' : (y :: l).getLast? = some z := by rw [List.getLast?_cons_cons] at hz; exact hz
      rw [ris_last h4 hz']
      by_cases h5 : z < a
      · have h6 : x < z := ris_lt h4 hz'
        rw [decide_eq_true h5, decide_eq_true (by omega)]; rfl
      · rw [decide_eq_false h5, Bool.and_false]
where
  ris_lt {m : Int} : ∀ {l : List Int} {x : Int}, risF m (some x) l = true → ∀ {z : Int}, l.getLast? = some z → x < z
    | y :: l, x, hr, z, hz => by
      rw [risF_cons] at hr
      simp only [Bool.and_eq_true] at hr
      obtain ⟨_, h3, h4⟩ := hr
      simp only [prevB, decide_eq_true_eq] at h3
      cases l with
      | nil => simp only [List.getLast?_singleton, Option.some.injEq] at hz; omega
      | cons w l =>
        have := ris_lt h4 (z := z) (by rw [List.getLast?_cons_cons] at hz; exact hz)
        omega
def Γ68q : Sems := ext 24 s18 (ext 39 s43 (ext 113 q49 (ext 114 q50 (ext 115 q115 (Γ0)))))
theorem Γ68q.ok : SemsOK Gr Tryz.prog Γ68q := (((((Γ0.ok.ext Tryz.func115 rfl (by decide) qk115).ext Tryz.func114 rfl (by decide) qk114).ext Tryz.func113 rfl (by decide) qk113).ext Tryz.func39 rfl (by decide) ok43).ext Tryz.func24 rfl (by decide) ok18)
def placeD (s : Sd) : Bool :=
  if s.st = 3 then (decide (0 ≤ s.at_) && decide (s.at_ ≤ (s.rc.length : Int) - 1)) && (((s.tk.length : Int) == 0) || decide ((s.tk.getLast?.getD 0) < s.at_))
  else if s.st = 4 then (s.at_ == 0) && decide ((s.tk.length : Int) > 0)
  else if s.st = 5 then decide ((s.tk.length : Int) > 0) && ((s.at_ == 0) || (s.lm && (decide (0 ≤ s.at_) && decide (s.at_ ≤ (s.tk.length : Int) - 1))))
  else (s.at_ == 0) && ((s.tk.length : Int) == 0)
theorem place_eq (s : Sd) : placeP s = (risB s.tk s.rc.length && placeD s) := by
  unfold placeP placeD
  by_cases h3 : s.st = 3
  · rw [if_pos h3, if_pos h3]
    cases ha : (decide (0 ≤ s.at_) && decide (s.at_ ≤ (s.rc.length : Int) - 1)) with
    | false => rw [Bool.false_and, Bool.false_and, Bool.and_false]
    | true =>
      simp only [Bool.and_eq_true, decide_eq_true_eq] at ha
      rw [Bool.true_and, Bool.true_and]
      cases hr : risB s.tk s.rc.length with
      | false =>
        cases hq : risB s.tk s.at_ with
        | false => rfl
        | true => rw [risB, ris_mono (by omega) hq] at hr; cases hr
      | true =>
        rw [Bool.true_and]
        cases ht : s.tk.getLast? with
        | none =>
          have : s.tk = [] := by simpa using ht
          rw [this]; rfl
        | some z =>
          have h0 : ¬ s.tk.length = 0 := fun h => by rw [List.length_eq_zero_iff.1 h] at ht; cases ht
          have h1 : ((s.tk.length : Int) == 0) = false := by simpa using h0
          rw [risB, ris_last hr ht, h1, Bool.false_or]; rfl
  rw [if_neg h3, if_neg h3]
  by_cases h4 : s.st = 4
  · rw [if_pos h4, if_pos h4]
    cases (s.at_ == 0) <;> cases decide ((s.tk.length : Int) > 0) <;> cases risB s.tk (s.rc.length : Int) <;> rfl
  rw [if_neg h4, if_neg h4]
  by_cases h5 : s.st = 5
  · rw [if_pos h5, if_pos h5]
    generalize ((s.at_ == 0) || (s.lm && (decide (0 ≤ s.at_) && decide (s.at_ ≤ (s.tk.length : Int) - 1)))) = u
    cases decide ((s.tk.length : Int) > 0) <;> cases risB s.tk (s.rc.length : Int) <;> cases u <;> rfl
  rw [if_neg h5, if_neg h5]
  by_cases h0 : s.tk = []
  · rw [h0]; simp [risB, risF]
  · have h1 : ((s.tk.length : Int) == 0) = false := by
      have := List.length_pos_iff.2 h0
      simp; exact h0
    rw [h1, Bool.and_false, Bool.and_false]
def q68 : Sense := ⟨false, fun os xs K => ∃ (s : Sd) (m : Md), xs = [.agg s.fz, .agg (m.cs (.sl RT m.rc))] ∧ os = [] ∧ s.fit ∧ (m.body.size ≤ big ∧ m.fd.size ≤ big ∧ (∀ r ∈ m.rc, r.1.2.size ≤ big) ∧ m.rc.length ≤ big) ∧ K [] (.ret (.one (.bool (mailP m.ml && maySd s m))))⟩
theorem qk68 : SenseOK Gr Tryz.prog 68 q68 := SenseOK.any Γ68q.ok (fun n => match n with | 5 => [2, 5, 6] | 10 => [2, 5, 7] | _ => []) Tryz.func68 fun os xs K h => by
  obtain ⟨s, m, rfl, rfl, ⟨hs, hd, hre, hln⟩, ⟨hb1, hb2, hb3, hm⟩, hk⟩ := h
  have hs' := hs
  obtain ⟨l0, l1, l2, l3⟩ := hs'
  have hj : s.jb.sml := ⟨l0, hd⟩
  have l0' := l0
  have l1' := l1
  have l2' := l2
  have l3' := l3
  simp only [big] at l0' l1' l2' l3'
  have hk' : ∀ b, (mailP m.ml && maySd s m) = b → K [] (.ret (.one (.bool b))) := fun b h => h ▸ hk
  clear hk
  unfold maySd at hk'
  rw [place_eq] at hk'
  refine zy ?_
  refine ⟨m, .sl RT m.rc, rfl, .inl ⟨rfl, rfl⟩, hb1, hb2, hb3, ?_⟩
  cases g1 : mailP m.ml with
  | false =>
    rw [g1] at hk'
    refine zs1 g1 ?_
    exact hk' _ rfl
  | true =>
  rw [g1, Bool.true_and] at hk'
  by_cases a1 : s.id < 1
  · have f1 : decide (s.id < 1) = true := decide_eq_true a1
    rw [decide_eq_false (show ¬ 1 ≤ s.id by omega)] at hk'
    refine zs2 g1 f1 ?_
    exact hk' _ rfl
  have f1 : decide (s.id < 1) = false := decide_eq_false a1
  rw [decide_eq_true (show 1 ≤ s.id by omega), Bool.true_and] at hk'
  by_cases a2 : s.id > 1099511627776
  · have f2 : decide (s.id > 1099511627776) = true := decide_eq_true a2
    rw [decide_eq_false (show ¬ s.id ≤ 1099511627776 by omega)] at hk'
    refine zs3 g1 f1 f2 ?_
    exact hk' _ rfl
  have f2 : decide (s.id > 1099511627776) = false := decide_eq_false a2
  rw [decide_eq_true (show s.id ≤ 1099511627776 by omega), Bool.true_and] at hk'
  refine zs3 g1 f1 f2 ?_
  refine ⟨s.jb, m, rfl, trr, hj, hm, ?_⟩
  cases g3 : jobP s.jb m with
  | false =>
    rw [g3] at hk'
    refine zs1 g3 ?_
    exact hk' _ rfl
  | true =>
  rw [g3, Bool.true_and] at hk'
  by_cases a4 : s.st < 0
  · have f4 : decide (s.st < 0) = true := decide_eq_true a4
    rw [decide_eq_false (show ¬ 0 ≤ s.st by omega)] at hk'
    refine zs2 g3 f4 ?_
    exact hk' _ rfl
  have f4 : decide (s.st < 0) = false := decide_eq_false a4
  rw [decide_eq_true (show 0 ≤ s.st by omega), Bool.true_and] at hk'
  by_cases a5 : s.st > 7
  · have f5 : decide (s.st > 7) = true := decide_eq_true a5
    rw [decide_eq_false (show ¬ s.st ≤ 7 by omega)] at hk'
    refine zs3 g3 f4 f5 ?_
    exact hk' _ rfl
  have f5 : decide (s.st > 7) = false := decide_eq_false a5
  rw [decide_eq_true (show s.st ≤ 7 by omega), Bool.true_and] at hk'
  cases g6 : ((s.cd.length : Int) == s.rc.length) with
  | false =>
    have f6 : ((s.cd.length : Int) != s.rc.length) = true := by rw [bne, g6]; rfl
    rw [g6, Bool.false_and, Bool.and_false] at hk'
    refine zs4 g3 f4 f5 f6 ?_
    exact hk' _ rfl
  | true =>
  have f6 : ((s.cd.length : Int) != s.rc.length) = false := by rw [bne, g6]; rfl
  have e6 : s.cd.length = s.rc.length := by
    have : (s.cd.length : Int) = s.rc.length := by simpa using g6
    omega
  rw [g6, Bool.true_and] at hk'
  cases g7 : (decide (0 ≤ s.wt) && decide (s.wt ≤ 100)) with
  | false =>
    rw [g7] at hk'
    refine zs5 g3 f4 f5 f6 g7 ?_
    exact hk' _ rfl
  | true =>
  rw [g7, Bool.true_and] at hk'
  cases g8 : fmP (bl s.rest) s.skip with
  | false =>
    rw [g8] at hk'
    refine zs6 g3 f4 f5 f6 g7 g8 ?_
    exact hk' _ rfl
  | true =>
  rw [g8, Bool.true_and] at hk'
  have hk1 : ∀ b, (!(s.cd.drop 0).any badK && ((risAt s.rc.length s.tk 0 && placeD s) && lnsP s.ln)) = b → K [] (.ret (.one (.bool b))) := hk'
  clear hk' g1 a1 f1 a2 f2
  refine zs6 g3 f4 f5 f6 g7 g8 ?_
  refine iter_of (I := fun k σ => ∃ (i : Nat), k = s.rc.length - i ∧ i ≤ s.rc.length ∧ (s.cd.drop 0).any badK = (s.cd.drop i).any badK ∧ σ = ⟨slots 194 [(2, .one (.ref 0 0)), (5, .one (.int .i64 s.rc.length)), (6, .one (.int .i64 i))], [.box 43 s.fz]⟩) ?_ s.rc.length ⟨0, by omega, by omega, rfl, rfl⟩
  rintro k σ K' ⟨i, rfl, hi, hr, rfl⟩ hK'
  have w1 := IntWalk.i64_in ((i : Int) + 1) (by omega)
  by_cases g9 : i < s.rc.length
  case pos =>
    have e1 : decide ((i : Int) < s.rc.length) = true := decide_eq_true (by omega)
    obtain ⟨x, hx⟩ : ∃ x, s.cd[i]? = some x := ⟨_, List.getElem?_eq_getElem (by omega)⟩
    have rr := nth_of hx IT.dflt
    have ii : (0 : Int) ≤ i ∧ (i : Int) < s.cd.length := ⟨by omega, by omega⟩
    rw [int_drop hx, List.any_cons, badK] at hr
    cases hc : (decide (0 ≤ x) && decide (x ≤ 599)) with
    | false =>
      rw [hc] at hr
      rw [hr] at hk1
      refine zs3 e1 rr hc ?_
      exact hk1 _ rfl
    | true =>
      rw [hc] at hr
      refine zs4 e1 rr hc w1 ?_
      exact hK' _ _ (by omega) ⟨i + 1, rfl, by omega, hr, rfl⟩
  have e1 : decide ((i : Int) < s.rc.length) = false := decide_eq_false (by omega)
  rw [List.drop_of_length_le (show s.cd.length ≤ i by omega)] at hr
  rw [hr] at hk1
  have hk2 : ∀ b, ((risAt s.rc.length s.tk 0 && placeD s) && lnsP s.ln) = b → K [] (.ret (.one (.bool b))) := fun b h => hk1 b h
  clear hk1 hr hK' w1
  refine zs1 e1 ?_
  refine iter_of (I := fun k σ => ∃ (i : Nat), k = s.tk.length - i ∧ i ≤ s.tk.length ∧ risAt s.rc.length s.tk 0 = risAt s.rc.length s.tk i ∧ σ = ⟨slots 194 [(2, .one (.ref 0 0)), (5, .one (.int .i64 s.rc.length)), (7, .one (.int .i64 i))], [.box 43 s.fz]⟩) ?_ s.tk.length ⟨0, by omega, by omega, rfl, rfl⟩
  clear e1 g9 hi i
  have wm : IntKind.i64.wrap ((s.rc.length : Int) - 1) = (s.rc.length : Int) - 1 := IntWalk.i64_in _ (by omega)
  rintro k σ K' ⟨i, rfl, hi, hr, rfl⟩ hK'
  have w1 := IntWalk.i64_in ((i : Int) + 1) (by omega)
  by_cases g9 : i < s.tk.length
  case pos =>
    have e1 : decide ((i : Int) < s.tk.length) = true := decide_eq_true (by omega)
    obtain ⟨x, hx⟩ : ∃ x, s.tk[i]? = some x := ⟨_, List.getElem?_eq_getElem g9⟩
    have rr := nth_of hx IT.dflt
    have ii : (0 : Int) ≤ i ∧ (i : Int) < s.tk.length := ⟨by omega, by omega⟩
    rw [risAt_next hx] at hr
    refine zs3 e1 rr wm ?_
    refine ⟨[], (.take 0 (.take 1 (.take 2 (.take 3 (.take 4 (.take 5 (.take 6 (.br 7 (.take 8 (.take 9 (.take 10 (.take 11 (.take 12 (.take 13 (.take 14 (.take 15 (.take 16 (.take 17 (.take 18 (.take 19 (.take 20 (.take 21 (.take 22 (.take 23 (.take 24 (.take 25 (.take 26 .done))))))))))))))))))) .nil)))))))), ⟨by kernel_rfl⟩, ?_⟩
    cases hc : (decide (0 ≤ x) && decide (x ≤ (s.rc.length : Int) - 1)) with
    | false =>
      rw [hc] at hr
      rw [hr] at hk2
      refine zs3 rr wm hc ?_
      exact hk2 _ rfl
    | true =>
    rw [hc, Bool.true_and] at hr
    by_cases i0 : i = 0
    · subst i0
      have f2 : decide (((0 : Nat) : Int) > 0) = false := decide_eq_false (by omega)
      refine zs5 rr wm hc f2 w1 ?_
      exact hK' _ _ (by omega) ⟨1, rfl, by omega, hr, rfl⟩
    have f2 : decide ((i : Int) > 0) = true := decide_eq_true (by omega)
    have wj : IntKind.i64.wrap ((i : Int) - 1) = ((i - 1 : Nat) : Int) := by rw [IntWalk.i64_in _ (by omega)]; omega
    obtain ⟨y, hy⟩ : ∃ y, s.tk[i - 1]? = some y := ⟨_, List.getElem?_eq_getElem (by omega)⟩
    have ry := nth_of hy IT.dflt
    have ij : (0 : Int) ≤ ((i - 1 : Nat) : Int) ∧ ((i - 1 : Nat) : Int) < s.tk.length := ⟨by omega, by omega⟩
    rw [ris_prev (by omega) (by omega), hy, prevB] at hr
    by_cases hyx : y ≥ x
    · have f3 : decide (y ≥ x) = true := decide_eq_true hyx
      rw [decide_eq_false (show ¬ y < x by omega), Bool.false_and] at hr
      rw [hr] at hk2
      refine zs7 rr wm hc f2 wj ry f3 ?_
      exact hk2 _ rfl
    · have f3 : decide (y ≥ x) = false := decide_eq_false hyx
      rw [decide_eq_true (show y < x by omega), Bool.true_and] at hr
      refine zs8 rr wm hc f2 wj ry f3 w1 ?_
      exact hK' _ _ (by omega) ⟨i + 1, rfl, by omega, hr, rfl⟩
  have e1 : decide ((i : Int) < s.tk.length) = false := decide_eq_false (by omega)
  rw [risAt.eq_def _ _ i, List.drop_of_length_le (by omega), risF] at hr
  rw [hr, Bool.true_and] at hk2
  clear hr hK' w1
  have hkF : placeD s = false → K [] (.ret (.one (.bool false))) := fun h => hk2 _ (by rw [h]; rfl)
  have hkT : placeD s = true → ∀ b, lnsP s.ln = b → K [] (.ret (.one (.bool b))) := fun h b hb => hk2 _ (by rw [h, hb]; rfl)
  clear hk2
  by_cases h3 : s.st = 3
  · have e3 : (s.st == 3) = true := by simpa using h3
    cases hc : (decide (0 ≤ s.at_) && decide (s.at_ ≤ (s.rc.length : Int) - 1)) with
    | false =>
      refine zs3 e1 e3 wm ?_
      refine ⟨[], (.take 0 (.take 1 (.take 2 (.take 3 (.br 4 (.take 5 (.take 6 (.take 7 (.take 8 (.take 9 (.take 10 (.take 11 (.take 12 (.take 13 (.take 14 (.take 15 (.take 16 (.take 17 (.take 18 (.take 19 (.take 20 .done)))))))))))))))) .nil))))), ⟨by kernel_rfl⟩, ?_⟩
      refine zs2 wm hc ?_
      exact hkF (by unfold placeD; rw [if_pos h3, hc]; rfl)
    | true =>
    cases k0 : ((s.tk.length : Int) == 0) with
    | true =>
      have hp : placeD s = true := by unfold placeD; rw [if_pos h3, hc, k0]; rfl
      refine zs3 e1 e3 wm ?_
      refine ⟨[], (.take 0 (.take 1 (.take 2 (.take 3 (.br 4 (.take 5 (.take 6 (.take 7 (.take 8 (.take 9 (.take 10 (.take 11 (.take 12 (.take 13 (.take 14 (.take 15 (.take 16 (.take 17 (.take 18 (.take 19 (.take 20 .done)))))))))))))))) .nil))))), ⟨by kernel_rfl⟩, ?_⟩
      cases n0 : ((s.ln.length : Int) == 0) with
      | true =>
        have z0 : s.ln.length = 0 := by simpa using n0
        have n1 : decide ((s.ln.length : Int) > 15) = false := decide_eq_false (by omega)
        have n2 : decide ((s.ln.length : Int) > 0) = false := decide_eq_false (by omega)
        refine zs5 wm hc k0 n1 n2 ?_
        exact hkT hp _ (by rw [lnsP, n0]; rfl)
      | false =>
      have z0 : ¬ s.ln.length = 0 := by simpa using n0
      by_cases n3 : (s.ln.length : Int) > 15
      · have n1 : decide ((s.ln.length : Int) > 15) = true := decide_eq_true n3
        refine zs4 wm hc k0 n1 ?_
        exact hkT hp _ (by rw [lnsP, n0, decide_eq_false (show ¬ (s.ln.length : Int) < 16 by omega)]; rfl)
      have n1 : decide ((s.ln.length : Int) > 15) = false := decide_eq_false n3
      have n2 : decide ((s.ln.length : Int) > 0) = true := decide_eq_true (by omega)
      have n4 : lnsP s.ln = ((rpParse (s.ln.map bl)).1 == 7) := by rw [lnsP, n0, decide_eq_true (show (s.ln.length : Int) < 16 by omega)]; rfl
      refine zs5 wm hc k0 n1 n2 ?_
      refine ⟨fun g => ?_, fun g => ?_, fun c g T mv => ?_⟩
      all_goals
        rw [g] at n4
        refine zs0 ?_
        exact hkT hp _ n4
    | false =>
    have z1 : ¬ s.tk.length = 0 := by simpa using k0
    have wz : IntKind.i64.wrap ((s.tk.length : Int) - 1) = ((s.tk.length - 1 : Nat) : Int) := by rw [IntWalk.i64_in _ (by omega)]; omega
    obtain ⟨z, hz⟩ : ∃ z, s.tk[s.tk.length - 1]? = some z := ⟨_, List.getElem?_eq_getElem (by omega)⟩
    have rz := nth_of hz IT.dflt
    have iz : (0 : Int) ≤ ((s.tk.length - 1 : Nat) : Int) ∧ ((s.tk.length - 1 : Nat) : Int) < s.tk.length := ⟨by omega, by omega⟩
    have hl : placeD s = decide (z < s.at_) := by unfold placeD; rw [if_pos h3, hc, k0, List.getLast?_eq_getElem?, hz]; rfl
    cases zz : decide (z < s.at_) with
    | false =>
      refine zs3 e1 e3 wm ?_
      refine ⟨[], (.take 0 (.take 1 (.take 2 (.take 3 (.br 4 (.take 5 (.take 6 (.take 7 (.take 8 (.take 9 (.take 10 (.take 11 (.take 12 (.take 13 (.take 14 (.take 15 (.take 16 (.take 17 (.take 18 (.take 19 (.take 20 .done)))))))))))))))) .nil))))), ⟨by kernel_rfl⟩, ?_⟩
      refine zs6 wm hc k0 wz rz zz ?_
      exact hkF (by rw [hl, zz])
    | true =>
      have hp : placeD s = true := by rw [hl, zz]
      refine zs3 e1 e3 wm ?_
      refine ⟨[], (.take 0 (.take 1 (.take 2 (.take 3 (.br 4 (.take 5 (.take 6 (.take 7 (.take 8 (.take 9 (.take 10 (.take 11 (.take 12 (.take 13 (.take 14 (.take 15 (.take 16 (.take 17 (.take 18 (.take 19 (.take 20 .done)))))))))))))))) .nil))))), ⟨by kernel_rfl⟩, ?_⟩
      cases n0 : ((s.ln.length : Int) == 0) with
      | true =>
        have z0 : s.ln.length = 0 := by simpa using n0
        have n1 : decide ((s.ln.length : Int) > 15) = false := decide_eq_false (by omega)
        have n2 : decide ((s.ln.length : Int) > 0) = false := decide_eq_false (by omega)
        refine zs8 wm hc k0 wz rz zz n1 n2 ?_
        exact hkT hp _ (by rw [lnsP, n0]; rfl)
      | false =>
      have z0 : ¬ s.ln.length = 0 := by simpa using n0
      by_cases n3 : (s.ln.length : Int) > 15
      · have n1 : decide ((s.ln.length : Int) > 15) = true := decide_eq_true n3
        refine zs7 wm hc k0 wz rz zz n1 ?_
        exact hkT hp _ (by rw [lnsP, n0, decide_eq_false (show ¬ (s.ln.length : Int) < 16 by omega)]; rfl)
      have n1 : decide ((s.ln.length : Int) > 15) = false := decide_eq_false n3
      have n2 : decide ((s.ln.length : Int) > 0) = true := decide_eq_true (by omega)
      have n4 : lnsP s.ln = ((rpParse (s.ln.map bl)).1 == 7) := by rw [lnsP, n0, decide_eq_true (show (s.ln.length : Int) < 16 by omega)]; rfl
      refine zs8 wm hc k0 wz rz zz n1 n2 ?_
      refine ⟨fun g => ?_, fun g => ?_, fun c g T mv => ?_⟩
      all_goals
        rw [g] at n4
        refine zs0 ?_
        exact hkT hp _ n4
  have e3 : (s.st == 3) = false := by simpa using h3
  by_cases h4 : s.st = 4
  · have e4 : (s.st == 4) = true := by simpa using h4
    have hl : placeD s = ((s.at_ == 0) && decide ((s.tk.length : Int) > 0)) := by unfold placeD; rw [if_neg h3, if_pos h4]
    cases a0 : (s.at_ == 0) with
    | false =>
      refine zs4 e1 e3 e4 a0 ?_
      exact hkF (by rw [hl, a0]; rfl)
    | true =>
    cases k0 : decide ((s.tk.length : Int) > 0) with
    | false =>
      refine zs5 e1 e3 e4 a0 k0 ?_
      exact hkF (by rw [hl, a0, k0]; rfl)
    | true =>
      have hp : placeD s = true := by rw [hl, a0, k0]; rfl
      cases n0 : ((s.ln.length : Int) == 0) with
      | true =>
        have z0 : s.ln.length = 0 := by simpa using n0
        have n1 : decide ((s.ln.length : Int) > 15) = false := decide_eq_false (by omega)
        have n2 : decide ((s.ln.length : Int) > 0) = false := decide_eq_false (by omega)
        refine zs7 e1 e3 e4 a0 k0 n1 n2 ?_
        exact hkT hp _ (by rw [lnsP, n0]; rfl)
      | false =>
      have z0 : ¬ s.ln.length = 0 := by simpa using n0
      by_cases n3 : (s.ln.length : Int) > 15
      · have n1 : decide ((s.ln.length : Int) > 15) = true := decide_eq_true n3
        refine zs6 e1 e3 e4 a0 k0 n1 ?_
        exact hkT hp _ (by rw [lnsP, n0, decide_eq_false (show ¬ (s.ln.length : Int) < 16 by omega)]; rfl)
      have n1 : decide ((s.ln.length : Int) > 15) = false := decide_eq_false n3
      have n2 : decide ((s.ln.length : Int) > 0) = true := decide_eq_true (by omega)
      have n4 : lnsP s.ln = ((rpParse (s.ln.map bl)).1 == 7) := by rw [lnsP, n0, decide_eq_true (show (s.ln.length : Int) < 16 by omega)]; rfl
      refine zs7 e1 e3 e4 a0 k0 n1 n2 ?_
      refine ⟨fun g => ?_, fun g => ?_, fun c g T mv => ?_⟩
      all_goals
        rw [g] at n4
        refine zs0 ?_
        exact hkT hp _ n4
  have e4 : (s.st == 4) = false := by simpa using h4
  by_cases h5 : s.st = 5
  · have e5 : (s.st == 5) = true := by simpa using h5
    have wz : IntKind.i64.wrap ((s.tk.length : Int) - 1) = (s.tk.length : Int) - 1 := IntWalk.i64_in _ (by omega)
    have hl : placeD s = (decide ((s.tk.length : Int) > 0) && ((s.at_ == 0) || (s.lm && (decide (0 ≤ s.at_) && decide (s.at_ ≤ (s.tk.length : Int) - 1))))) := by unfold placeD; rw [if_neg h3, if_neg h4, if_pos h5]
    cases k0 : decide ((s.tk.length : Int) > 0) with
    | false =>
      refine zs5 e1 e3 e4 e5 k0 ?_
      exact hkF (by rw [hl, k0]; rfl)
    | true =>
    cases a0 : (s.at_ == 0) with
    | true =>
      have hp : placeD s = true := by rw [hl, k0, a0]; rfl
      cases n0 : ((s.ln.length : Int) == 0) with
      | true =>
        have z0 : s.ln.length = 0 := by simpa using n0
        have n1 : decide ((s.ln.length : Int) > 15) = false := decide_eq_false (by omega)
        have n2 : decide ((s.ln.length : Int) > 0) = false := decide_eq_false (by omega)
        refine zs8 e1 e3 e4 e5 k0 a0 n1 n2 ?_
        exact hkT hp _ (by rw [lnsP, n0]; rfl)
      | false =>
      have z0 : ¬ s.ln.length = 0 := by simpa using n0
      by_cases n3 : (s.ln.length : Int) > 15
      · have n1 : decide ((s.ln.length : Int) > 15) = true := decide_eq_true n3
        refine zs7 e1 e3 e4 e5 k0 a0 n1 ?_
        exact hkT hp _ (by rw [lnsP, n0, decide_eq_false (show ¬ (s.ln.length : Int) < 16 by omega)]; rfl)
      have n1 : decide ((s.ln.length : Int) > 15) = false := decide_eq_false n3
      have n2 : decide ((s.ln.length : Int) > 0) = true := decide_eq_true (by omega)
      have n4 : lnsP s.ln = ((rpParse (s.ln.map bl)).1 == 7) := by rw [lnsP, n0, decide_eq_true (show (s.ln.length : Int) < 16 by omega)]; rfl
      refine zs8 e1 e3 e4 e5 k0 a0 n1 n2 ?_
      refine ⟨fun g => ?_, fun g => ?_, fun c g T mv => ?_⟩
      all_goals
        rw [g] at n4
        refine zs0 ?_
        exact hkT hp _ n4
    | false =>
    cases b0 : s.lm with
    | false =>
      refine zs7 e1 e3 e4 e5 k0 a0 b0 ?_
      exact hkF (by rw [hl, k0, a0, b0]; rfl)
    | true =>
    cases hc : (decide (0 ≤ s.at_) && decide (s.at_ ≤ (s.tk.length : Int) - 1)) with
    | false =>
      ((conv => whnf); repeat ((first | refine Br.t ?_ | refine Br.f ?_ | refine ob ?_ | refine ⟨_, rfl, ?_⟩ | refine ⟨_, _, rfl, ?_⟩ | refine ⟨_, _, _, rfl, ?_⟩ | refine ⟨_, _, _, _, rfl, ?_⟩ | simp only [e1, e3, e4, e5, k0, a0, b0, wz, hc]); (conv => whnf)))
      exact hkF (by rw [hl, k0, a0, b0, hc]; rfl)
    | true =>
      have hp : placeD s = true := by rw [hl, k0, a0, b0, hc]; rfl
      cases n0 : ((s.ln.length : Int) == 0) with
      | true =>
        have z0 : s.ln.length = 0 := by simpa using n0
        have n1 : decide ((s.ln.length : Int) > 15) = false := decide_eq_false (by omega)
        have n2 : decide ((s.ln.length : Int) > 0) = false := decide_eq_false (by omega)
        ((conv => whnf); repeat ((first | refine Br.t ?_ | refine Br.f ?_ | refine ob ?_ | refine ⟨_, rfl, ?_⟩ | refine ⟨_, _, rfl, ?_⟩ | refine ⟨_, _, _, rfl, ?_⟩ | refine ⟨_, _, _, _, rfl, ?_⟩ | simp only [e1, e3, e4, e5, k0, a0, b0, wz, hc, n1, n2]); (conv => whnf)))
        exact hkT hp _ (by rw [lnsP, n0]; rfl)
      | false =>
      have z0 : ¬ s.ln.length = 0 := by simpa using n0
      by_cases n3 : (s.ln.length : Int) > 15
      · have n1 : decide ((s.ln.length : Int) > 15) = true := decide_eq_true n3
        ((conv => whnf); repeat ((first | refine Br.t ?_ | refine Br.f ?_ | refine ob ?_ | refine ⟨_, rfl, ?_⟩ | refine ⟨_, _, rfl, ?_⟩ | refine ⟨_, _, _, rfl, ?_⟩ | refine ⟨_, _, _, _, rfl, ?_⟩ | simp only [e1, e3, e4, e5, k0, a0, b0, wz, hc, n1]); (conv => whnf)))
        exact hkT hp _ (by rw [lnsP, n0, decide_eq_false (show ¬ (s.ln.length : Int) < 16 by omega)]; rfl)
      have n1 : decide ((s.ln.length : Int) > 15) = false := decide_eq_false n3
      have n2 : decide ((s.ln.length : Int) > 0) = true := decide_eq_true (by omega)
      have n4 : lnsP s.ln = ((rpParse (s.ln.map bl)).1 == 7) := by rw [lnsP, n0, decide_eq_true (show (s.ln.length : Int) < 16 by omega)]; rfl
      ((conv => whnf); repeat ((first | refine Br.t ?_ | refine Br.f ?_ | refine ob ?_ | refine ⟨_, rfl, ?_⟩ | refine ⟨_, _, rfl, ?_⟩ | refine ⟨_, _, _, rfl, ?_⟩ | refine ⟨_, _, _, _, rfl, ?_⟩ | simp only [e1, e3, e4, e5, k0, a0, b0, wz, hc, n1, n2]); (conv => whnf)))
      refine ⟨fun g => ?_, fun g => ?_, fun c g T mv => ?_⟩
      all_goals
        rw [g] at n4
        refine zs0 ?_
        exact hkT hp _ n4
  have e5 : (s.st == 5) = false := by simpa using h5
  have hl : placeD s = ((s.at_ == 0) && ((s.tk.length : Int) == 0)) := by unfold placeD; rw [if_neg h3, if_neg h4, if_neg h5]
  cases a0 : (s.at_ == 0) with
  | false =>
    refine zs5 e1 e3 e4 e5 a0 ?_
    exact hkF (by rw [hl, a0]; rfl)
  | true =>
  cases k0 : ((s.tk.length : Int) == 0) with
  | false =>
    refine zs6 e1 e3 e4 e5 a0 k0 ?_
    exact hkF (by rw [hl, a0, k0]; rfl)
  | true =>
    have hp : placeD s = true := by rw [hl, a0, k0]; rfl
    cases n0 : ((s.ln.length : Int) == 0) with
    | true =>
      have z0 : s.ln.length = 0 := by simpa using n0
      have n1 : decide ((s.ln.length : Int) > 15) = false := decide_eq_false (by omega)
      have n2 : decide ((s.ln.length : Int) > 0) = false := decide_eq_false (by omega)
      refine zs8 e1 e3 e4 e5 a0 k0 n1 n2 ?_
      exact hkT hp _ (by rw [lnsP, n0]; rfl)
    | false =>
    have z0 : ¬ s.ln.length = 0 := by simpa using n0
    by_cases n3 : (s.ln.length : Int) > 15
    · have n1 : decide ((s.ln.length : Int) > 15) = true := decide_eq_true n3
      refine zs7 e1 e3 e4 e5 a0 k0 n1 ?_
      exact hkT hp _ (by rw [lnsP, n0, decide_eq_false (show ¬ (s.ln.length : Int) < 16 by omega)]; rfl)
    have n1 : decide ((s.ln.length : Int) > 15) = false := decide_eq_false n3
    have n2 : decide ((s.ln.length : Int) > 0) = true := decide_eq_true (by omega)
    have n4 : lnsP s.ln = ((rpParse (s.ln.map bl)).1 == 7) := by rw [lnsP, n0, decide_eq_true (show (s.ln.length : Int) < 16 by omega)]; rfl
    refine zs8 e1 e3 e4 e5 a0 k0 n1 n2 ?_
    refine ⟨fun g => ?_, fun g => ?_, fun c g T mv => ?_⟩
    all_goals
      rw [g] at n4
      refine zs0 ?_
      exact hkT hp _ n4
def Γ119q : Sems := ext 69 q69 (Γ0)
theorem Γ119q.ok : SemsOK G Tryz.prog Γ119q := (Γ0.ok.ext Tryz.func69 rfl (by decide) qk69)
def q119 : Sense := ⟨false, fun os xs K => ∃ s : Sd, xs = [.agg s.fz] ∧ os = [] ∧ s.sml ∧ ∀ m0 m1 m2 m3, K [.own 3 IT s.rc true m0, .own 3 IT [] true m1, .own 3 IT s.cd true m2, .own 9 ST [] true m3] (.ret (.agg ((brkS s).ow 0)))⟩
theorem qk119 : SenseOK G Tryz.prog 119 q119 := SenseOK.anyL Γ119q.ok (fun _ => []) [.out 8 3 IT, .out 13 9 ST] Tryz.func119 fun os xs K h => by
  obtain ⟨s, rfl, rfl, hs, hk⟩ := h
  refine zy ?_
  refine ⟨s, rfl, rfl, hs, fun m0 m1 m2 m3 => ?_⟩
  refine zv ?_
  exact hk _ _ _ _
def Γ72q : Sems := ext 119 (lendS q119) (Γ0)
theorem Γ72q.ok : SemsOK G Tryz.prog Γ72q := (Γ0.ok.ext Tryz.func119 rfl (by decide) (SenseOK.lendL qk119))
def Γ71q : Sems := ext 69 q69 (ext 119 (lendS q119) (Γ0))
theorem Γ71q.ok : SemsOK G Tryz.prog Γ71q := ((Γ0.ok.ext Tryz.func119 rfl (by decide) (SenseOK.lendL qk119)).ext Tryz.func69 rfl (by decide) qk69)
def Γ78q : Sems := ext 79 q79 (Γ0)
theorem Γ78q.ok : SemsOK G Tryz.prog Γ78q := (Γ0.ok.ext Tryz.func79 rfl (by decide) qk79)
theorem qk78 : SenseOK G Tryz.prog 78 q31 := SenseOK.anyL Γ78q.ok (fun _ => []) [.out 8 3 IT, .out 13 9 ST] Tryz.func78 fun os xs K h => by
  obtain ⟨id, j, lm, rfl, rfl, hl, hk⟩ := h
  have hb : (j.rc.length : Int) = j.rc.length ∧ (0 : Int) ≤ j.rc.length ∧ (j.rc.length : Int) * 8 ≤ 140737488355328 := ⟨rfl, by omega, by simp only [big] at hl; omega⟩
  refine zy ?_
  refine ⟨[1], (.take 0 (.take 1 (.take 3 (.take 4 (.take 5 (.take 6 (.br 2 (.br 7 (.take 8 (.br 9 .done .nil)) .nil) (.br 7 (.br 2 (.take 8 (.br 9 .done .nil)) .nil) .nil)))))))), ⟨by kernel_rfl⟩, ?_⟩
  refine zy ?_
  refine Both.mk ?_ ?_
  · refine zy ?_
    refine ⟨j, rfl, rfl, hl, fun mv => ?_⟩
    refine zv ?_
    exact hk _ _ _ _
  · refine zy ?_
    refine ⟨j, rfl, rfl, hl, fun mv => ?_⟩
    refine zv ?_
    exact hk _ _ _ _
theorem pre91 (l : List Int) : pre [91] l = decide (l.head? = some 91) := by
  unfold pre
  cases l with
  | nil => decide
  | cons c l => simp
theorem host_eq (l : List Int) : (domL l && !litL l) = (domL l && !pre [91] l) := by
  cases hd : domL l with
  | false => rfl
  | true =>
    rw [Bool.true_and, Bool.true_and, pre91]
    congr 1
    have hp : domP l = true := by rw [domP_eq]; exact hd
    by_cases h : l.head? = some 91
    · rw [decide_eq_true h]
      rw [domP, if_pos h] at hp
      simp only [Bool.and_eq_true, decide_eq_true_eq] at hp
      obtain ⟨h1, h2⟩ := hp
      have hl : 2 ≤ l.length := by
        cases l with
        | nil => cases h
        | cons x l =>
          cases l with
          | nil => simp at h h1; omega
          | cons y l => simp
      simp only [litL, Bool.and_eq_true, decide_eq_true_eq, beq_iff_eq]
      exact ⟨⟨⟨hl, h⟩, h1⟩, h2⟩
    · rw [decide_eq_false h, Bool.eq_false_iff]
      intro h2
      simp only [litL, Bool.and_eq_true, beq_iff_eq] at h2
      exact h h2.1.1.2
def Γ77q : Sems := ext 24 s18 (ext 113 q49 (Γ0))
theorem Γ77q.ok : SemsOK Gr Tryz.prog Γ77q := ((Γ0.ok.ext Tryz.func113 rfl (by decide) qk113).ext Tryz.func24 rfl (by decide) ok18)
theorem new_may (id : Int) (j : Jb) (lm : Bool) (m : Md) : maySd (newSd id j lm) m = ((decide (1 ≤ id) && decide (id ≤ 1099511627776)) && jobP j m) := by
  have h1 : (newSd id j lm).jb = j := rfl
  have h2 : (newSd id j lm).cd = List.replicate j.rc.length 0 := by show List.replicate (Int.toNat _) _ = _; rw [Int.toNat_natCast]
  have h3 : ((newSd id j lm).cd.any badK) = false := by
    rw [h2, List.any_eq_false]
    intro x hx
    rw [List.eq_of_mem_replicate hx]; decide
  have h4 : (((newSd id j lm).cd.length : Int) == (newSd id j lm).rc.length) = true := by
    rw [h2, List.length_replicate]; exact beq_self_eq_true _
  have h5 : placeP (newSd id j lm) = true := rfl
  have h6 : lnsP (newSd id j lm).ln = true := rfl
  have h7 : fmP (bl (newSd id j lm).rest) (newSd id j lm).skip = true := rfl
  unfold maySd
  rw [h1, h3, h4, h5, h6, h7]
  show (((decide (1 ≤ id) && decide (id ≤ 1099511627776)) && (jobP j m && ((decide ((0 : Int) ≤ 0) && decide ((0 : Int) ≤ 7)) && ((decide ((0 : Int) ≤ 0) && decide ((0 : Int) ≤ 100)) && true)))) && (true && (!false && (true && true)))) = _
  simp
def q77 : Sense := ⟨false, fun os xs K => ∃ (id : Int) (j : Jb) (m : Md), xs = [.one (.int .i64 id), .agg j.fz, .agg (m.cs (.sl RT m.rc))] ∧ os = [] ∧ (j.sml ∧ (m.body.size ≤ big ∧ m.fd.size ≤ big ∧ (∀ r ∈ m.rc, r.1.2.size ≤ big) ∧ m.rc.length ≤ big)) ∧ K [] (.ret (.one (.bool (mailP m.ml && ((decide (1 ≤ id) && decide (id ≤ 1099511627776)) && jobP j m)))))⟩
theorem qk77 : SenseOK Gr Tryz.prog 77 q77 := SenseOK.any Γ77q.ok (fun _ => []) Tryz.func77 fun os xs K hq => by
  obtain ⟨id, j, m, rfl, rfl, ⟨hj, hb1, hb2, hb3, hml⟩, hk⟩ := hq
  have hk' : ∀ b, (mailP m.ml && ((decide (1 ≤ id) && decide (id ≤ 1099511627776)) && jobP j m)) = b → K [] (.ret (.one (.bool b))) := fun b h => h ▸ hk
  clear hk
  refine zy ?_
  refine ⟨m, .sl RT m.rc, rfl, .inl ⟨rfl, rfl⟩, hb1, hb2, hb3, ?_⟩
  cases g1 : mailP m.ml with
  | false =>
    rw [g1] at hk'
    refine zs1 g1 ?_
    exact hk' _ rfl
  | true =>
  rw [g1, Bool.true_and] at hk'
  by_cases a1 : id ≥ 1
  case neg =>
    have f1 : decide (id ≥ 1) = false := decide_eq_false a1
    rw [decide_eq_false (show ¬ 1 ≤ id by omega)] at hk'
    refine zs2 g1 f1 ?_
    exact hk' _ rfl
  have f1 : decide (id ≥ 1) = true := decide_eq_true a1
  rw [decide_eq_true (show 1 ≤ id by omega), Bool.true_and] at hk'
  by_cases a2 : id ≤ 1099511627776
  case neg =>
    have f2 : decide (id ≤ 1099511627776) = false := decide_eq_false a2
    rw [f2] at hk'
    refine zs3 g1 f1 f2 ?_
    exact hk' _ rfl
  have f2 : decide (id ≤ 1099511627776) = true := decide_eq_true a2
  rw [f2, Bool.true_and] at hk'
  refine zs3 g1 f1 f2 ?_
  exact hk' _ rfl
def Γ80q : Sems := ext 68 q68 (ext 123 s42 (Γ0))
theorem Γ80q.ok : SemsOK Gr Tryz.prog Γ80q := ((Γ0.ok.ext Tryz.func123 rfl (by decide) ok42).ext Tryz.func68 rfl (by decide) qk68)
def q80 : Sense := ⟨false, fun os xs K => ∃ (s : Sd) (m : Md) (h : ByteArray), xs = [.agg s.fz, .agg (m.cs (.sl RT m.rc)), .one (.str h)] ∧ os = [] ∧ ((s.fit ∧ (m.body.size ≤ big ∧ m.fd.size ≤ big ∧ (∀ r ∈ m.rc, r.1.2.size ≤ big) ∧ m.rc.length ≤ big)) ∧ h.size ≤ big) ∧ K [] (.ret (.one (.bool (mayHr m h s))))⟩
theorem qk80 : SenseOK Gr Tryz.prog 80 q80 := SenseOK.any Γ80q.ok (fun _ => []) Tryz.func80 fun os xs K hq => by
  obtain ⟨s, m, h, rfl, rfl, ⟨⟨hs, hm⟩, hh⟩, hk⟩ := hq
  have hk' : ∀ b, ((mailP m.ml && maySd s m) && (domL (bl h) && !litL (bl h))) = b → K [] (.ret (.one (.bool b))) := fun b e => by
    rw [host_eq] at e
    rw [← e]; exact hk
  cases g1 : (mailP m.ml && maySd s m) with
  | false =>
    rw [g1] at hk'
    refine zs1 g1 ?_
    exact hk' _ rfl
  | true =>
    rw [g1] at hk'
    refine zs1 g1 ?_
    exact hk' _ rfl
theorem SenseOK.or {f : FuncId} {s s1 s2 : Sense} (h1 : SenseOK G Tryz.prog f s1) (h2 : SenseOK G Tryz.prog f s2) (hr1 : s.ro = s1.ro) (hr2 : s.ro = s2.ro) (hf : ∀ os xs K, s.f os xs K → s1.f os xs K ∨ s2.f os xs K) : SenseOK G Tryz.prog f s := by
  intro X w lk os xs vs K hO hl0 hX hXG hgr has hs
  rcases hf _ _ _ hs with h | h
  · rw [hr1]; exact h1 X w lk os xs vs K hO hl0 hX hXG hgr has h
  · rw [hr2]; exact h2 X w lk os xs vs K hO hl0 hX hXG hgr has h
def bA : ByteArray := ⟨#[97]⟩
def bX : ByteArray := ⟨#[120]⟩
def mM : Md := ⟨1, 0, false, bA, bX, [((bA, bX), (0, (0, (0, 0))))], ByteArray.empty, 0, false, false⟩
def s19 : Sense := ⟨false, fun os xs K => xs = [] ∧ os = [] ∧ ∀ mv, K [.own 39 RT mM.rc true mv] (.ret (.agg (mM.cs (.own 0))))⟩
theorem ok19 : SenseOK G Tryz.prog 15 s19 := SenseOK.any Γ0.ok (fun _ => []) Tryz.func15 fun os xs K h => by
  obtain ⟨rfl, rfl, hk⟩ := h
  refine zv ?_
  exact hk _
theorem mM_sml : mM.sml := ⟨by decide, fun r hr => by simp [mM] at hr; subst hr; simp [small, bA, bX, mid, ByteArray.size], by decide⟩
def Γ27 : Sems := ext 67 s35 Γ0
theorem Γ27.ok : SemsOK G Tryz.prog Γ27 := Γ0.ok.ext Tryz.func67 rfl (by decide) ok35
def q18 : Sense := pureS fun xs K => ∃ e, xs = [.one (.int .i64 e)] ∧ K (.ret (.one (.int .i64 e)))
theorem qk18 : SenseOK G Tryz.prog 18 q18 := SenseOK.pure Γ0.ok (fun _ => []) Tryz.func18 fun xs K h => by
  obtain ⟨e, rfl, hk⟩ := h
  refine zv ?_
  exact hk
theorem u64_wrap (n : Int) : IntKind.u64.wrap n = n % 18446744073709551616 := rfl
def q16 : Sense := pureS fun xs K => ∃ d n : Int, xs = [.one (.int .i64 d), .one (.int .i64 n)] ∧ (0 < n ∧ n ≤ 1073741824) ∧ ∀ r, ((0 ≤ r ∧ r < n) ∧ (0 ≤ d ∧ d < n → r = d)) → K (.ret (.one (.int .i64 r)))
theorem qk16 : SenseOK G Tryz.prog 16 q16 := SenseOK.pure Γ0.ok (fun _ => []) Tryz.func16 fun xs K h => by
  obtain ⟨d, n, rfl, ⟨h0, h1⟩, hk⟩ := h
  have hn : IntKind.u64.wrap n = n := by rw [u64_wrap, Int.emod_eq_of_lt (by omega) (by omega)]
  have hd : 0 ≤ IntKind.u64.wrap d := by rw [u64_wrap]; exact Int.emod_nonneg _ (by decide)
  have hr : (IntKind.u64.wrap d).tmod n = IntKind.u64.wrap d % n := Int.tmod_eq_emod_of_nonneg hd
  have hr0 : 0 ≤ IntKind.u64.wrap d % n := Int.emod_nonneg _ (by omega)
  have hr1 : IntKind.u64.wrap d % n < n := Int.emod_lt_of_pos _ h0
  have hne : n ≠ 0 := by omega
  have w1 : IntKind.i64.wrap (IntKind.u64.wrap d % n) = IntKind.u64.wrap d % n := IntWalk.i64_in _ (by omega)
  have fin := hk (IntKind.u64.wrap d % n) ⟨⟨hr0, hr1⟩, fun h => by rw [u64_wrap, Int.emod_eq_of_lt (by omega) (by omega), Int.emod_eq_of_lt (by omega) (by omega)]⟩
  refine zs3 hn hr w1 ?_
  exact fin
def jW : Jb := ⟨1, 0, ⟨#[120]⟩, [0]⟩
def bW : List Int := [50, 50, 48, 32, 97, 13, 10]
def hW : ByteArray := ⟨#[104]⟩
theorem w_open : (mailP mM.ml && maySd (newSd 1 jW false) mM) = true := by decide +kernel
theorem w_hear : mayHr mM hW (newSd 1 jW false) = true := by decide +kernel
theorem w_out : (hearS mM hW (newSd 1 jW false) bW).2 = (⟨#[69, 72, 76, 79, 32, 104, 13, 10]⟩ : ByteArray) := by decide +kernel
theorem w_st : (hearS mM hW (newSd 1 jW false) bW).1.st = 1 := by decide +kernel
def Γ26q : Sems := ext 15 s19 (ext 17 (lendS q17) (ext 18 q18 (ext 21 (lendS q21) (Γ0))))
theorem Γ26q.ok : SemsOK Gr Tryz.prog Γ26q := ((((Γ0.ok.ext Tryz.func21 rfl (by decide) (SenseOK.lendL qk21)).ext Tryz.func18 rfl (by decide) qk18).ext Tryz.func17 rfl (by decide) (SenseOK.lendL qk17)).ext Tryz.func15 rfl (by decide) ok19)
def q26 : Sense := ⟨false, fun os xs K => xs = [] ∧ os = [] ∧ K [] (.ret (.one (.bool true)))⟩
theorem qk26 : SenseOK Gr Tryz.prog 26 q26 := SenseOK.any Γ26q.ok (fun _ => []) Tryz.func26 fun os xs K hq => by
  obtain ⟨rfl, rfl, hk⟩ := hq
  have hf : (newSd 1 jW false).fit := ⟨⟨by decide, by decide, by decide, by decide⟩, by decide, by decide, fun x hx => by cases hx⟩
  have hm : mM.fit := ⟨mM_sml, by decide⟩
  have hb : (newSd 1 jW false).rest.size + bW.length ≤ big ∧ Byts bW := ⟨by decide, fun x hx => by
    simp only [bW, List.mem_cons, List.not_mem_nil, or_false] at hx
    omega⟩
  have ho := w_out
  have hs := w_st
  have hh := w_hear
  have hop := w_open
  generalize hn : newSd 1 jW false = s0 at *
  generalize hr : hearS mM hW s0 bW = p at *
  refine zs0 ?_
  intro mv
  refine zs0 ?_
  refine ⟨[.one (.int .i64 1), .agg jW.fz, .one (.bool false), .agg (mM.cs (.sl RT mM.rc))], trr, lnt, ?_⟩
  refine zy ?_
  refine ⟨1, jW, false, mM, rfl, rfl, ⟨⟨by decide, by decide⟩, mM_sml⟩, ?_⟩
  rw [hn]
  refine ⟨fun h => (by rw [hop] at h; cases h), fun _ m0 m1 m2 m3 => ?_⟩
  refine zs0 ?_
  refine ⟨[.agg s0.fz, .agg (mM.cs (.sl RT mM.rc)), .one (.sl (.int .u8) bW), .one (.str hW)], trr, lnt, ?_⟩
  refine zy ?_
  refine ⟨s0, mM, hW, bW, rfl, rfl, ⟨⟨hf, hm⟩, by decide, hb⟩, fun h => (by rw [hh] at h; cases h), fun _ n0 n1 n2 n3 => ?_⟩
  rw [hr]
  obtain ⟨w, ou⟩ := p
  simp only at ho hs
  subst ho
  have h1 : (w.st == 1) = true := by simpa using hs
  have hll : ∀ x : ByteArray, (x.toList == x.toList) = true := fun x => beq_self_eq_true _
  refine zs2 h1 hll ?_
  exact hk
abbrev AT : Ty := .pair (.int .i64) (.pair (.int .i64) (.pair (.slice 5 (.int .u8)) (.pair .str (.pair (.pair (.int .i64) (.pair (.int .i64) (.pair .str (.slice 3 (.int .i64))))) .bool))))
def Γ42q : Sems := ext 66 q66 (ext 67 s35 (Γ0))
theorem Γ42q.ok : SemsOK G Tryz.prog Γ42q := ((Γ0.ok.ext Tryz.func67 rfl (by decide) ok35).ext Tryz.func66 rfl (by decide) qk66)
def Md.wts (m : Md) : Prop := (m.rc.length ≤ big ∧ m.body.size ≤ big) ∧ ((m.fl.size ≤ big ∧ m.fd.size ≤ big) ∧ ∀ r ∈ m.rc, r.1.1.size ≤ big ∧ r.1.2.size ≤ big)
def scC (s : Sd) (m : Md) (l : List AT.den) : List C := s.fz ++ (m.cs (.sl RT m.rc) ++ [.sl AT l])
def q42 : Sense := ⟨false, fun os xs K => ∃ (s : Sd) (m : Md) (l : List AT.den), xs = [.agg (scC s m l)] ∧ os = [] ∧ ((s.sml ∧ s.txs) ∧ (m.wts ∧ l.length ≤ big)) ∧ ∀ b, K [] (.ret (.one (.bool b)))⟩
theorem qk42 : SenseOK G Tryz.prog 42 q42 := SenseOK.any Γ42q.ok (fun _ => [1, 3, 4]) Tryz.func42 fun os xs K hq => by
  obtain ⟨s, m, l, rfl, rfl, ⟨⟨hs, htx⟩, ⟨⟨hm0, hm1⟩, ⟨hm2, hm3⟩, hm4⟩, hl⟩, hk⟩ := hq
  have hl' := hl
  simp only [big] at hl'
  refine zv ?_
  refine ⟨[], (.take 0 (.take 1 (.take 3 (.take 4 (.br 2 (.rest 5) .nil))))), ⟨by kernel_rfl⟩, ?_⟩
  refine zs0 ?_
  intro n hn
  refine zs0 ?_
  refine ⟨.inl ⟨rfl, rfl⟩, hm0, hm1, hm2, hm3, hm4, ?_⟩
  refine zs0 ?_
  refine iter_of (I := fun k σ => ∃ (j : Nat) (n : Int), k = l.length - j ∧ j ≤ l.length ∧ σ = ⟨slots 67 [(1, .one (.ref 0 0)), (3, .one (.int .i64 n)), (4, .one (.int .i64 j))], [.box 65 (scC s m l)]⟩) ?_ l.length ⟨0, _, by omega, by omega, rfl⟩
  rintro k σ K' ⟨j, n, rfl, hj, rfl⟩ hK'
  have w1 := IntWalk.i64_in ((j : Int) + 1) (by omega)
  by_cases g1 : j < l.length
  case neg =>
    have e1 : decide ((j : Int) < l.length) = false := decide_eq_false (by omega)
    cases g3 : decide (n > 20000)
    all_goals
      refine zs2 e1 g3 ?_
      exact hk _
  have e1 : decide ((j : Int) < l.length) = true := decide_eq_true (by omega)
  by_cases g2 : n < 1048576
  case neg =>
    have e2 : decide (n < 1048576) = false := decide_eq_false g2
    cases g3 : decide (n > 20000)
    all_goals
      refine zs3 e1 e2 g3 ?_
      exact hk _
  have e2 : decide (n < 1048576) = true := decide_eq_true g2
  obtain ⟨x, hx⟩ : ∃ x, l[j]? = some x := ⟨_, List.getElem?_eq_getElem g1⟩
  have rx := nth_of hx AT.dflt
  have ix : (0 : Int) ≤ j ∧ (j : Int) < l.length := ⟨by omega, by omega⟩
  refine zs2 e1 e2 ?_
  refine ⟨[], (.take 0 (.take 1 (.take 2 (.take 3 (.take 4 (.take 5 (.take 6 (.take 7 (.take 8 (.take 9 (.take 10 (.take 11 (.take 12 (.take 13 (.take 14 (.take 15 (.take 16 (.take 17 (.take 18 (.take 19 (.take 20 (.take 21 (.take 22 (.take 23 (.take 24 (.take 25 (.take 26 (.take 27 (.take 28 (.take 29 (.take 30 (.take 31 (.take 32 (.take 33 (.take 34 (.rest 35)))))))))))))))))))))))))))))))))))), ⟨by kernel_rfl⟩, ?_⟩
  refine zs2 rx w1 ?_
  exact hK' _ _ (by omega) ⟨j + 1, _, rfl, by omega, rfl⟩
def rowE (r : ByteArray) : List Int := bl r ++ [13, 10]
def dotE (r : ByteArray) : List Int := (if (bl r).head? = some 46 then [46] else []) ++ bl r ++ [13, 10]
def q14 : Sense := ⟨false, fun os xs K => ∃ s, xs = [.one (.str s)] ∧ os = [] ∧ mayT (bl s) = true ∧
  (bl s = [] → K [] (.ret (.tup [.one .nil, .one (.bool true)]))) ∧ (∀ rows mv, rows ≠ [] → (rows.map rowE).flatten = bl s → (∀ r ∈ rows, cleanL (bl r) = true) → K [.own 9 .str rows true mv] (.ret (.tup [.one (.own 0), .one (.bool true)])))⟩
theorem qk14 : SenseOK G Tryz.prog 14 q14 := SenseOK.any Γ48.ok (fun _ => [0, 4, 5, 6]) Tryz.func14 fun os xs K h => by
  obtain ⟨s, rfl, rfl, hmt, hk0, hk1⟩ := h
  have hb : s.size ≤ big := by
    rw [mayT, Bool.and_eq_true, decide_eq_true_eq, bl_len] at hmt
    simp only [big]; omega
  simp only [big] at hb
  have hlen := bl_len s
  by_cases hz : s.size ≤ 8192
  case neg =>
    have f0 : decide ((s.size : Int) > 8192) = true := by simp; omega
    have hm : mayT (bl s) = false := by rw [mayT, hlen]; simp; omega
    rw [hm] at hmt; cases hmt
  have f0 : decide ((s.size : Int) > 8192) = false := by simp; omega
  have hm : mayT (bl s) = rowsB [] (bl s) := by rw [mayT, hlen, decide_eq_true hz, Bool.true_and]
  rw [hm] at hmt
  refine zs1 f0 ?_
  refine iter_of (I := fun k σ => ∃ (j e : Nat), k = s.size - j ∧ j ≤ s.size ∧ e ≤ j ∧ rowsB [] (bl s) = rowsB (((bl s).take j).drop e) ((bl s).drop j) ∧
    ((e = 0 ∧ σ = ⟨slots 54 [(0, .one (.str s)), (4, .one .nil), (5, .one (.int .i64 e)), (6, .one (.int .i64 j))], []⟩) ∨
     ∃ rows mv, (rows.length ≤ j ∧ rows ≠ [] ∧ (rows.map rowE).flatten = (bl s).take e ∧ ∀ r ∈ rows, cleanL (bl r) = true) ∧ σ = ⟨slots 54 [(0, .one (.str s)), (4, .one (.own 0)), (5, .one (.int .i64 e)), (6, .one (.int .i64 j))], [.own 9 .str rows true mv]⟩)) ?_ s.size ⟨0, 0, by omega, by omega, by omega, rfl, .inl ⟨rfl, rfl⟩⟩
  rintro k σ K' ⟨j, e, rfl, hj, he, hn, hσ⟩ hK'
  have w1 := IntWalk.i64_in ((j : Int) + 1) (by omega)
  by_cases h1 : j < s.size
  case neg =>
    have f1 : decide ((j : Int) < s.size) = false := by simp; omega
    obtain rfl : j = s.size := by omega
    have htk : (bl s).take s.size = bl s := List.take_of_length_le (by omega)
    have hdr : (bl s).drop s.size = [] := List.drop_eq_nil_iff.2 (by omega)
    rw [htk, hdr, rowsB] at hn
    have hE : ((e : Int) == s.size) = decide ((bl s).drop e = []) := by
      rw [Bool.eq_iff_iff]; simp [List.drop_eq_nil_iff, hlen]; omega
    rw [← hE] at hn
    rw [hn] at hmt
    have hes : e = s.size := by
      have : (e : Int) = s.size := by simpa using hmt
      omega
    rcases hσ with ⟨he0, rfl⟩ | ⟨rows, mv, ⟨hrw, hrn, hre, hrc⟩, rfl⟩
    · refine zs2 f1 hmt ?_
      exact hk0 (by
        have : (bl s).length = 0 := by rw [hlen]; omega
        exact List.length_eq_zero_iff.1 this)
    · refine zs2 f1 hmt ?_
      exact hk1 _ _ hrn (by rw [hre, hes, htk]) hrc
  have f1 : decide ((j : Int) < s.size) = true := by simpa using h1
  have hg := bl_get h1
  have hd := bl_drop h1
  have hnx := cut_next hg he
  have go : ¬ ((((bl s).take j).drop e).getLast? = some 13 ∧ bt s j = 10) → rowsB [] (bl s) = rowsB (((bl s).take (j + 1)).drop e) ((bl s).drop (j + 1)) := fun h => by
    rw [hn, hd, rowsB_go h, hnx]
  by_cases g1 : bt s j = 10
  case neg =>
    have e1 : (bt s j != 10) = true := by simpa using g1
    have hG := go (fun h => g1 h.2)
    rcases hσ with ⟨he0, rfl⟩ | ⟨rows, mv, ⟨hrw, hrn, hre, hrc⟩, rfl⟩
    · refine zs3 f1 e1 w1 ?_
      exact hK' _ _ (by omega) ⟨j + 1, e, rfl, by omega, by omega, hG, .inl ⟨he0, rfl⟩⟩
    · refine zs3 f1 e1 w1 ?_
      exact hK' _ _ (by omega) ⟨j + 1, e, rfl, by omega, by omega, hG, .inr ⟨rows, mv, ⟨by omega, hrn, hre, hrc⟩, rfl⟩⟩
  have e1 : (bt s j != 10) = false := by simpa using g1
  by_cases g2 : j = e
  · have e2 : ((j : Int) == e) = true := by simp [g2]
    have hG := go (fun h => by
      rw [List.drop_of_length_le (by rw [List.length_take]; omega)] at h
      cases h.1)
    rcases hσ with ⟨he0, rfl⟩ | ⟨rows, mv, ⟨hrw, hrn, hre, hrc⟩, rfl⟩
    · refine zs4 f1 e1 e2 w1 ?_
      exact hK' _ _ (by omega) ⟨j + 1, e, rfl, by omega, by omega, hG, .inl ⟨he0, rfl⟩⟩
    · refine zs4 f1 e1 e2 w1 ?_
      exact hK' _ _ (by omega) ⟨j + 1, e, rfl, by omega, by omega, hG, .inr ⟨rows, mv, ⟨by omega, hrn, hre, hrc⟩, rfl⟩⟩
  have e2 : ((j : Int) == e) = false := by simp; omega
  obtain ⟨i, rfl⟩ : ∃ i, j = i + 1 := ⟨j - 1, by omega⟩
  have w2 : IntKind.i64.wrap (((i + 1 : Nat) : Int) - 1) = i := by rw [IntWalk.i64_in _ (by omega)]; omega
  have hl := cut_last (l := bl s) (e := e) (j := i) (by omega) (by omega)
  rw [bl_get (by omega)] at hl
  by_cases g3 : bt s i = 13
  case neg =>
    have e3 : (bt s i != 13) = true := by simpa using g3
    have hG := go (fun h => by rw [hl] at h; exact g3 (Option.some.inj h.1))
    rcases hσ with ⟨he0, rfl⟩ | ⟨rows, mv, ⟨hrw, hrn, hre, hrc⟩, rfl⟩
    · refine zs6 f1 e1 e2 w2 e3 w1 ?_
      exact hK' _ _ (by omega) ⟨i + 2, e, rfl, by omega, by omega, hG, .inl ⟨he0, rfl⟩⟩
    · refine zs6 f1 e1 e2 w2 e3 w1 ?_
      exact hK' _ _ (by omega) ⟨i + 2, e, rfl, by omega, by omega, hG, .inr ⟨rows, mv, ⟨by omega, hrn, hre, hrc⟩, rfl⟩⟩
  have e3 : (bt s i != 13) = false := by simpa using g3
  have hdl : (((bl s).take (i + 1)).drop e).dropLast = ((bl s).take i).drop e := by
    rw [cut_next (bl_get (by omega)) (by omega), List.dropLast_concat]
  rw [hd, rowsB_end (by rw [hl, g3]) g1, hdl] at hn
  have hx : cleanL (bl (s.extract (e : Int).toNat (i : Int).toNat)) = cleanL (((bl s).take i).drop e) := congrArg cleanL (bl_extract s e i)
  have hself : ((bl s).take (i + 2)).drop (i + 2) = [] := List.drop_eq_nil_iff.2 (by rw [List.length_take]; omega)
  have hex : bl (s.extract e i) = ((bl s).take i).drop e := bl_extract s e i
  have htk2 : (bl s).take (i + 2) = (bl s).take e ++ rowE (s.extract e i) := by
    rw [rowE, hex, ← List.append_assoc, show (bl s).take e = ((bl s).take i).take e by rw [List.take_take, Nat.min_eq_left (by omega)], List.take_append_drop, List.take_add_one, List.take_add_one, bl_get (by omega), bl_get (by omega), g3, g1]
    simp
  have hsz : (s.extract (e : Int).toNat (i : Int).toNat).size ≤ big := by
    show (s.extract e i).size ≤ 1073741824
    rw [ByteArray.size_extract]; omega
  rcases hσ with ⟨he0, rfl⟩ | ⟨rows, mv, ⟨hrw, hrn, hre, hrc⟩, rfl⟩
  · refine zs5 f1 e1 e2 w2 e3 ?_
    cases hcl : cleanL (((bl s).take i).drop e) with
    | false =>
      rw [hcl, Bool.false_and] at hn
      rw [hn] at hmt
      cases hmt
    | true =>
      rw [hcl, Bool.true_and] at hn
      rw [hcl] at hx
      refine zs3 hx w2 w1 ?_
      exact hK' _ _ (by omega) ⟨i + 2, i + 2, rfl, by omega, by omega, by rw [hn, hself], .inr ⟨[s.extract e i], _, ⟨by simp, by simp, by rw [htk2, he0]; simp, fun r hr => by rw [List.mem_singleton] at hr; subst hr; rw [hex]; exact hcl⟩, rfl⟩⟩
  · refine zs5 f1 e1 e2 w2 e3 ?_
    cases hcl : cleanL (((bl s).take i).drop e) with
    | false =>
      rw [hcl, Bool.false_and] at hn
      rw [hn] at hmt
      cases hmt
    | true =>
      rw [hcl, Bool.true_and] at hn
      rw [hcl] at hx
      have h1L : (rows.length + [s.extract (e : Int).toNat (i : Int).toNat].length) * 16 ≤ 140737488355328 := by rw [List.length_singleton]; omega
      refine zs3 hx w2 w1 ?_
      refine hK' _ _ (by omega) ⟨i + 2, i + 2, rfl, by omega, by omega, by rw [hn, hself], .inr ⟨rows ++ [s.extract e i], true, ⟨by rw [List.length_append, List.length_singleton]; omega, by simp, by rw [htk2, List.map_append, List.flatten_append, hre]; simp, fun r hr => by
        rcases List.mem_append.1 hr with hr | hr
        · exact hrc r hr
        · rw [List.mem_singleton] at hr; subst hr; rw [hex]; exact hcl⟩, ?_⟩⟩
      cases mv <;> rfl
theorem lay_rows : ∀ (R : List (List UInt8)), (∀ r ∈ R, (10 : UInt8) ∉ r) → Dt.layB true ((R.map (· ++ [13, 10])).flatten) = (R.map fun r => (if r.head? = some 46 then [46] else []) ++ r ++ [13, 10]).flatten
  | [], _ => rfl
  | r :: R, h => by
    have ih := lay_rows R fun x hx => h x (List.mem_cons_of_mem _ hx)
    have hr := h r (List.mem_cons_self)
    have hl : Dt.IsLine (r ++ [13, 10]) ((R.map (· ++ [13, 10])).flatten) := by
      refine ⟨by simp, fun j hj hx => ?_, .inl (by simp)⟩
      rw [List.length_append] at hj
      simp only [List.length_cons, List.length_nil] at hj
      rcases Nat.lt_or_ge j r.length with h1 | h1
      · rw [List.getElem?_append_left h1] at hx
        exact hr (List.mem_of_getElem? hx)
      · have : j = r.length := by omega
        subst this
        rw [List.getElem?_append_right (Nat.le_refl _)] at hx
        simp at hx
    rw [List.map_cons, List.flatten_cons, Dt.layB_line _ _ hl, ih, List.map_cons, List.flatten_cons]
    have hp : ([46] : List UInt8).isPrefixOf (r ++ [13, 10]) = decide (r.head? = some 46) := by
      cases r with
      | nil => decide
      | cons c l =>
        simp only [List.cons_append, List.isPrefixOf, Bool.and_true, List.head?_cons, Option.some.injEq, eq_comm (a := (46 : UInt8))]
        by_cases h : c = 46
        · subst h; rfl
        · rw [decide_eq_false h]
          simp only [beq_eq_false_iff_ne]
          exact fun e => h (by rw [e])
    rw [hp]
    by_cases hd : r.head? = some 46
    · rw [decide_eq_true hd, if_pos rfl, if_pos hd]; simp
    · rw [decide_eq_false hd, if_neg (by simp), if_neg hd]; simp
def u8i (b : UInt8) : Int := (b.toNat : Int)
theorem u8i_inj {a b : UInt8} (h : u8i a = u8i b) : a = b := UInt8.toNat_inj.1 (by simp only [u8i] at h; omega)
theorem bl_u8 (s : ByteArray) : bl s = s.data.toList.map u8i := rfl
theorem lay_of {s : ByteArray} {rows : List ByteArray} (h : (rows.map rowE).flatten = bl s) (hc : ∀ r ∈ rows, cleanL (bl r) = true) : bl (layO s) = (rows.map dotE).flatten ++ [46, 13, 10] := by
  have h1 : s.data.toList = ((rows.map fun r => r.data.toList).map (· ++ [13, 10])).flatten := by
    have h2 : (((rows.map fun r => r.data.toList).map (· ++ [13, 10])).flatten).map u8i = s.data.toList.map u8i := by
      rw [← bl_u8, ← h, List.map_flatten, List.map_map, List.map_map]
      congr 1
      refine List.map_congr_left fun r _ => ?_
      show (r.data.toList ++ [13, 10]).map u8i = _
      rw [List.map_append, ← bl_u8]; rfl
    exact ((List.map_inj_right fun a b h => u8i_inj h).1 h2).symm
  have h3 : ∀ r ∈ rows.map (fun r => r.data.toList), (10 : UInt8) ∉ r := fun r hr hm => by
    obtain ⟨x, hx, rfl⟩ := List.mem_map.1 hr
    have h4 := hc x hx
    rw [cleanL, Bool.and_eq_true, Bool.not_eq_true'] at h4
    have h5 : (bl x).any crlf = true := List.any_eq_true.2 ⟨u8i 10, List.mem_map_of_mem hm, rfl⟩
    rw [h4.1] at h5; cases h5
  have h4 : bl (layO s) = (Dt.layB true s.data.toList ++ [46, 13, 10]).map u8i := by
    rw [bl_u8, layO]
  rw [h4, List.map_append, h1, lay_rows _ h3, List.map_flatten, List.map_map, List.map_map]
  congr 1
  congr 1
  refine List.map_congr_left fun r _ => ?_
  show List.map u8i ((if r.data.toList.head? = some 46 then [46] else []) ++ r.data.toList ++ [13, 10]) = dotE r
  rw [dotE, List.map_append, List.map_append, ← bl_u8]
  have h5 : (bl r).head? = some 46 ↔ r.data.toList.head? = some 46 := by
    rw [bl_u8, List.head?_map]
    cases r.data.toList.head? with
    | none => simp
    | some c =>
      simp only [Option.map_some, Option.some.injEq]
      exact ⟨fun h => u8i_inj (b := 46) h, fun h => by rw [h]; rfl⟩
  by_cases h6 : r.data.toList.head? = some 46
  · rw [if_pos h6, if_pos (h5.2 h6)]; rfl
  · rw [if_neg h6, if_neg (fun h => h6 (h5.1 h))]; rfl
def Γ25q : Sems := ext 14 q14 (Γ0)
theorem Γ25q.ok : SemsOK G Tryz.prog Γ25q := (Γ0.ok.ext Tryz.func14 rfl (by decide) qk14)
theorem rows_len : ∀ {rows : List ByteArray}, 2 * rows.length ≤ ((rows.map rowE).flatten).length
  | [] => Nat.le_refl _
  | r :: rows => by
    have := rows_len (rows := rows)
    rw [List.map_cons, List.flatten_cons, List.length_append, rowE, List.length_append]
    simp only [List.length_cons, List.length_nil]
    omega
theorem clean_len {r : ByteArray} (h : cleanL (bl r) = true) : r.size ≤ 509 := by
  rw [cleanL, Bool.and_eq_true, decide_eq_true_eq, bl_len] at h
  exact h.2
def q25 : Sense := ⟨false, fun os xs K => ∃ s, xs = [.one (.str s)] ∧ os = [] ∧ mayT (bl s) = true ∧ K [] (.ret (.one (.str (layO s))))⟩
theorem qk25 : SenseOK G Tryz.prog 25 q25 := SenseOK.any Γ25q.ok (fun _ => [3, 5, 6]) Tryz.func25 fun os xs K h => by
  obtain ⟨s, rfl, rfl, hmt, hk⟩ := h
  have hk' : ∀ t, bl t = bl (layO s) → K [] (.ret (.one (.str t))) := fun t ht => by rw [bl_inj ht]; exact hk
  have hs : s.size ≤ 8192 := by
    rw [mayT, Bool.and_eq_true, decide_eq_true_eq, bl_len] at hmt
    exact hmt.1
  have h3 : (⟨#[46, 13, 10]⟩ : ByteArray).size = 3 := rfl
  have h2 : (⟨#[13, 10]⟩ : ByteArray).size = 2 := rfl
  have h1 : (⟨#[46]⟩ : ByteArray).size = 1 := rfl
  have h0 : (⟨#[]⟩ : ByteArray).size = 0 := rfl
  refine zy ?_
  refine ⟨s, rfl, rfl, hmt, fun hn => ?_, fun rows mv hrn hre hrc => ?_⟩
  · refine zs0 ?_
    refine iter_of (I := fun n σ => n = 0 ∧ σ = ⟨slots 43 [(3, .one .nil), (5, .one (.str ⟨#[]⟩)), (6, .one (.int .i64 0))], []⟩) ?_ 0 ⟨rfl, rfl⟩
    rintro n σ K' ⟨rfl, rfl⟩ _
    refine zs0 ?_
    exact hk' _ (by rw [lay_of (rows := []) (by rw [hn]; rfl) (fun r hr => by cases hr)]; rfl)
  have hlr : rows.length ≤ 4096 := by
    have := rows_len (rows := rows)
    rw [hre, bl_len] at this
    omega
  refine zs0 ?_
  refine iter_of (I := fun n σ => ∃ (j : Nat) (t : ByteArray), n = rows.length - j ∧ j ≤ rows.length ∧ bl t = ((rows.take j).map dotE).flatten ∧ t.size ≤ 512 * j ∧ σ = ⟨slots 43 [(3, .one (.own 0)), (5, .one (.str t)), (6, .one (.int .i64 j))], [.own 9 .str rows true mv]⟩) ?_ rows.length ⟨0, ⟨#[]⟩, by omega, by omega, rfl, Nat.le_refl _, rfl⟩
  rintro n σ K' ⟨j, t, rfl, hj, ht, hts, rfl⟩ hK'
  have w1 := IntWalk.i64_in ((j : Int) + 1) (by omega)
  by_cases g1 : j < rows.length
  case neg =>
    have e1 : decide ((j : Int) < rows.length) = false := decide_eq_false (by omega)
    rw [List.take_of_length_le (by omega)] at ht
    refine zs1 e1 ?_
    exact hk' _ (by rw [lay_of hre hrc, bl_append, ht]; rfl)
  have e1 : decide ((j : Int) < rows.length) = true := decide_eq_true (by omega)
  obtain ⟨x, hx⟩ : ∃ x, rows[j]? = some x := ⟨_, List.getElem?_eq_getElem g1⟩
  have rx := nth_of hx ST.dflt
  have ix : (0 : Int) ≤ j ∧ (j : Int) < rows.length := ⟨by omega, by omega⟩
  have hxs := clean_len (hrc x (List.mem_of_getElem? hx))
  have hnx : ((rows.take (j + 1)).map dotE).flatten = bl t ++ dotE x := by
    rw [List.take_add_one, hx, ht]; simp
  have fin : ∀ u : ByteArray, bl u = bl t ++ (if (bl x).head? = some 46 then [46] else []) → bl ((u ++ x) ++ (⟨#[13, 10]⟩ : ByteArray)) = ((rows.take (j + 1)).map dotE).flatten := fun u hu => by
    rw [bl_append, bl_append, hu, hnx, dotE]
    simp only [List.append_assoc]; rfl
  by_cases x0 : x.size = 0
  · have e2 : decide ((x.size : Int) > 0) = false := decide_eq_false (by omega)
    have hh : ¬ (bl x).head? = some 46 := fun h => by
      have : (bl x).length = 0 := by rw [bl_len]; exact x0
      rw [List.length_eq_zero_iff.1 this] at h; cases h
    have hsz : (t ++ x).size = t.size + x.size := ByteArray.size_append
    have hsz2 : ((t ++ x) ++ (⟨#[13, 10]⟩ : ByteArray)).size = t.size + x.size + 2 := by rw [ByteArray.size_append, hsz, h2]
    refine zs4 e1 rx e2 w1 ?_
    exact hK' _ _ (by omega) ⟨j + 1, _, rfl, by omega, fin t (by rw [if_neg hh, List.append_nil]), by rw [hsz2]; omega, rfl⟩
  have e2 : decide ((x.size : Int) > 0) = true := decide_eq_true (by omega)
  have i0 : (0 : Int) ≤ 0 ∧ (0 : Int) < x.size := ⟨Int.le_refl 0, by omega⟩
  have hb0 : (bl x).head? = some (bt x 0) := by
    rw [List.head?_eq_getElem?]; exact bl_get (by omega)
  by_cases x1 : bt x 0 = 46
  · have e3 : (bt x 0 == 46) = true := by simpa using x1
    have hsz0 : (t ++ (⟨#[46]⟩ : ByteArray)).size = t.size + 1 := by rw [ByteArray.size_append, h1]
    have hsz : ((t ++ (⟨#[46]⟩ : ByteArray)) ++ x).size = t.size + 1 + x.size := by rw [ByteArray.size_append, hsz0]
    have hsz2 : (((t ++ (⟨#[46]⟩ : ByteArray)) ++ x) ++ (⟨#[13, 10]⟩ : ByteArray)).size = t.size + 1 + x.size + 2 := by rw [ByteArray.size_append, hsz, h2]
    refine zs5 e1 rx e2 e3 w1 ?_
    exact hK' _ _ (by omega) ⟨j + 1, _, rfl, by omega, fin _ (by rw [hb0, x1, if_pos rfl, bl_append]; rfl), by rw [hsz2]; omega, rfl⟩
  · have e3 : (bt x 0 == 46) = false := by simpa using x1
    have hsz : (t ++ x).size = t.size + x.size := ByteArray.size_append
    have hsz2 : ((t ++ x) ++ (⟨#[13, 10]⟩ : ByteArray)).size = t.size + x.size + 2 := by rw [ByteArray.size_append, hsz, h2]
    refine zs5 e1 rx e2 e3 w1 ?_
    exact hK' _ _ (by omega) ⟨j + 1, _, rfl, by omega, fin t (by rw [hb0, if_neg (fun h => x1 (by simpa using h)), List.append_nil]), by rw [hsz2]; omega, rfl⟩
theorem assoc (a b c : ByteArray) : (a ++ b) ++ c = a ++ (b ++ c) := ByteArray.append_assoc
def q154 : Sense := ⟨false, fun os xs K => ∃ (s : Sd) (m : Md) (h o : ByteArray), stS 151 [] (o.size + 64 ≤ huge) s m h o (quitS s) (quitO o) os xs K⟩
theorem qk154 : SenseOK G Tryz.prog 154 q154 := SenseOK.anyL Γ0.ok (fun _ => []) [.mv 2, .box 0 8 3 IT] Tryz.func154 fun os xs K hh => by
  obtain ⟨s, m, h, o, rfl, rfl, hb, hk⟩ := hh
  simp only [huge] at hb
  have h1 : (⟨#[81, 85, 73, 84, 13, 10]⟩ : ByteArray).size = 6 := rfl
  refine zs0 ?_
  exact hk
def Γ153q : Sems := ext 152 s83 (Γ0)
theorem Γ153q.ok : SemsOK G Tryz.prog Γ153q := (Γ0.ok.ext Tryz.func152 rfl (by decide) ok45)
def q153 : Sense := ⟨false, fun os xs K => ∃ (s : Sd) (m : Md) (h o : ByteArray), stS 151 [] (o.size + 8589934656 ≤ huge ∧ (atOK m s ∧ m.adrs)) s m h o s (nameO m s o) os xs K⟩
theorem qk153 : SenseOK G Tryz.prog 153 q153 := SenseOK.anyL Γ153q.ok (fun _ => []) [.mv 2] Tryz.func153 fun os xs K hh => by
  obtain ⟨s, m, h, o, rfl, rfl, ⟨hb, hat, had⟩, hk⟩ := hh
  simp only [huge] at hb
  obtain ⟨n, k, r, hn, hx, hr, hw, hnl, hkl, ha, hb2⟩ := at_get hat had
  have ha' := ha
  have hb2' := hb2
  simp only [big] at ha' hb2'
  have rx := nth_of hx IT.dflt
  have rr := nth_of hr RT.dflt
  have ix : (0 : Int) ≤ n ∧ (n : Int) < s.rc.length := ⟨by omega, by omega⟩
  have ir : (0 : Int) ≤ k ∧ (k : Int) < m.rc.length := ⟨by omega, by omega⟩
  have h1 : (⟨#[82, 67, 80, 84, 32, 84, 79, 58, 60]⟩ : ByteArray).size = 9 := rfl
  have h2 : (⟨#[62, 13, 10]⟩ : ByteArray).size = 3 := rfl
  have hk' : K (stB 151 s m h (((o ++ (⟨#[82, 67, 80, 84, 32, 84, 79, 58, 60]⟩ : ByteArray)) ++ adrB r.1.1 r.1.2) ++ (⟨#[62, 13, 10]⟩ : ByteArray)) :: s.os3T) (.ret (.tup [])) := by
    have : ((o ++ (⟨#[82, 67, 80, 84, 32, 84, 79, 58, 60]⟩ : ByteArray)) ++ adrB r.1.1 r.1.2) ++ (⟨#[62, 13, 10]⟩ : ByteArray) = nameO m s o := by
      rw [nameO, nameL, hw, sayO, assoc, assoc, assoc, assoc]; rfl
    rw [this]; exact hk
  have h3 := adr_size r.1.1 r.1.2
  have h4 : (o ++ (⟨#[82, 67, 80, 84, 32, 84, 79, 58, 60]⟩ : ByteArray)).size = o.size + 9 := by rw [ByteArray.size_append, h1]
  have h5 : ((o ++ (⟨#[82, 67, 80, 84, 32, 84, 79, 58, 60]⟩ : ByteArray)) ++ adrB r.1.1 r.1.2).size = o.size + 9 + (adrB r.1.1 r.1.2).size := by rw [ByteArray.size_append, h4]
  refine zv ?_
  refine ⟨[], (.take 0 (.take 1 (.take 2 (.take 3 (.take 4 (.take 5 (.take 6 (.take 7 (.take 8 (.take 9 (.take 10 (.take 11 (.take 12 (.take 13 (.take 14 (.take 15 (.take 16 (.take 17 (.take 18 (.take 19 (.take 20 (.br 21 (.rest 22) .nil)))))))))))))))))))))), ⟨by kernel_rfl⟩, ?_⟩
  refine zs3 hn rx rr ?_
  refine ⟨[], (.take 0 (.take 1 (.take 2 (.take 3 (.take 4 (.take 5 (.take 6 (.br 7 (.take 8 (.take 9 (.rest 10))) .nil)))))))), ⟨by kernel_rfl⟩, ?_⟩
  refine zs0 ?_
  intro t ht
  obtain rfl := adr_of ht
  refine zs0 ?_
  rw [← hn]
  exact hk'
def Γ151q : Sems := ext 154 q154 (Γ0)
theorem Γ151q.ok : SemsOK G Tryz.prog Γ151q := (Γ0.ok.ext Tryz.func154 rfl (by decide) qk154)
def q151 : Sense := ⟨false, fun os xs K => ∃ (s : Sd) (m : Md) (h o : ByteArray) (c : Int), stS 151 [.one (.int .i64 c)] (o.size + 64 ≤ huge ∧ s.cd.length ≤ big) s m h o (quitS { s with cd := s.cd.map (zf c) }) (quitO o) os xs K⟩
theorem qk151 : SenseOK G Tryz.prog 151 q151 := SenseOK.anyL Γ151q.ok (fun _ => [0, 1, 4]) [.mv 2] Tryz.func151 fun os xs K hh => by
  obtain ⟨s, m, h, o, c, rfl, rfl, ⟨hb, hcl⟩, hk⟩ := hh
  have hcl' := hcl
  simp only [big] at hcl'
  refine zs0 ?_
  refine iter_of (I := fun n σ => ∃ j : Nat, n = s.cd.length - j ∧ j ≤ s.cd.length ∧ σ = ⟨slots 34 [(0, .one (.ref 0 0)), (1, .one (.int .i64 c)), (4, .one (.int .i64 j))], stB 151 s m h o :: ({ s with cd := zfAt c s.cd j } : Sd).os3⟩) ?_ s.cd.length ⟨0, by omega, by omega, by rw [zfAt_zero]; rfl⟩
  rintro n σ K' ⟨j, rfl, hj, rfl⟩ hK'
  have w1 := IntWalk.i64_in ((j : Int) + 1) (by omega)
  have hlen := zfAt_len c s.cd j
  by_cases g2 : j < s.cd.length
  case neg =>
    have e1 : decide ((j : Int) < ((zfAt c s.cd j).length : Int)) = false := decide_eq_false (by omega)
    have hal : zfAt c s.cd j = s.cd.map (zf c) := zfAt_all c s.cd (by omega)
    rw [hal] at e1 ⊢
    refine zs1 e1 ?_
    refine ⟨{ s with cd := s.cd.map (zf c) }, m, h, o, trr, trr, hb, ?_⟩
    refine zy ?_
    exact hk
  have e1 : decide ((j : Int) < ((zfAt c s.cd j).length : Int)) = true := decide_eq_true (by omega)
  obtain ⟨x, hx⟩ : ∃ x, s.cd[j]? = some x := ⟨_, List.getElem?_eq_getElem g2⟩
  have rx := nth_of (show (zfAt c s.cd j)[j]? = some x by rw [zfAt_get hj]; exact hx) IT.dflt
  have ix : (0 : Int) ≤ j ∧ (j : Int) < (zfAt c s.cd j).length := by rw [zfAt_len]; omega
  by_cases x0 : x = 0
  · have f0 : (x == 0) = true := by simpa using x0
    have hz : zf c x = c := by rw [zf, if_pos x0]
    refine zs4 e1 rx f0 w1 ?_
    exact hK' _ _ (by omega) ⟨j + 1, rfl, by omega, by rw [← zfAt_set hx, hz]; rfl⟩
  · have f0 : (x == 0) = false := by simpa using x0
    have hz : zf c x = x := by rw [zf, if_neg x0]
    refine zs4 e1 rx f0 w1 ?_
    exact hK' _ _ (by omega) ⟨j + 1, rfl, by omega, by rw [← zfAt_same hx hz]; rfl⟩
def q155 : Sense := ⟨false, fun os xs K => ∃ (s : Sd) (m : Md) (h o : ByteArray) (c : Int), stS 151 [.one (.int .i64 c)] (o.size + 64 ≤ huge ∧ (s.tk.length ≤ big ∧ toksOK s)) s m h o (quitS { s with cd := fillT s.tk s.cd c }) (quitO o) os xs K⟩
theorem qk155 : SenseOK G Tryz.prog 155 q155 := SenseOK.anyL Γ151q.ok (fun _ => [0, 1, 4]) [.mv 2] Tryz.func155 fun os xs K hh => by
  obtain ⟨s, m, h, o, c, rfl, rfl, ⟨hb, htl, ht⟩, hk⟩ := hh
  have htl' := htl
  simp only [big] at htl'
  refine zs0 ?_
  refine iter_of (I := fun n σ => ∃ j : Nat, n = s.tk.length - j ∧ j ≤ s.tk.length ∧ σ = ⟨slots 32 [(0, .one (.ref 0 0)), (1, .one (.int .i64 c)), (4, .one (.int .i64 j))], stB 151 s m h o :: ({ s with cd := fillT (s.tk.take j) s.cd c } : Sd).os3⟩) ?_ s.tk.length ⟨0, by omega, by omega, rfl⟩
  rintro n σ K' ⟨j, rfl, hj, rfl⟩ hK'
  have w1 := IntWalk.i64_in ((j : Int) + 1) (by omega)
  by_cases g1 : j < s.tk.length
  case neg =>
    have e1 : decide ((j : Int) < s.tk.length) = false := decide_eq_false (by omega)
    have e2 : s.tk.take j = s.tk := List.take_of_length_le (by omega)
    rw [e2]
    refine zs1 e1 ?_
    refine ⟨{ s with cd := fillT s.tk s.cd c }, m, h, o, trr, trr, hb, ?_⟩
    refine zy ?_
    exact hk
  have e1 : decide ((j : Int) < s.tk.length) = true := decide_eq_true (by omega)
  obtain ⟨x, hx⟩ : ∃ x, s.tk[j]? = some x := ⟨_, List.getElem?_eq_getElem g1⟩
  have rx := nth_of hx IT.dflt
  have hxt := ht x (List.mem_of_getElem? hx)
  have ix : (0 : Int) ≤ j ∧ (j : Int) < s.tk.length := ⟨by omega, by omega⟩
  have ic : (0 : Int) ≤ x ∧ x < (fillT (s.tk.take j) s.cd c).length := by rw [fillT_len]; exact hxt
  refine zs1 e1 ?_
  refine ⟨[], (.take 0 (.take 1 (.take 2 (.take 3 (.take 4 (.take 5 (.take 6 (.take 7 (.take 8 (.take 9 (.take 10 (.take 11 (.take 12 (.take 13 (.rest 14))))))))))))))), ⟨by kernel_rfl⟩, ?_⟩
  refine zs2 rx w1 ?_
  exact hK' _ _ (by omega) ⟨j + 1, rfl, by omega, by rw [fillT_next hx]; rfl⟩
def Γ125q : Sems := ext 25 q25 (ext 151 q151 (ext 152 s83 (ext 153 q153 (ext 154 q154 (ext 155 q155 (Γ0))))))
theorem Γ125q.ok : SemsOK G Tryz.prog Γ125q := ((((((Γ0.ok.ext Tryz.func155 rfl (by decide) qk155).ext Tryz.func154 rfl (by decide) qk154).ext Tryz.func153 rfl (by decide) qk153).ext Tryz.func152 rfl (by decide) ok45).ext Tryz.func151 rfl (by decide) qk151).ext Tryz.func25 rfl (by decide) qk25)
theorem good_le (c : Int) : goodC c = (decide (c ≥ 200) && decide (c ≤ 299)) := by
  unfold goodC
  congr 1
  exact decide_eq_decide.2 ⟨fun h => by omega, fun h => by omega⟩
theorem c451_le (c : Int) : c451 c = bif decide (c ≥ 300) && decide (c ≤ 399) then 451 else c := by
  unfold c451
  congr 2
  exact decide_eq_decide.2 ⟨fun h => by omega, fun h => by omega⟩
def q125 : Sense := ⟨false, fun os xs K => ∃ (s : Sd) (m : Md) (h o : ByteArray) (c : Int), stS 151 [.one (.int .i64 c)] ((stpO m h o ∧ mayT (bl m.body) = true) ∧ ((wfS m s ∧ stdI s) ∧ s.st ≠ 7)) s m h o (goesM m h s o c).1 (goesM m h s o c).2 os xs K⟩
theorem qk125 : SenseOK G Tryz.prog 125 q125 := SenseOK.anyL Γ125q.ok (fun _ => []) [.mv 2] Tryz.func125 fun os xs K hh => by
  obtain ⟨s, m, h, o, c, rfl, rfl, ⟨⟨⟨hb, hh, had⟩, hmt⟩, ⟨hw, hsI⟩, h7⟩, hk⟩ := hh
  have hb' := hb
  have hh' := hh
  obtain ⟨had1, hfl, hfd⟩ := had
  have had : m.adrs := ⟨had1, hfl, hfd⟩
  have hfl' := hfl
  have hfd' := hfd
  simp only [huge] at hb'
  simp only [big] at hh' hfl' hfd'
  have hb64 : o.size + 64 ≤ huge := by simp only [huge]; omega
  obtain ⟨hs, ⟨hr0, hrc⟩, hcd⟩ := hw
  have hs' := hs
  obtain ⟨l0, l1, l2, l3⟩ := hs'
  have l0' := l0
  have l1' := l1
  simp only [big] at l0' l1'
  obtain ⟨⟨s0, s7⟩, hlt, hi3, hi4, hi5⟩ := hsI
  have hgd : ∀ P : (Bool → Prop), P (goodC c) → P (decide (c ≥ 200) && decide (c ≤ 299)) := fun P h => by rw [← good_le]; exact h
  by_cases h0 : s.st = 0
  · have e0 : (s.st == 0) = true := by simpa using h0
    cases c1 : decide (c ≥ 200) with
    | false =>
      have hg : goodC c = false := by rw [good_le, c1]; rfl
      rw [goesM, if_neg (show ¬ s.st = 3 by omega), if_neg (show ¬ s.st = 4 by omega), if_neg (show ¬ s.st = 5 by omega), if_neg (show ¬ s.st = 6 by omega), beginM, hg] at hk
      refine zs2 c1 e0 ?_
      refine ⟨s, m, h, o, c, trr, trr, ⟨hb64, l2⟩, ?_⟩
      refine zy ?_
      exact hk
    | true =>
    cases c2 : decide (c ≤ 299) with
    | false =>
      have hg : goodC c = false := by rw [good_le, c1, c2]; rfl
      rw [goesM, if_neg (show ¬ s.st = 3 by omega), if_neg (show ¬ s.st = 4 by omega), if_neg (show ¬ s.st = 5 by omega), if_neg (show ¬ s.st = 6 by omega), beginM, hg] at hk
      refine zs3 c1 c2 e0 ?_
      refine ⟨s, m, h, o, c, trr, trr, ⟨hb64, l2⟩, ?_⟩
      refine zy ?_
      exact hk
    | true =>
      have hg : goodC c = true := by rw [good_le, c1, c2]; rfl
      rw [goesM, if_neg (show ¬ s.st = 3 by omega), if_neg (show ¬ s.st = 4 by omega), if_neg (show ¬ s.st = 5 by omega), if_neg (show ¬ s.st = 6 by omega), beginM, hg] at hk
      simp only [cond_true, if_pos h0] at hk
      refine zs3 c1 c2 e0 ?_
      refine Br.mk (fun g2 => ?_) (fun g2 => ?_)
      · rw [condT _ _ g2] at hk
        have hq : sayO o ((⟨#[76, 72, 76, 79, 32]⟩ : ByteArray) ++ h) = ((o ++ (⟨#[76, 72, 76, 79, 32]⟩ : ByteArray)) ++ h) ++ (⟨#[13, 10]⟩ : ByteArray) := by rw [sayO, assoc, assoc, assoc]
        have h1 : (⟨#[76, 72, 76, 79, 32]⟩ : ByteArray).size = 5 := rfl
        have h3 : (o ++ (⟨#[76, 72, 76, 79, 32]⟩ : ByteArray)).size = o.size + 5 := by rw [ByteArray.size_append, h1]
        have h4 : ((o ++ (⟨#[76, 72, 76, 79, 32]⟩ : ByteArray)) ++ h).size = o.size + 5 + h.size := by rw [ByteArray.size_append, h3]
        have h5 : (⟨#[13, 10]⟩ : ByteArray).size = 2 := rfl
        rw [hq] at hk
        refine zs0 ?_
        refine ⟨[], (.take 0 (.take 1 (.take 2 (.take 3 (.take 4 (.take 5 (.take 6 (.take 7 (.take 8 (.take 9 (.take 10 (.take 11 (.take 12 (.rest 13)))))))))))))), ⟨by kernel_rfl⟩, ?_⟩
        refine zs0 ?_
        exact hk
      · rw [condF _ _ g2] at hk
        have hq : sayO o ((⟨#[69, 72, 76, 79, 32]⟩ : ByteArray) ++ h) = ((o ++ (⟨#[69, 72, 76, 79, 32]⟩ : ByteArray)) ++ h) ++ (⟨#[13, 10]⟩ : ByteArray) := by rw [sayO, assoc, assoc, assoc]
        have h1 : (⟨#[69, 72, 76, 79, 32]⟩ : ByteArray).size = 5 := rfl
        have h3 : (o ++ (⟨#[69, 72, 76, 79, 32]⟩ : ByteArray)).size = o.size + 5 := by rw [ByteArray.size_append, h1]
        have h4 : ((o ++ (⟨#[69, 72, 76, 79, 32]⟩ : ByteArray)) ++ h).size = o.size + 5 + h.size := by rw [ByteArray.size_append, h3]
        have h5 : (⟨#[13, 10]⟩ : ByteArray).size = 2 := rfl
        rw [hq] at hk
        refine zs0 ?_
        refine ⟨[], (.take 0 (.take 1 (.take 2 (.take 3 (.take 4 (.take 5 (.take 6 (.take 7 (.take 8 (.take 9 (.take 10 (.take 11 (.take 12 (.rest 13)))))))))))))), ⟨by kernel_rfl⟩, ?_⟩
        refine zs0 ?_
        exact hk
  have e0 : (s.st == 0) = false := by simpa using h0
  by_cases h1 : s.st = 1
  · have e1 : (s.st == 1) = true := by simpa using h1
    cases c1 : decide (c ≥ 200) with
    | false =>
      have hg : goodC c = false := by rw [good_le, c1]; rfl
      rw [goesM, if_neg (show ¬ s.st = 3 by omega), if_neg (show ¬ s.st = 4 by omega), if_neg (show ¬ s.st = 5 by omega), if_neg (show ¬ s.st = 6 by omega), beginM, hg] at hk
      refine zs3 c1 e0 e1 ?_
      refine ⟨s, m, h, o, c, trr, trr, ⟨hb64, l2⟩, ?_⟩
      refine zy ?_
      exact hk
    | true =>
    cases c2 : decide (c ≤ 299) with
    | false =>
      have hg : goodC c = false := by rw [good_le, c1, c2]; rfl
      rw [goesM, if_neg (show ¬ s.st = 3 by omega), if_neg (show ¬ s.st = 4 by omega), if_neg (show ¬ s.st = 5 by omega), if_neg (show ¬ s.st = 6 by omega), beginM, hg] at hk
      refine zs4 c1 c2 e0 e1 ?_
      refine ⟨s, m, h, o, c, trr, trr, ⟨hb64, l2⟩, ?_⟩
      refine zy ?_
      exact hk
    | true =>
      have hg : goodC c = true := by rw [good_le, c1, c2]; rfl
      rw [goesM, if_neg (show ¬ s.st = 3 by omega), if_neg (show ¬ s.st = 4 by omega), if_neg (show ¬ s.st = 5 by omega), if_neg (show ¬ s.st = 6 by omega), beginM, hg] at hk
      simp only [cond_true, if_neg h0, if_pos h1] at hk
      have z1 : (⟨#[77, 65, 73, 76, 32, 70, 82, 79, 77, 58, 60]⟩ : ByteArray).size = 11 := rfl
      have z2 : (⟨#[62, 13, 10]⟩ : ByteArray).size = 3 := rfl
      have z0 : (⟨#[]⟩ : ByteArray).size = 0 := rfl
      have z3 : (o ++ (⟨#[77, 65, 73, 76, 32, 70, 82, 79, 77, 58, 60]⟩ : ByteArray)).size = o.size + 11 := by rw [ByteArray.size_append, z1]
      refine zs4 c1 c2 e0 e1 ?_
      refine Br.mk (fun g2 => ?_) (fun g2 => ?_)
      · have g3 : m.nul = false := by simpa using g2
        rw [condF _ _ g3] at hk
        have hq : sayO o (((⟨#[77, 65, 73, 76, 32, 70, 82, 79, 77, 58, 60]⟩ : ByteArray) ++ adrB m.fl m.fd) ++ (⟨#[62]⟩ : ByteArray)) = ((o ++ (⟨#[77, 65, 73, 76, 32, 70, 82, 79, 77, 58, 60]⟩ : ByteArray)) ++ adrB m.fl m.fd) ++ (⟨#[62, 13, 10]⟩ : ByteArray) := by rw [sayO, assoc, assoc, assoc, assoc]; rfl
        rw [hq] at hk
        have z4 := adr_size m.fl m.fd
        have z5 : ((o ++ (⟨#[77, 65, 73, 76, 32, 70, 82, 79, 77, 58, 60]⟩ : ByteArray)) ++ adrB m.fl m.fd).size = o.size + 11 + (adrB m.fl m.fd).size := by rw [ByteArray.size_append, z3]
        refine zs0 ?_
        intro t ht
        obtain rfl := adr_of ht
        refine zs0 ?_
        exact hk
      · have g3 : m.nul = true := by simpa using g2
        rw [condT _ _ g3] at hk
        have hq : sayO o (((⟨#[77, 65, 73, 76, 32, 70, 82, 79, 77, 58, 60]⟩ : ByteArray) ++ ⟨#[]⟩) ++ (⟨#[62]⟩ : ByteArray)) = ((o ++ (⟨#[77, 65, 73, 76, 32, 70, 82, 79, 77, 58, 60]⟩ : ByteArray)) ++ (⟨#[]⟩ : ByteArray)) ++ (⟨#[62, 13, 10]⟩ : ByteArray) := by rw [sayO, assoc, assoc, assoc, assoc]; rfl
        rw [hq] at hk
        have z5 : ((o ++ (⟨#[77, 65, 73, 76, 32, 70, 82, 79, 77, 58, 60]⟩ : ByteArray)) ++ (⟨#[]⟩ : ByteArray)).size = o.size + 11 := by rw [ByteArray.size_append, z3, z0]
        refine zs0 ?_
        exact hk
  have e1 : (s.st == 1) = false := by simpa using h1
  by_cases h2 : s.st = 2
  · have e2 : (s.st == 2) = true := by simpa using h2
    cases c1 : decide (c ≥ 200) with
    | false =>
      have hg : goodC c = false := by rw [good_le, c1]; rfl
      rw [goesM, if_neg (show ¬ s.st = 3 by omega), if_neg (show ¬ s.st = 4 by omega), if_neg (show ¬ s.st = 5 by omega), if_neg (show ¬ s.st = 6 by omega), beginM, hg] at hk
      refine zs4 c1 e0 e1 e2 ?_
      refine ⟨s, m, h, o, c, trr, trr, ⟨hb64, l2⟩, ?_⟩
      refine zy ?_
      exact hk
    | true =>
    cases c2 : decide (c ≤ 299) with
    | false =>
      have hg : goodC c = false := by rw [good_le, c1, c2]; rfl
      rw [goesM, if_neg (show ¬ s.st = 3 by omega), if_neg (show ¬ s.st = 4 by omega), if_neg (show ¬ s.st = 5 by omega), if_neg (show ¬ s.st = 6 by omega), beginM, hg] at hk
      refine zs5 c1 c2 e0 e1 e2 ?_
      refine ⟨s, m, h, o, c, trr, trr, ⟨hb64, l2⟩, ?_⟩
      refine zy ?_
      exact hk
    | true =>
      have hg : goodC c = true := by rw [good_le, c1, c2]; rfl
      rw [goesM, if_neg (show ¬ s.st = 3 by omega), if_neg (show ¬ s.st = 4 by omega), if_neg (show ¬ s.st = 5 by omega), if_neg (show ¬ s.st = 6 by omega), beginM, hg] at hk
      simp only [cond_true, if_neg h0, if_neg h1] at hk
      have hp := List.length_pos_iff.2 hr0
      refine zs5 c1 c2 e0 e1 e2 ?_
      refine ⟨{ s with st := 3, at_ := 0 }, m, h, o, trr, trr, ⟨hb, ⟨⟨Int.le_refl 0, by show (0 : Int) < s.rc.length; omega⟩, hrc⟩, had⟩, ?_⟩
      refine zy ?_
      exact hk
  have e2 : (s.st == 2) = false := by simpa using h2
  by_cases h3 : s.st = 3
  · have e3 : (s.st == 3) = true := by simpa using h3
    obtain ⟨⟨⟨a0, a1⟩, a2⟩, a3⟩ := hi3 h3
    have w1 := IntWalk.i64_in (s.at_ + 1) (by omega)
    have z1 : ((⟨#[68, 65, 84, 65, 13, 10]⟩ : ByteArray)).size = 6 := rfl
    rw [goesM, if_pos h3] at hk
    have hd : ∀ o : ByteArray, sayO o (⟨#[68, 65, 84, 65]⟩ : ByteArray) = o ++ (⟨#[68, 65, 84, 65, 13, 10]⟩ : ByteArray) := fun o => rfl
    have fin : ∀ s2 : Sd, s2.rc = s.rc → s2.at_ = s.at_ + 1 → (bif goodC c then { s with tk := s.tk ++ [s.at_], at_ := s.at_ + 1 } else { s with cd := s.cd.set s.at_.toNat c, at_ := s.at_ + 1 } : Sd) = s2 →
        namedM m s o c = if s.at_ + 1 < s.rc.length then (s2, nameO m s2 o) else if s2.tk.length = 0 then (quitS s2, quitO o) else ({ s2 with st := 4, at_ := 0 }, o ++ (⟨#[68, 65, 84, 65, 13, 10]⟩ : ByteArray)) := fun s2 h1 h2 h3 => by
      rw [namedM]
      simp only [h3, h1, h2, hd]
    cases c1 : decide (c ≥ 200) with
    | false =>
      have hg : goodC c = false := by rw [good_le, c1]; rfl
      have hq := fin { s with cd := s.cd.set s.at_.toNat c, at_ := s.at_ + 1 } rfl rfl (by rw [hg]; rfl)
      rw [hq] at hk
      have ic : (0 : Int) ≤ s.at_ ∧ s.at_ < s.cd.length := ⟨a0, by omega⟩
      refine zs5 c1 e0 e1 e2 e3 ?_
      refine ⟨[], (.take 0 (.take 1 (.take 2 (.take 3 (.take 4 (.take 5 (.take 6 (.take 7 (.take 8 (.rest 9)))))))))), ⟨by kernel_rfl⟩, ?_⟩
      refine zs1 w1 ?_
      by_cases g2 : s.at_ + 1 < s.rc.length
      · have e4 : decide (s.at_ + 1 < ((s.cd.set s.at_.toNat c).length : Int)) = true := decide_eq_true (by rw [List.length_set, hcd]; omega)
        rw [if_pos g2] at hk
        refine ⟨[], (.take 0 (.take 1 (.take 2 (.take 3 (.take 4 (.take 5 (.take 6 (.take 7 (.take 8 (.take 9 .done)))))))))), ⟨by kernel_rfl⟩, ?_⟩
        refine zs1 e4 ?_
        refine ⟨{ s with cd := s.cd.set s.at_.toNat c, at_ := s.at_ + 1 }, m, h, o, trr, trr, ⟨hb, ⟨⟨Int.le_add_one a0, g2⟩, hrc⟩, had⟩, ?_⟩
        refine zy ?_
        exact hk
      have e4 : decide (s.at_ + 1 < ((s.cd.set s.at_.toNat c).length : Int)) = false := decide_eq_false (by rw [List.length_set, hcd]; omega)
      rw [if_neg g2] at hk
      by_cases k0 : (s.tk).length = 0
      · have e5 : (((s.tk).length : Int) == 0) = true := by rw [k0]; rfl
        have hk' : K (stB 151 (quitS { s with cd := s.cd.set s.at_.toNat c, at_ := s.at_ + 1 }) m h (quitO o) :: (quitS { s with cd := s.cd.set s.at_.toNat c, at_ := s.at_ + 1 }).os3T) (.ret (.tup [])) := by
          rw [if_pos (show ({ s with cd := s.cd.set s.at_.toNat c, at_ := s.at_ + 1 } : Sd).tk.length = 0 from k0)] at hk; exact hk
        refine ⟨[], (.take 0 (.take 1 (.take 2 (.take 3 (.take 4 (.take 5 (.take 6 (.take 7 (.take 8 (.take 9 .done)))))))))), ⟨by kernel_rfl⟩, ?_⟩
        refine zs2 e4 e5 ?_
        refine ⟨{ s with cd := s.cd.set s.at_.toNat c, at_ := s.at_ + 1 }, m, h, o, trr, trr, hb64, ?_⟩
        refine zy ?_
        exact hk'
      have e5 : (((s.tk).length : Int) == 0) = false := by rw [beq_eq_false_iff_ne]; exact fun h => k0 (by omega)
      rw [if_neg (show ¬ ({ s with cd := s.cd.set s.at_.toNat c, at_ := s.at_ + 1 } : Sd).tk.length = 0 from k0)] at hk
      refine ⟨[], (.take 0 (.take 1 (.take 2 (.take 3 (.take 4 (.take 5 (.take 6 (.take 7 (.take 8 (.take 9 .done)))))))))), ⟨by kernel_rfl⟩, ?_⟩
      refine zs2 e4 e5 ?_
      exact hk
    | true =>
    cases c2 : decide (c ≤ 299) with
    | false =>
      have hg : goodC c = false := by rw [good_le, c1, c2]; rfl
      have hq := fin { s with cd := s.cd.set s.at_.toNat c, at_ := s.at_ + 1 } rfl rfl (by rw [hg]; rfl)
      rw [hq] at hk
      have ic : (0 : Int) ≤ s.at_ ∧ s.at_ < s.cd.length := ⟨a0, by omega⟩
      refine zs6 c1 c2 e0 e1 e2 e3 ?_
      refine ⟨[], (.take 0 (.take 1 (.take 2 (.take 3 (.take 4 (.take 5 (.take 6 (.take 7 (.take 8 (.rest 9)))))))))), ⟨by kernel_rfl⟩, ?_⟩
      refine zs1 w1 ?_
      by_cases g2 : s.at_ + 1 < s.rc.length
      · have e4 : decide (s.at_ + 1 < ((s.cd.set s.at_.toNat c).length : Int)) = true := decide_eq_true (by rw [List.length_set, hcd]; omega)
        rw [if_pos g2] at hk
        refine ⟨[], (.take 0 (.take 1 (.take 2 (.take 3 (.take 4 (.take 5 (.take 6 (.take 7 (.take 8 (.take 9 .done)))))))))), ⟨by kernel_rfl⟩, ?_⟩
        refine zs1 e4 ?_
        refine ⟨{ s with cd := s.cd.set s.at_.toNat c, at_ := s.at_ + 1 }, m, h, o, trr, trr, ⟨hb, ⟨⟨Int.le_add_one a0, g2⟩, hrc⟩, had⟩, ?_⟩
        refine zy ?_
        exact hk
      have e4 : decide (s.at_ + 1 < ((s.cd.set s.at_.toNat c).length : Int)) = false := decide_eq_false (by rw [List.length_set, hcd]; omega)
      rw [if_neg g2] at hk
      by_cases k0 : (s.tk).length = 0
      · have e5 : (((s.tk).length : Int) == 0) = true := by rw [k0]; rfl
        have hk' : K (stB 151 (quitS { s with cd := s.cd.set s.at_.toNat c, at_ := s.at_ + 1 }) m h (quitO o) :: (quitS { s with cd := s.cd.set s.at_.toNat c, at_ := s.at_ + 1 }).os3T) (.ret (.tup [])) := by
          rw [if_pos (show ({ s with cd := s.cd.set s.at_.toNat c, at_ := s.at_ + 1 } : Sd).tk.length = 0 from k0)] at hk; exact hk
        refine ⟨[], (.take 0 (.take 1 (.take 2 (.take 3 (.take 4 (.take 5 (.take 6 (.take 7 (.take 8 (.take 9 .done)))))))))), ⟨by kernel_rfl⟩, ?_⟩
        refine zs2 e4 e5 ?_
        refine ⟨{ s with cd := s.cd.set s.at_.toNat c, at_ := s.at_ + 1 }, m, h, o, trr, trr, hb64, ?_⟩
        refine zy ?_
        exact hk'
      have e5 : (((s.tk).length : Int) == 0) = false := by rw [beq_eq_false_iff_ne]; exact fun h => k0 (by omega)
      rw [if_neg (show ¬ ({ s with cd := s.cd.set s.at_.toNat c, at_ := s.at_ + 1 } : Sd).tk.length = 0 from k0)] at hk
      refine ⟨[], (.take 0 (.take 1 (.take 2 (.take 3 (.take 4 (.take 5 (.take 6 (.take 7 (.take 8 (.take 9 .done)))))))))), ⟨by kernel_rfl⟩, ?_⟩
      refine zs2 e4 e5 ?_
      exact hk
    | true =>
      have hg : goodC c = true := by rw [good_le, c1, c2]; rfl
      have hq := fin { s with tk := s.tk ++ [s.at_], at_ := s.at_ + 1 } rfl rfl (by rw [hg]; rfl)
      rw [hq] at hk
      refine zs6 c1 c2 e0 e1 e2 e3 ?_
      refine ⟨[2], (.take 0 (.take 1 (.take 2 (.take 3 (.take 4 (.take 5 (.take 6 (.take 7 (.take 8 (.br 9 (.br 10 (.rest 11) .nil) .nil)))))))))), ⟨by kernel_rfl⟩, ?_⟩
      refine zs1 w1 ?_
      by_cases g2 : s.at_ + 1 < s.rc.length
      · have e4 : decide (s.at_ + 1 < (s.cd.length : Int)) = true := decide_eq_true (by rw [hcd]; omega)
        rw [if_pos g2] at hk
        refine ⟨[], (.take 0 (.take 1 (.take 2 (.take 3 (.take 4 (.take 5 (.take 6 (.take 7 (.take 8 (.take 9 .done)))))))))), ⟨by kernel_rfl⟩, ?_⟩
        refine zs1 e4 ?_
        refine ⟨{ s with tk := s.tk ++ [s.at_], at_ := s.at_ + 1 }, m, h, o, trr, trr, ⟨hb, ⟨⟨Int.le_add_one a0, g2⟩, hrc⟩, had⟩, ?_⟩
        refine zy ?_
        exact hk
      have e4 : decide (s.at_ + 1 < (s.cd.length : Int)) = false := decide_eq_false (by rw [hcd]; omega)
      rw [if_neg g2] at hk
      by_cases k0 : (s.tk ++ [s.at_]).length = 0
      · have e5 : (((s.tk ++ [s.at_]).length : Int) == 0) = true := by rw [k0]; rfl
        have hk' : K (stB 151 (quitS { s with tk := s.tk ++ [s.at_], at_ := s.at_ + 1 }) m h (quitO o) :: (quitS { s with tk := s.tk ++ [s.at_], at_ := s.at_ + 1 }).os3T) (.ret (.tup [])) := by
          rw [if_pos (show ({ s with tk := s.tk ++ [s.at_], at_ := s.at_ + 1 } : Sd).tk.length = 0 from k0)] at hk; exact hk
        refine ⟨[], (.take 0 (.take 1 (.take 2 (.take 3 (.take 4 (.take 5 (.take 6 (.take 7 (.take 8 (.take 9 .done)))))))))), ⟨by kernel_rfl⟩, ?_⟩
        refine zs2 e4 e5 ?_
        refine ⟨{ s with tk := s.tk ++ [s.at_], at_ := s.at_ + 1 }, m, h, o, trr, trr, hb64, ?_⟩
        refine zy ?_
        exact hk'
      have e5 : (((s.tk ++ [s.at_]).length : Int) == 0) = false := by rw [beq_eq_false_iff_ne]; exact fun h => k0 (by omega)
      rw [if_neg (show ¬ ({ s with tk := s.tk ++ [s.at_], at_ := s.at_ + 1 } : Sd).tk.length = 0 from k0)] at hk
      refine ⟨[], (.take 0 (.take 1 (.take 2 (.take 3 (.take 4 (.take 5 (.take 6 (.take 7 (.take 8 (.take 9 .done)))))))))), ⟨by kernel_rfl⟩, ?_⟩
      refine zs2 e4 e5 ?_
      exact hk
  have e3 : (s.st == 3) = false := by simpa using h3
  by_cases h4 : s.st = 4
  · have e4 : (s.st == 4) = true := by simpa using h4
    obtain ⟨a0, a1⟩ := hi4 h4
    rw [goesM, if_neg h3, if_pos h4, askedM] at hk
    by_cases g0 : c = 354
    · have f0 : (c != 354) = false := by simp [bne, g0]
      have hg1 : decide (c ≥ 200) = true := decide_eq_true (by omega)
      have hg2 : decide (c ≤ 299) = false := decide_eq_false (by omega)
      have hl := layO_size m.body
      have hml : m.body.size ≤ 8192 := by
        rw [mayT, Bool.and_eq_true, decide_eq_true_eq, bl_len] at hmt
        exact hmt.1
      rw [if_pos g0] at hk
      refine zs8 hg1 hg2 e0 e1 e2 e3 e4 f0 ?_
      refine ⟨[], (.take 0 (.take 1 (.take 2 (.take 3 (.take 4 (.take 5 (.take 6 (.take 7 (.take 8 (.take 9 (.br 10 (.take 11 (.rest 12)) .nil))))))))))), ⟨by kernel_rfl⟩, ?_⟩
      refine zs0 ?_
      exact hk
    have f0 : (c != 354) = true := by simpa [bne] using g0
    rw [if_neg g0] at hk
    cases c1 : decide (c ≥ 200) with
    | false =>
      have hg : goodC c = false := by rw [good_le, c1]; rfl
      rw [hg] at hk
      refine zs7 c1 e0 e1 e2 e3 e4 f0 ?_
      refine ⟨s, m, h, o, c, trr, trr, ⟨hb64, l1, a1⟩, ?_⟩
      refine zy ?_
      exact hk
    | true =>
    cases c2 : decide (c ≤ 299) with
    | false =>
      have hg : goodC c = false := by rw [good_le, c1, c2]; rfl
      rw [hg] at hk
      refine zs8 c1 c2 e0 e1 e2 e3 e4 f0 ?_
      refine ⟨s, m, h, o, c, trr, trr, ⟨hb64, l1, a1⟩, ?_⟩
      refine zy ?_
      exact hk
    | true =>
      have hg : goodC c = true := by rw [good_le, c1, c2]; rfl
      rw [hg] at hk
      refine zs8 c1 c2 e0 e1 e2 e3 e4 f0 ?_
      refine ⟨s, m, h, o, 451, trr, trr, ⟨hb64, l1, a1⟩, ?_⟩
      refine zy ?_
      exact hk
  have e4 : (s.st == 4) = false := by simpa using h4
  by_cases h5 : s.st = 5
  · have e5 : (s.st == 5) = true := by simpa using h5
    obtain ⟨⟨a0, a1⟩, a2⟩ := hi5 h5
    have w1 := IntWalk.i64_in (s.at_ + 1) (by omega)
    rw [goesM, if_neg h3, if_neg h4, if_pos h5] at hk
    obtain ⟨x, hx⟩ : ∃ x, s.tk[s.at_.toNat]? = some x := ⟨_, List.getElem?_eq_getElem (by omega)⟩
    have rx : rdx s.tk s.at_.toNat IT.dflt = x := by rw [rdx, List.getD_eq_getElem?_getD, hx]; rfl
    have hxt := a2 x (List.mem_of_getElem? hx)
    have ix : (0 : Int) ≤ s.at_ ∧ s.at_ < s.tk.length := ⟨a0, a1⟩
    have step : ∀ d : Int, c451 c = d → (s.lm = false → K (stB 151 (quitS { s with cd := fillT s.tk s.cd d }) m h (quitO o) :: (quitS { s with cd := fillT s.tk s.cd d }).os3T) (.ret (.tup []))) ∧
        (s.lm = true → s.at_ + 1 = s.tk.length → K (stB 151 (quitS { s with cd := s.cd.set x.toNat d, at_ := s.at_ + 1 }) m h (quitO o) :: (quitS { s with cd := s.cd.set x.toNat d, at_ := s.at_ + 1 }).os3T) (.ret (.tup []))) ∧
        (s.lm = true → ¬ s.at_ + 1 = s.tk.length → K (stB 151 { s with cd := s.cd.set x.toNat d, at_ := s.at_ + 1 } m h o :: ({ s with cd := s.cd.set x.toNat d, at_ := s.at_ + 1 } : Sd).os3T) (.ret (.tup []))) := fun d hd => by
      subst hd
      rw [← rx]
      refine ⟨fun hl => ?_, fun hl h2 => ?_, fun hl h2 => ?_⟩
      · rw [bodiedM, condF _ _ hl] at hk; exact hk
      · rw [bodiedM, condT _ _ hl] at hk; simp only [if_pos h2] at hk; exact hk
      · rw [bodiedM, condT _ _ hl] at hk; simp only [if_neg h2] at hk; exact hk
    clear hk
    have hgf : ∃ b1 b2 b3 b4, decide (c ≥ 200) = b1 ∧ decide (c ≤ 299) = b2 ∧ decide (c ≥ 300) = b3 ∧ decide (c ≤ 399) = b4 := ⟨_, _, _, _, rfl, rfl, rfl, rfl⟩
    obtain ⟨b1, b2, b3, b4, c1, c2, c3, c4⟩ := hgf
    have hc : ∃ d, c451 c = d ∧ (bif b3 && b4 then d = 451 else d = c) := ⟨_, rfl, by rw [c451_le, c3, c4]; cases b3 <;> cases b4 <;> rfl⟩
    obtain ⟨d, hd, hd2⟩ := hc
    obtain ⟨k1, k2, k3⟩ := step d hd
    ((conv => whnf); repeat ((first | refine Br.t ?_ | refine Br.f ?_ | refine ob ?_ | refine ⟨_, rfl, ?_⟩ | refine ⟨_, _, rfl, ?_⟩ | refine ⟨_, _, _, rfl, ?_⟩ | refine ⟨_, _, _, _, rfl, ?_⟩ | simp only [c1, c2, e0, e1, e2, e3, e4, e5, c3, c4]); (conv => whnf)))
    cases b1 <;> cases b2 <;> cases b3 <;> cases b4
    all_goals
      first
        | (exfalso; have h1 := of_decide_eq_false c1; have h2 := of_decide_eq_false c2; omega)
        | (exfalso; have h1 := of_decide_eq_true c2; have h2 := of_decide_eq_true c3; omega)
        | (exfalso; have h1 := of_decide_eq_false c1; have h2 := of_decide_eq_true c3; omega)
        | (exfalso; have h1 := of_decide_eq_false c3; have h2 := of_decide_eq_false c4; omega)
        | (exfalso; have h1 := of_decide_eq_true c2; have h2 := of_decide_eq_false c4; omega)
        | skip
    all_goals
      obtain rfl : d = _ := hd2
      refine zs0 ?_
      refine Br.mk (fun g3 => ?_) (fun g3 => ?_)
      · have g4 : s.lm = false := by simpa using g3
        refine zs0 ?_
        refine ⟨s, m, h, o, _, trr, trr, ⟨hb64, l1, a2⟩, ?_⟩
        refine zy ?_
        exact k1 g4
      have g4 : s.lm = true := by simpa using g3
      refine zs0 ?_
      refine ⟨[], (.take 0 (.take 1 (.take 2 (.take 3 (.take 4 (.take 5 (.take 6 (.take 7 (.take 8 (.take 9 (.take 10 (.take 11 (.take 12 (.take 13 (.take 14 (.rest 15)))))))))))))))), ⟨by kernel_rfl⟩, ?_⟩
      refine zs2 rx w1 ?_
      refine ⟨[], (.take 0 (.take 1 (.take 2 (.take 3 (.take 4 (.take 5 (.take 6 (.take 7 (.take 8 (.take 9 .done)))))))))), ⟨by kernel_rfl⟩, ?_⟩
      by_cases g5 : s.at_ + 1 = s.tk.length
      · have e6 : decide (s.at_ + 1 ≥ (s.tk.length : Int)) = true := decide_eq_true (by omega)
        refine zs2 w1 e6 ?_
        refine ⟨{ s with cd := s.cd.set x.toNat _, at_ := s.at_ + 1 }, m, h, o, trr, trr, hb64, ?_⟩
        refine zy ?_
        exact k2 g4 g5
      · have e6 : decide (s.at_ + 1 ≥ (s.tk.length : Int)) = false := decide_eq_false (by omega)
        refine zs2 w1 e6 ?_
        exact k3 g4 g5
  have e5 : (s.st == 5) = false := by simpa using h5
  have h6 : s.st = 6 := by omega
  have e6 : (s.st == 6) = true := by simpa using h6
  rw [goesM, if_neg h3, if_neg h4, if_neg h5, if_pos h6] at hk
  cases c1 : decide (c ≥ 200) with
  | false =>
    have hg : goodC c = false := by rw [good_le, c1]; rfl
    refine zs8 c1 e0 e1 e2 e3 e4 e5 e6 ?_
    exact hk
  | true =>
  cases c2 : decide (c ≤ 299) with
  | false =>
    have hg : goodC c = false := by rw [good_le, c1, c2]; rfl
    ((conv => whnf); repeat ((first | refine Br.t ?_ | refine Br.f ?_ | refine ob ?_ | refine ⟨_, rfl, ?_⟩ | refine ⟨_, _, rfl, ?_⟩ | refine ⟨_, _, _, rfl, ?_⟩ | refine ⟨_, _, _, _, rfl, ?_⟩ | simp only [c1, c2, e0, e1, e2, e3, e4, e5, e6]); (conv => whnf)))
    exact hk
  | true =>
    have hg : goodC c = true := by rw [good_le, c1, c2]; rfl
    ((conv => whnf); repeat ((first | refine Br.t ?_ | refine Br.f ?_ | refine ob ?_ | refine ⟨_, rfl, ?_⟩ | refine ⟨_, _, rfl, ?_⟩ | refine ⟨_, _, _, rfl, ?_⟩ | refine ⟨_, _, _, _, rfl, ?_⟩ | simp only [c1, c2, e0, e1, e2, e3, e4, e5, e6]); (conv => whnf)))
    exact hk
def Γ81q : Sems := ext 69 q69 (ext 124 q124 (ext 117 (lendS q117) (ext 115 (lendS q115) (ext 119 (lendS q119) (ext 125 q125 (Γ0))))))
theorem Γ81q.ok : SemsOK Gr Tryz.prog Γ81q := ((((((Γ0.ok.ext Tryz.func125 rfl (by decide) qk125).ext Tryz.func119 rfl (by decide) (SenseOK.lendL qk119)).ext Tryz.func115 rfl (by decide) (SenseOK.lendL qk115)).ext Tryz.func117 rfl (by decide) (SenseOK.lendL qk117)).ext Tryz.func124 rfl (by decide) qk124).ext Tryz.func69 rfl (by decide) qk69)
def tkB (s : Sd) (k : Nat) (ln : C) (m : Md) (h o : ByteArray) : Ob := .box 151 (s.cs (.own k) (.own (k + 1)) (.own (k + 2)) ln ++ (m.cs (.sl RT m.rc) ++ [.str h, .str o]))
def hearD (m : Md) (s : Sd) (h : ByteArray) (b : List Int) : Prop := hearO m s h b ∧ (fmP (bl s.rest) s.skip = true ∧ mayT (bl m.body) = true)
def q81 : Sense := ⟨false, fun os xs K => ∃ (s : Sd) (m : Md) (h : ByteArray) (b : List Int), xs = [.agg s.fz, .agg (m.cs (.sl RT m.rc)), .one (.sl (.int .u8) b), .one (.str h)] ∧ os = [] ∧ hearD m s h b ∧
  (s.st = 7 → K [] (.ret (.tup [.agg s.fz, .one (.str ⟨#[]⟩)]))) ∧
  (s.st ≠ 7 → ∀ m0 m1 m2 m3, K ((heardM m h s b).1.osA m0 m1 m2 m3) (.ret (.tup [.agg ((heardM m h s b).1.ow 0), .one (.str (heardM m h s b).2)])))⟩
theorem qk81 : SenseOK Gr Tryz.prog 81 q81 := SenseOK.anyL Γ81q.ok (fun _ => [8, 10, 12, 13]) [.out 13 9 ST] Tryz.func81 fun os xs K hq => by
  obtain ⟨s, m, h, b, rfl, rfl, ⟨⟨⟨⟨hh, had⟩, hbd⟩, ⟨hln, hsm⟩, ⟨hb, hby⟩, hcut⟩, hfm, hmt⟩, hk7, hk⟩ := hq
  by_cases h7 : s.st = 7
  · have e7 : (s.st == 7) = true := by simpa using h7
    refine zs1 e7 ?_
    exact hk7 h7
  have e7 : (s.st == 7) = false := by simpa using h7
  clear hk7
  have hk := hk h7
  have hln := hln h7
  have hb' := hb
  simp only [big] at hb'
  have hsc := scan_len b (bl s.rest) s.skip
  refine zs1 e7 ?_
  refine ⟨[], (.take 0 (.take 2 (.take 3 (.br 1 (.rest 4) .nil)))), ⟨by kernel_rfl⟩, ?_⟩
  refine zs0 ?_
  intro m0 m1 m2 m3
  refine zs0 ?_
  refine ⟨fun hn r hr => ?_, fun T hT hne mv r hr => ?_⟩
  · have hr2 : r = strOfNums (frmM (bl s.rest) s.skip b).1.1 := by rw [← hr, nums_bl]
    have hm : heardM m h s b = ({ s with wt := 0, rest := r, skip := (frmM (bl s.rest) s.skip b).1.2 }, ByteArray.empty) := by
      rw [heardM, hn, hr2]; rfl
    rw [hm] at hk
    refine zs0 ?_
    refine iter_of (I := fun n σ => ∃ f0 f1 f2 f3 : Bool, n = 0 ∧ σ = ⟨slots 132 [(8, .one (.ref 0 0)), (10, .one (.ref 1 0)), (12, .one .nil), (13, .one (.int .i64 0))], [.box 43 zSd, tkB { s with wt := 0, rest := r, skip := (frmM (bl s.rest) s.skip b).1.2 } 2 (.own 5) m h ByteArray.empty, .own 3 IT s.rc true f0, .own 3 IT s.tk true f1, .own 3 IT s.cd true f2, .own 9 ST s.ln true f3]⟩) ?_ 0 ⟨_, _, _, _, rfl, rfl⟩
    rintro n σ K' ⟨f0, f1, f2, f3, rfl, rfl⟩ _
    refine zs0 ?_
    refine ⟨[0, 2, 3, 4, 5, 6], (.take 0 (.take 1 (.take 2 (.take 3 (.take 4 (.take 5 (.take 6 (.take 7 (.br 8 (.take 9 .done) .nil))))))))), ⟨by kernel_rfl⟩, ?_⟩
    refine zs0 ?_
    exact hk _ _ _ _
  have hr2 : r = strOfNums (frmM (bl s.rest) s.skip b).1.1 := by rw [← hr, nums_bl]
  have hT2 := lines_of hT
  have hTl : T.length ≤ b.length := by
    have h1 := congrArg List.length hT
    rw [List.length_map] at h1
    rw [h1]; exact hsc.1
  have hTx : ∀ x ∈ T, x.1.size ≤ big := fun x hx => by
    have h1 : lnB x ∈ (frmM (bl s.rest) s.skip b).2 := by rw [← hT]; exact List.mem_map_of_mem hx
    have h2 := hsc.2 _ h1
    rw [show (lnB x).1 = bl x.1 from rfl, bl_length] at h2
    simp only [big]; omega
  refine zs0 ?_
  refine iter_of (I := fun n σ => ∃ (j : Nat) (s' : Sd) (o' : ByteArray) (f0 f1 f2 f3 f : Bool), n = T.length - j ∧ j ≤ T.length ∧ hearL m h (T.drop j) s' o' = heardM m h s b ∧ lnI_ m s' ∧ o'.size ≤ j * grow ∧
    (σ = ⟨slots 132 [(8, .one (.ref 0 0)), (10, .one (.ref 1 0)), (12, .one (.own 2)), (13, .one (.int .i64 j))], [.box 43 zSd, tkB s' 3 (.own 6) m h o', .own 101 LT T true f, .own 3 IT s'.rc true f0, .own 3 IT s'.tk true f1, .own 3 IT s'.cd true f2, .own 9 ST s'.ln true f3]⟩ ∨
     (s'.ln = [] ∧ σ = ⟨slots 132 [(8, .one (.ref 0 0)), (10, .one (.ref 1 0)), (12, .one (.own 2)), (13, .one (.int .i64 j))], [.box 43 zSd, tkB s' 3 .nil m h o', .own 101 LT T true f, .own 3 IT s'.rc true f0, .own 3 IT s'.tk true f1, .own 3 IT s'.cd true f2]⟩))) ?_ T.length
    ⟨0, { s with wt := 0, rest := r, skip := (frmM (bl s.rest) s.skip b).1.2 }, ByteArray.empty, _, _, _, _, _, rfl, Nat.zero_le _, by rw [List.drop_zero, heardM, hT2, hr2], hln, Nat.le_refl _, .inl rfl⟩
  rintro n σ K' ⟨j, s', o', f0, f1, f2, f3, f, rfl, hj, hm, hi, ho, hσ⟩ hK'
  have w1 := IntWalk.i64_in ((j : Int) + 1) (by omega)
  by_cases g1 : j < T.length
  case neg =>
    have e1 : decide ((j : Int) < T.length) = false := decide_eq_false (by omega)
    rw [List.drop_of_length_le (by omega), hearL] at hm
    rw [← hm] at hk
    rcases hσ with rfl | ⟨hl0, rfl⟩
    · refine zs1 e1 ?_
      refine ⟨[0, 2, 3, 4, 5, 6], (.take 0 (.take 1 (.take 2 (.take 3 (.take 4 (.take 5 (.take 6 (.take 7 (.br 8 (.take 9 .done) .nil))))))))), ⟨by kernel_rfl⟩, ?_⟩
      refine zs0 ?_
      exact hk _ _ _ _
    · refine zs1 e1 ?_
      refine ⟨[0, 2, 3, 4, 5, 6], (.take 0 (.take 1 (.take 2 (.take 3 (.take 4 (.take 5 (.take 6 (.take 7 (.br 8 (.take 9 .done) .nil))))))))), ⟨by kernel_rfl⟩, ?_⟩
      refine zs0 ?_
      have hk2 : ∀ m0 m1 m2 m3, K [.own 3 IT s'.rc true m0, .own 3 IT s'.tk true m1, .own 3 IT s'.cd true m2, .own 9 ST s'.ln true m3] (.ret (.tup [.agg (s'.ow 0), .one (.str o')])) := hk
      rw [hl0] at hk2
      exact hk2 _ _ _ _
  have e1 : decide ((j : Int) < T.length) = true := decide_eq_true (by omega)
  by_cases g7 : s'.st = 7
  · have e2 : (s'.st != 7) = false := by simp [bne, g7]
    rw [hearL_done m h o' g7] at hm
    rw [← hm] at hk
    rcases hσ with rfl | ⟨hl0, rfl⟩
    · refine zs2 e1 e2 ?_
      refine ⟨[0, 2, 3, 4, 5, 6], (.take 0 (.take 1 (.take 2 (.take 3 (.take 4 (.take 5 (.take 6 (.take 7 (.br 8 (.take 9 .done) .nil))))))))), ⟨by kernel_rfl⟩, ?_⟩
      refine zs0 ?_
      exact hk _ _ _ _
    · refine zs2 e1 e2 ?_
      refine ⟨[0, 2, 3, 4, 5, 6], (.take 0 (.take 1 (.take 2 (.take 3 (.take 4 (.take 5 (.take 6 (.take 7 (.br 8 (.take 9 .done) .nil))))))))), ⟨by kernel_rfl⟩, ?_⟩
      refine zs0 ?_
      have hk2 : ∀ m0 m1 m2 m3, K [.own 3 IT s'.rc true m0, .own 3 IT s'.tk true m1, .own 3 IT s'.cd true m2, .own 9 ST s'.ln true m3] (.ret (.tup [.agg (s'.ow 0), .one (.str o')])) := hk
      rw [hl0] at hk2
      exact hk2 _ _ _ _
  have e2 : (s'.st != 7) = true := by simpa [bne] using g7
  obtain ⟨⟨x, lg⟩, hx⟩ : ∃ x, T[j]? = some x := ⟨_, List.getElem?_eq_getElem g1⟩
  have rx := nth_of hx LT.dflt
  have ix : (0 : Int) ≤ j ∧ (j : Int) < T.length := ⟨by omega, by omega⟩
  have hd : T.drop j = (x, lg) :: T.drop (j + 1) := by
    obtain ⟨h1, h2⟩ := List.getElem?_eq_some_iff.1 hx
    rw [List.drop_eq_getElem_cons h1, h2]
  have hxs : x.size ≤ big := hTx _ (List.mem_of_getElem? hx)
  have hnx := line_inv (o := o') hh had hbd hi g7 (x := (x, lg)) hxs
  have hm2 : hearL m h (T.drop (j + 1)) (lineM m h s' o' (x, lg)).1 (lineM m h s' o' (x, lg)).2 = heardM m h s b := by rw [← hm, hd, hearL, if_neg g7]
  have hst : stpO m h o' := ⟨by simp only [grow, huge] at ho ⊢; omega, hh, had⟩
  have hl16 := hi.2.2
  have hlen : (s'.ln ++ [x]).length ≤ big := by rw [List.length_append]; simp only [big, List.length_cons, List.length_nil]; omega
  have hlb : s'.ln.length ≤ big := by simp only [big]; omega
  have hall : ∀ y ∈ s'.ln ++ [x], y.size ≤ big := fun y hy => by
    rcases List.mem_append.1 hy with hy | hy
    · exact hi.2.1 y hy
    · rw [List.mem_singleton] at hy; subst hy; exact hxs
  have ho2 : (lineM m h s' o' (x, lg)).2.size ≤ (j + 1) * grow := by
    have := hnx.2
    simp only [grow] at ho this ⊢
    omega
  have brk : lineM m h s' o' (x, lg) = (brkS s', o') → heardM m h s b = (brkS s', o') := fun e => by
    rw [← hm2, e]
    exact hearL_done m h o' rfl _
  have hwf : wfS m { s' with ln := [] } := ⟨⟨hi.1.1.1.1, hi.1.1.1.2.1, hi.1.1.1.2.2.1, Nat.zero_le _⟩, hi.1.1.2.1, hi.1.1.2.2⟩
  have hsm' : s'.sml := hi.1.1.1
  have hlm : ∀ lg, lineM m h s' o' (x, lg) = bif lg then (brkS s', o') else if (rpParse ((s'.ln ++ [x]).map bl)).1 = 0 then goesM m h { s' with ln := [] } o' (rpParse ((s'.ln ++ [x]).map bl)).2
      else if (rpParse ((s'.ln ++ [x]).map bl)).1 = 7 ∧ ((s'.ln ++ [x]).length : Int) < 16 then ({ s' with ln := s'.ln ++ [x] }, o') else (brkS s', o') := fun lg => rfl
  rcases hσ with rfl | ⟨hl0, rfl⟩
  all_goals
    refine zs2 e1 e2 ?_
    refine ⟨[], (.take 0 (.take 1 (.take 2 (.take 3 (.take 4 (.take 6 (.take 7 (.take 8 (.take 9 (.take 10 (.br 5 (.br 11 (.rest 12) .nil) (.br 11 (.br 5 (.rest 12) .nil) .nil)))))))))))), ⟨by kernel_rfl⟩, ?_⟩
    ((conv => whnf); repeat' ((first | refine Both.mk ?_ ?_ | refine Br.t ?_ | refine Br.f ?_ | refine ob ?_ | refine ⟨_, rfl, ?_⟩ | refine ⟨_, _, rfl, ?_⟩ | refine ⟨_, _, _, rfl, ?_⟩ | refine ⟨_, _, _, _, rfl, ?_⟩ | simp only [rx]); all_goals (conv => whnf)))
    all_goals
      refine ⟨[.one (.sl ST s'.ln)], trr, (by first | exact ⟨.inr (.inr ⟨_, _, rfl, rfl, hl0⟩), trivial⟩ | (repeat (first | exact True.intro | refine And.intro ?_ ?_ | exact Or.inl ⟨rfl, rfl⟩ | exact Or.inr (Or.inl ⟨_, _, _, _, _, rfl, rfl, rfl⟩) | exact Or.inr (Or.inr ⟨_, _, rfl, rfl, rfl⟩)))), ?_⟩
      refine zy ?_
      refine ⟨s'.ln, rfl, rfl, hlb, fun mv => ?_⟩
      refine zs0 ?_
      refine ⟨[.one (.sl ST (s'.ln ++ [x]))], trr, lnt, ?_⟩
      refine zy ?_
      refine ⟨s'.ln ++ [x], rfl, rfl, hlen, hall, fun g => ?_, fun g => ?_, fun c g U mv => ?_⟩
      · have hq : lineM m h s' o' (x, lg) = (brkS s', o') := by
          rw [hlm]
          cases lg with
          | true => rfl
          | false => rw [condF _ _ rfl, if_neg (by rw [g]; decide), if_neg (by rw [g]; exact fun h => absurd h.1 (by decide))]
        rw [brk hq] at hk
        cases lg
        all_goals
          refine zs1 rx ?_
          refine ⟨[.agg s'.fz], trr, (by first | exact ⟨⟨.inl ⟨rfl, rfl⟩, .inl ⟨rfl, rfl⟩, .inl ⟨rfl, rfl⟩, .inl ⟨rfl, rfl⟩, .inr (.inl ⟨_, _, _, _, _, rfl, rfl, rfl⟩), .inl ⟨rfl, rfl⟩, .inl ⟨rfl, rfl⟩, .inl ⟨rfl, rfl⟩, .inr (.inl ⟨_, _, _, _, _, rfl, rfl, rfl⟩), .inr (.inl ⟨_, _, _, _, _, rfl, rfl, rfl⟩), .inl ⟨rfl, rfl⟩, .inl ⟨rfl, rfl⟩, .inl ⟨rfl, rfl⟩, .inr (.inr ⟨_, _, rfl, rfl, hl0⟩), trivial⟩, trivial⟩ | (repeat (first | exact True.intro | refine And.intro ?_ ?_ | exact Or.inl ⟨rfl, rfl⟩ | exact Or.inr (Or.inl ⟨_, _, _, _, _, rfl, rfl, rfl⟩) | exact Or.inr (Or.inr ⟨_, _, rfl, rfl, rfl⟩)))), ?_⟩
          refine zy ?_
          refine ⟨s', rfl, rfl, hsm', fun m0 m1 m2 m3 => ?_⟩
          refine zs0 ?_
          refine ⟨[0, 9, 10, 11, 12, 13, 14], (.take 0 (.take 1 (.take 2 (.take 3 (.take 4 (.take 5 (.take 6 (.take 7 (.br 8 (.take 9 .done) .nil))))))))), ⟨by kernel_rfl⟩, ?_⟩
          refine zs0 ?_
          exact hk _ _ _ _
      · cases lg with
        | true =>
          have hq : lineM m h s' o' (x, true) = (brkS s', o') := rfl
          rw [brk hq] at hk
          refine zs1 rx ?_
          refine ⟨[.agg s'.fz], trr, (by first | exact ⟨⟨.inl ⟨rfl, rfl⟩, .inl ⟨rfl, rfl⟩, .inl ⟨rfl, rfl⟩, .inl ⟨rfl, rfl⟩, .inr (.inl ⟨_, _, _, _, _, rfl, rfl, rfl⟩), .inl ⟨rfl, rfl⟩, .inl ⟨rfl, rfl⟩, .inl ⟨rfl, rfl⟩, .inr (.inl ⟨_, _, _, _, _, rfl, rfl, rfl⟩), .inr (.inl ⟨_, _, _, _, _, rfl, rfl, rfl⟩), .inl ⟨rfl, rfl⟩, .inl ⟨rfl, rfl⟩, .inl ⟨rfl, rfl⟩, .inr (.inr ⟨_, _, rfl, rfl, hl0⟩), trivial⟩, trivial⟩ | (repeat (first | exact True.intro | refine And.intro ?_ ?_ | exact Or.inl ⟨rfl, rfl⟩ | exact Or.inr (Or.inl ⟨_, _, _, _, _, rfl, rfl, rfl⟩) | exact Or.inr (Or.inr ⟨_, _, rfl, rfl, rfl⟩)))), ?_⟩
          refine zy ?_
          refine ⟨s', rfl, rfl, hsm', fun m0 m1 m2 m3 => ?_⟩
          refine zs0 ?_
          refine ⟨[0, 9, 10, 11, 12, 13, 14], (.take 0 (.take 1 (.take 2 (.take 3 (.take 4 (.take 5 (.take 6 (.take 7 (.br 8 (.take 9 .done) .nil))))))))), ⟨by kernel_rfl⟩, ?_⟩
          refine zs0 ?_
          exact hk _ _ _ _
        | false =>
        by_cases g2 : ((s'.ln ++ [x]).length : Int) > 15
        · have e3 : decide (((s'.ln ++ [x]).length : Int) > 15) = true := decide_eq_true g2
          have hq : lineM m h s' o' (x, false) = (brkS s', o') := by
            rw [hlm, condF _ _ rfl, if_neg (by rw [g]; decide), if_neg (fun h => by omega)]
          rw [brk hq] at hk
          refine zs2 rx e3 ?_
          refine ⟨[.agg s'.fz], trr, (by first | exact ⟨⟨.inl ⟨rfl, rfl⟩, .inl ⟨rfl, rfl⟩, .inl ⟨rfl, rfl⟩, .inl ⟨rfl, rfl⟩, .inr (.inl ⟨_, _, _, _, _, rfl, rfl, rfl⟩), .inl ⟨rfl, rfl⟩, .inl ⟨rfl, rfl⟩, .inl ⟨rfl, rfl⟩, .inr (.inl ⟨_, _, _, _, _, rfl, rfl, rfl⟩), .inr (.inl ⟨_, _, _, _, _, rfl, rfl, rfl⟩), .inl ⟨rfl, rfl⟩, .inl ⟨rfl, rfl⟩, .inl ⟨rfl, rfl⟩, .inr (.inr ⟨_, _, rfl, rfl, hl0⟩), trivial⟩, trivial⟩ | (repeat (first | exact True.intro | refine And.intro ?_ ?_ | exact Or.inl ⟨rfl, rfl⟩ | exact Or.inr (Or.inl ⟨_, _, _, _, _, rfl, rfl, rfl⟩) | exact Or.inr (Or.inr ⟨_, _, rfl, rfl, rfl⟩)))), ?_⟩
          refine zy ?_
          refine ⟨s', rfl, rfl, hsm', fun m0 m1 m2 m3 => ?_⟩
          refine zs0 ?_
          refine ⟨[0, 9, 10, 11, 12, 13, 14], (.take 0 (.take 1 (.take 2 (.take 3 (.take 4 (.take 5 (.take 6 (.take 7 (.br 8 (.take 9 .done) .nil))))))))), ⟨by kernel_rfl⟩, ?_⟩
          refine zs0 ?_
          exact hk _ _ _ _
        · have e3 : decide (((s'.ln ++ [x]).length : Int) > 15) = false := decide_eq_false g2
          have hq : lineM m h s' o' (x, false) = ({ s' with ln := s'.ln ++ [x] }, o') := by
            rw [hlm, condF _ _ rfl, if_neg (by rw [g]; decide), if_pos ⟨g, by omega⟩]
          rw [hq] at hm2 hnx ho2
          refine zs3 rx e3 w1 ?_
          exact hK' _ _ (by omega) ⟨j + 1, _, o', _, _, _, _, _, rfl, by omega, hm2, hnx.1, ho2, .inl rfl⟩
      · cases lg with
        | true =>
          have hq : lineM m h s' o' (x, true) = (brkS s', o') := rfl
          rw [brk hq] at hk
          refine zs1 rx ?_
          refine ⟨[.agg s'.fz], trr, (by first | exact ⟨⟨.inl ⟨rfl, rfl⟩, .inl ⟨rfl, rfl⟩, .inl ⟨rfl, rfl⟩, .inl ⟨rfl, rfl⟩, .inr (.inl ⟨_, _, _, _, _, rfl, rfl, rfl⟩), .inl ⟨rfl, rfl⟩, .inl ⟨rfl, rfl⟩, .inl ⟨rfl, rfl⟩, .inr (.inl ⟨_, _, _, _, _, rfl, rfl, rfl⟩), .inr (.inl ⟨_, _, _, _, _, rfl, rfl, rfl⟩), .inl ⟨rfl, rfl⟩, .inl ⟨rfl, rfl⟩, .inl ⟨rfl, rfl⟩, .inr (.inr ⟨_, _, rfl, rfl, hl0⟩), trivial⟩, trivial⟩ | (repeat (first | exact True.intro | refine And.intro ?_ ?_ | exact Or.inl ⟨rfl, rfl⟩ | exact Or.inr (Or.inl ⟨_, _, _, _, _, rfl, rfl, rfl⟩) | exact Or.inr (Or.inr ⟨_, _, rfl, rfl, rfl⟩)))), ?_⟩
          refine zy ?_
          refine ⟨s', rfl, rfl, hsm', fun m0 m1 m2 m3 => ?_⟩
          refine zs0 ?_
          refine ⟨[0, 9, 10, 11, 12, 13, 14], (.take 0 (.take 1 (.take 2 (.take 3 (.take 4 (.take 5 (.take 6 (.take 7 (.br 8 (.take 9 .done) .nil))))))))), ⟨by kernel_rfl⟩, ?_⟩
          refine zs0 ?_
          exact hk _ _ _ _
        | false =>
        have hq : lineM m h s' o' (x, false) = goesM m h { s' with ln := [] } o' c := by
          rw [hlm, condF _ _ rfl, if_pos (by rw [g]), g]
        rw [hq] at hm2 hnx ho2
        have hgl := goes_ln m h { s' with ln := [] } o' c
        generalize hgo : goesM m h { s' with ln := [] } o' c = p at hm2 hnx ho2 hgl
        obtain ⟨s2, o2⟩ := p
        refine zs1 rx ?_
        refine ⟨{ s' with ln := [] }, m, h, o', c, trr, trr, ⟨⟨hst, hmt⟩, ⟨hwf, hi.1.2⟩, g7⟩, ?_⟩
        rw [hgo]
        refine zs1 w1 ?_
        exact hK' _ _ (by omega) ⟨j + 1, s2, o2, _, _, _, false, _, rfl, by omega, hm2, hnx.1, ho2, .inr ⟨hgl, rfl⟩⟩
theorem hearL_inv {m : Md} {h : ByteArray} (hh : h.size ≤ big) (ha : m.adrs) (hb : m.body.size ≤ big) : ∀ (l : List LT.den) {s : Sd} {o : ByteArray}, (∀ x ∈ l, x.1.size ≤ big) → lnI_ m s → lnI_ m (hearL m h l s o).1
  | [], _, _, _, hi => hi
  | x :: l, s, o, hx, hi => by
    rw [hearL]
    by_cases h7 : s.st = 7
    · rw [if_pos h7]; exact hi
    · rw [if_neg h7]
      exact hearL_inv hh ha hb l (fun y hy => hx y (List.mem_cons_of_mem _ hy)) (line_inv hh ha hb hi h7 (hx x (List.mem_cons_self ..))).1
theorem nums_size (l : List Int) : (strOfNums l).size = l.length := by
  simp [strOfNums, ByteArray.size]
theorem heard_inv {m : Md} {h : ByteArray} {s : Sd} {b : List Int} (hh : h.size ≤ big) (ha : m.adrs) (hb : m.body.size ≤ big) (hi : lnI_ m s) : lnI_ m (heardM m h s b).1 := by
  refine hearL_inv hh ha hb _ (fun x hx => ?_) hi
  obtain ⟨p, hp, rfl⟩ := List.mem_map.1 hx
  have h1 := (scan_len b (bl s.rest) s.skip).2 p hp
  show (strOfNums p.1).size ≤ big
  rw [nums_size]; simp only [big]; omega
theorem hear_sml {m : Md} {h : ByteArray} {s : Sd} {b : List Int} (hf : s.fit) (hm : m.fit) (hg : maySd s m = true) (hh : h.size ≤ mid) : (hearS m h s b).1.sml := by
  unfold hearS
  split
  · exact hf.1
  · exact (heard_inv (mid_big' hh) hm.1.adrs hm.2 (may_inv hf hg).2.2).1.1.1
theorem mail_mayT {m : Md} (h : mailP m.ml = true) : mayT (bl m.body) = true := by
  unfold mailP at h
  rw [Bool.and_eq_true] at h
  exact h.2
theorem may_split {m : Md} {h : ByteArray} {s : Sd} (g : mayHr m h s = true) : (mailP m.ml = true ∧ maySd s m = true) ∧ hostP h = true := by
  rw [mayHr, Bool.and_eq_true, Bool.and_eq_true] at g
  exact g
theorem may_hearD {m : Md} {h : ByteArray} {s : Sd} {b : List Int} (hf : s.fit) (hm : m.fit) (hh : h.size ≤ mid) (hb : s.rest.size + b.length ≤ big ∧ Byts b) (g : mayHr m h s = true) : (hearO m s h b ∧ (fmP (bl s.rest) s.skip = true ∧ mayT (bl m.body) = true)) ∧ (hearS m h s b).1.sml := by
  obtain ⟨⟨g1, g2⟩, _⟩ := may_split g
  obtain ⟨_, hfm, hin⟩ := may_inv hf g2
  exact ⟨⟨⟨⟨⟨mid_big' hh, hm.1.adrs⟩, hm.2⟩, ⟨fun _ => hin, hf.1⟩, hb, fmP_cut hfm⟩, hfm, mail_mayT g1⟩, hear_sml hf hm g2 hh⟩
end Go.Proofs.YtilagaapfbfkkaaGreatDoor.Ab
namespace Go.Proofs.YtilagaapfbfkkaaGreatDoor.Ab
open Go Go.RowKit Go.Proofs.YtilagaapfbfkkaaGreatDoorW.PrintWords
def ownsAt (σ : St) : List Nat → List Nat
  | [] => []
  | t :: l => match nth σ.tmps t with
    | some (.one (.own i)) => i :: ownsAt σ l
    | _ => ownsAt σ l
def frzSl (fs : List Nat) (σ : St) (Q : St → Prop) : Prop :=
  match fs with
  | [] => Q σ
  | t :: l => frzAll (ownsAt σ (t :: l)) σ [] fun σ' _ => Q σ'
def evCodeJ (T : Tab) (Γ : Sems) (L : Nat → List Nat) (J : Nat → Option (List Nat)) (F : Nat → List Nat) (m : Nat) : Code → St → (Ex → St → Prop) → Prop
  | .skip, σ, Q => Q .normal σ
  | .region _ ops draw, σ, Q => bif draw then (∃ dirty pl, Okd (Region.noSelect ops && planB ops pl) ∧ evReg T Γ ops.toList (len σ.objs) dirty pl σ Q) else evOps T Γ ops.toList ops.toList σ Q
  | .seq a b, σ, Q => match J ((firstRegion b).getD 0) with
    | none => evCodeJ T Γ L J F m a σ fun e σ' => match e with
      | .normal => evCodeJ T Γ L J F m b σ' Q
      | e => Q e σ'
    | some ks => ∃ I : St → Prop, (evCodeJ T Γ L J F m a σ fun e σ' => match e with
      | .normal => frzSl (F ((firstRegion b).getD 0)) σ' fun σ'' => gc m ks σ'' I
      | e => Q e σ') ∧ ∀ σ', I σ' → evCodeJ T Γ L J F m b σ' Q
  | .cond c a b, σ, Q => match opd σ c with
    | .one (.bool g) => Br g (evCodeJ T Γ L J F m a σ Q) (evCodeJ T Γ L J F m b σ Q)
    | _ => False
  | .block id a, σ, Q => evCodeJ T Γ L J F m a σ fun e σ' => match e with
    | .exit i => if i = id then Q .normal σ' else Q (.exit i) σ'
    | e => Q e σ'
  | .loop a, σ, Q => gc m (L ((firstRegion a).getD 0)) σ fun σ' => ∃ n, evIter (evCodeJ T Γ L J F m a) (gc m (L ((firstRegion a).getD 0))) n σ' Q
  | .exit id, σ, Q => Q (.exit id) σ
  | .ret, σ, Q => Q .ret σ
  | _, _, _ => False
def evFnJ (T : Tab) (Γ : Sems) (L : Nat → List Nat) (J : Nat → Option (List Nat)) (F : Nat → List Nat) (fn : Func) (os : List Ob) (as_ : List V) (Q : List Ob → Out → Prop) : Prop :=
  match fn.body with
  | none => False
  | some c => evCodeJ T Γ L J F (len os) c ⟨padT fn.ntmps as_, os⟩ fun e σ => match e with
    | .normal | .ret => resK T σ fn.results.toList fun r => gc (len os) [0] ⟨[outOf r], σ.objs⟩ fun σ' => match σ'.tmps with
      | [v] => Q σ'.objs (.ret v)
      | _ => False
    | .panic p => gc (len os) [] ⟨[], σ.objs⟩ fun σ' => Q σ'.objs (.pan p)
    | .exit _ => False
variable {X : Cx} {P : Program} {T : Tab} {Γ : Sems}
theorem frzSl_sound {M : Nat → Prop} {w0 w : World} {lk : List Value} {a : Act} : ∀ (fs : List Nat) {σ : St} {Q : St → Prop}, frzSl fs σ Q → Rel X w lk σ a → Inv X M w0 w lk → ∃ lk' σ', Q σ' ∧ Rel X w lk' σ' a ∧ Inv X M w0 w lk'
  | [], σ, Q, h, hr, hi => ⟨lk, σ, h, hr, hi⟩
  | t :: l, σ, Q, h, hr, hi => by
    obtain ⟨lk', σ', l', h2, hr', hi', _, _⟩ := frzAll_sound (us := []) _ h hr hi trivial
    exact ⟨lk', σ', h2, hr', hi'⟩
theorem evCodeJ_sound (hT : TabOK P T) (hΓ : SemsOK X.gr P Γ) {M : Nat → Prop} {w0 : World} {L : Nat → List Nat} {J : Nat → Option (List Nat)} {F : Nat → List Nat} {m : Nat} (hm : X.l0.length = m) :
    ∀ (c : Code) {σ : St} {a : Act} {w : World} {lk : List Value} {Q : Ex → St → Prop} {QQ : Exit → Act → World → Prop}, evCodeJ T Γ L J F m c σ Q → Rel X w lk σ a → Inv X M w0 w lk → FF X M w0 Q QQ → (noDraw c = true ∨ ∀ c a a' w, a'.defers = a.defers → QQ (.panic c) a w → QQ (.panic c) a' w) → c.wp P QQ a w
  | .skip, σ, a, w, lk, Q, QQ, h, hr, hi, hF, hP => wp_skip (hF _ _ _ _ _ _ h rfl hr hi)
  | .region id ops draw, σ, a, w, lk, Q, QQ, h, hr, hi, hF, hP => by
    simp only [evCodeJ] at h
    cases draw with
    | true => obtain ⟨dirty, pl, h1, h2⟩ := h; exact region_sound hT hΓ hF (hP.resolve_left (by simp [noDraw])) h1.h h2 hr hi
    | false =>
      refine wp_region ?_
      rw [List.range_eq_range']
      exact evOps_sound hT hΓ hF ops.size 0 (by omega) h hr hi
  | .seq x y, σ, a, w, lk, Q, QQ, h, hr, hi, hF, hP => by
    simp only [evCodeJ] at h
    have hPx : noDraw x = true ∨ ∀ c a a' w, a'.defers = a.defers → QQ (.panic c) a w → QQ (.panic c) a' w := hP.imp (fun h => by simp only [noDraw, Bool.and_eq_true] at h; exact h.1) id
    have hPy : noDraw y = true ∨ ∀ c a a' w, a'.defers = a.defers → QQ (.panic c) a w → QQ (.panic c) a' w := hP.imp (fun h => by simp only [noDraw, Bool.and_eq_true] at h; exact h.2) id
    split at h
    · refine wp_seq (evCodeJ_sound hT hΓ hm x h hr hi ?_ (hPx.imp id fun hP c a a' w h1 h2 => hP c a a' w h1 h2))
      intro e σ' a' w' lk' ex hq he hr' hi'
      cases e with
      | normal =>
        simp only [exOf, Option.some.injEq] at he; subst he
        exact evCodeJ_sound hT hΓ hm y hq hr' hi' hF hPy
      | exit i => simp only [exOf, Option.some.injEq] at he; subst he; exact hF _ _ _ _ _ _ hq rfl hr' hi'
      | ret => simp only [exOf, Option.some.injEq] at he; subst he; exact hF _ _ _ _ _ _ hq rfl hr' hi'
      | panic c =>
        have := hF _ _ _ _ _ ex hq he hr' hi'
        cases c <;> simp [exOf] at he
        subst he; exact this
    · obtain ⟨I, h, hb⟩ := h
      refine wp_seq (evCodeJ_sound hT hΓ hm x h hr hi ?_ (hPx.imp id fun hP c a a' w h1 h2 => hP c a a' w h1 h2))
      intro e σ' a' w' lk' ex hq he hr' hi'
      cases e with
      | normal =>
        simp only [exOf, Option.some.injEq] at he; subst he
        obtain ⟨lk1, σ1, hq1, hr1, hi1⟩ := frzSl_sound _ hq hr' hi'
        obtain ⟨σ2, lk2, hq2, hr2, hi2⟩ := gc_sound hq1 hr1 hi1 hm
        exact evCodeJ_sound hT hΓ hm y (hb _ hq2) hr2 hi2 hF hPy
      | exit i => simp only [exOf, Option.some.injEq] at he; subst he; exact hF _ _ _ _ _ _ hq rfl hr' hi'
      | ret => simp only [exOf, Option.some.injEq] at he; subst he; exact hF _ _ _ _ _ _ hq rfl hr' hi'
      | panic c =>
        have := hF _ _ _ _ _ ex hq he hr' hi'
        cases c <;> simp [exOf] at he
        subst he; exact this
  | .cond c x y, σ, a, w, lk, Q, QQ, h, hr, hi, hF, hP => by
    simp only [evCodeJ] at h
    split at h
    · rename_i g hc
      have hv := opd_rep hr c
      rw [hc] at hv
      rw [Br_iff] at h
      have hPx : noDraw x = true ∨ ∀ c a a' w, a'.defers = a.defers → QQ (.panic c) a w → QQ (.panic c) a' w := hP.imp (fun h => by simp only [noDraw, Bool.and_eq_true] at h; exact h.1) id
      have hPy : noDraw y = true ∨ ∀ c a a' w, a'.defers = a.defers → QQ (.panic c) a w → QQ (.panic c) a' w := hP.imp (fun h => by simp only [noDraw, Bool.and_eq_true] at h; exact h.2) id
      exact wp_cond_split (t := g) hv (fun hg => evCodeJ_sound hT hΓ hm x (h.1 hg) hr hi hF hPx) (fun hg => evCodeJ_sound hT hΓ hm y (h.2 hg) hr hi hF hPy)
    · exact h.elim
  | .block id x, σ, a, w, lk, Q, QQ, h, hr, hi, hF, hP => by
    simp only [evCodeJ] at h
    refine wp_block (evCodeJ_sound hT hΓ hm x h hr hi ?_ (hP.imp (fun h => by simpa only [noDraw] using h) fun hP c a a' w h1 h2 => hP c a a' w h1 h2))
    intro e σ' a' w' lk' ex hq he hr' hi'
    cases e with
    | normal => simp only [exOf, Option.some.injEq] at he; subst he; exact hF _ _ _ _ _ _ hq rfl hr' hi'
    | exit i =>
      simp only [exOf, Option.some.injEq] at he; subst he
      simp only [Exit.inBlock]
      by_cases hii : i = id
      · simp only [hii, if_true] at hq ⊢
        exact hF _ _ _ _ _ _ hq rfl hr' hi'
      · simp only [hii, if_false] at hq ⊢
        exact hF _ _ _ _ _ _ hq rfl hr' hi'
    | ret => simp only [exOf, Option.some.injEq] at he; subst he; exact hF _ _ _ _ _ _ hq rfl hr' hi'
    | panic c =>
      have := hF _ _ _ _ _ ex hq he hr' hi'
      cases c <;> simp [exOf] at he
      subst he; exact this
  | .loop x, σ, a, w, lk, Q, QQ, h, hr, hi, hF, hP => by
    simp only [evCodeJ] at h
    obtain ⟨σ', lk', hq, hr', hi'⟩ := gc_sound h hr hi hm
    obtain ⟨n, hq⟩ := hq
    refine wp_loop_rounds n ?_
    clear h hr hi
    induction n generalizing σ' a w lk' with
    | zero => exact hq.elim
    | succ n ih =>
      rw [rounds_succ]
      simp only [evIter] at hq
      refine evCodeJ_sound hT hΓ hm x hq hr' hi' ?_ (hP.imp (fun h => by simpa only [noDraw] using h) fun hP c a a' w h1 h2 => hP c a a' w h1 h2)
      intro e σ' a' w' lk' ex hq he hr' hi'
      cases e with
      | normal =>
        simp only [exOf, Option.some.injEq] at he; subst he
        obtain ⟨σ2, lk2, hq2, hr2, hi2⟩ := gc_sound hq hr' hi' hm
        exact ih _ _ _ _ hr2 hi2 hq2
      | exit i => simp only [exOf, Option.some.injEq] at he; subst he; exact hF _ _ _ _ _ _ hq rfl hr' hi'
      | ret => simp only [exOf, Option.some.injEq] at he; subst he; exact hF _ _ _ _ _ _ hq rfl hr' hi'
      | panic c =>
        have := hF _ _ _ _ _ ex hq he hr' hi'
        cases c <;> simp [exOf] at he
        subst he; exact this
  | .exit id, σ, a, w, lk, Q, QQ, h, hr, hi, hF, hP => wp_exit (hF _ _ _ _ _ _ h rfl hr hi)
  | .ret, σ, a, w, lk, Q, QQ, h, hr, hi, hF, hP => wp_ret (hF _ _ _ _ _ _ h rfl hr hi)
  | .rangeFunc .., _, _, _, _, _, _, h, _, _, _, _ => h.elim
  | .scope _, _, _, _, _, _, _, h, _, _, _, _ => h.elim
  | .label _, _, _, _, _, _, _, h, _, _, _, _ => h.elim
  | .goto _, _, _, _, _, _, _, h, _, _, _, _ => h.elim
  | .refuse _, _, _, _, _, _, _, h, _, _, _, _ => h.elim
theorem SenseOK.ofJ {G : World → Prop} (hT : TabOK P T) (hΓ : SemsOK G P Γ) {f : FuncId} {fn : Func} (L : Nat → List Nat) (J : Nat → Option (List Nat)) (F : Nat → List Nat) (s : Sense) (hf : P.funcs[f]? = some fn)
    (hro : s.ro = true → ∀ os as_ K, s.f os as_ K → os = [])
    (h : ∀ os as_ K, s.f os as_ K → evFnJ T Γ L J F fn os as_ K) : SenseOK G P f s := by
  refine SenseOK.mk fun X w lk os as_ vs K hdf hO hl0 hX hXG hgr has hs => ?_
  subst hXG
  have hev := h os as_ K hs
  unfold evFnJ at hev
  split at hev
  · exact hev.elim
  rename_i c hc
  refine calls_of_wp hf hc ?_
  have hml : X.l0.length = len os := by rw [hl0, len_length, hO.lsz]
  have hal := has.length
  let M : Nat → Prop := fun b => ∃ v ∈ lk, blk v = some b
  have hr : Rel X w lk ⟨padT fn.ntmps as_, os⟩ { tmps := vs.toArray ++ Array.replicate (fn.ntmps - vs.toArray.size) undef, defers := [] } := by
    refine ORel.toR hO ?_ (fun t x hx => ?_) hdf.symm
    · simp [padT, tops_length, len_length, hal]
    · simp only [padT] at hx
      rcases Nat.lt_or_ge t as_.length with hlt | hge
      · rw [List.getElem?_append_left hlt] at hx
        obtain ⟨u, hu, hru⟩ := has.get hx
        have htl : t < vs.length := (List.getElem?_eq_some_iff.1 hu).1
        have : (vs.toArray ++ Array.replicate (fn.ntmps - vs.toArray.size) undef).getD t undef = u := by
          rw [Array.getD_eq_getD_getElem?, Array.getElem?_append_left (by simpa using htl)]
          simp [hu]
        rw [this]; exact hru
      · rw [List.getElem?_append_right hge] at hx
        rw [tops_get _ _ _ hx]; trivial
  have hi : Inv X M w w lk := ⟨Keep.refl _ _, fun v hv b hb => .inl ⟨v, hv, hb⟩, hX, fun b hb ⟨v, hv, hvb⟩ => by
    obtain ⟨i, hi⟩ := List.mem_iff_getElem?.1 hv
    exact hO.nx i v b hi hvb hb, hgr⟩
  have fin : ∀ (σ' : St) (a' : Act) (w' : World) (lk' : List Value), Inv X M w w' lk' → (∀ v ∈ lk', ∀ b, blk v = some b → (∃ u ∈ lk, blk u = some b) ∨ w.heap.size ≤ b) ∧ Keep (fun b => s.ro = false ∧ ∃ v ∈ lk, blk v = some b) w w' := by
    intro σ' a' w' lk' hi'
    refine ⟨hi'.news, hi'.keep.os, hi'.keep.tape, hi'.keep.output, hi'.keep.size, fun k hk hnk => hi'.keep.block k hk (fun hM => ?_)⟩
    cases hsr : s.ro with
    | false => exact hnk ⟨hsr, hM⟩
    | true =>
      have := hro hsr os as_ K hs
      subst this
      have hl : lk = [] := List.length_eq_zero_iff.1 (by rw [hO.lsz]; rfl)
      obtain ⟨v, hv, _⟩ := hM
      rw [hl] at hv; simp at hv
  refine evCodeJ_sound (M := M) (w0 := w) hT hΓ hml c hev hr hi ?_ (.inr fun c a a' w h1 h2 => ⟨h1.trans h2.1, h2.2⟩)
  intro e σ' a' w' lk' ex hq he hr' hi'
  have key : resK T σ' fn.results.toList (fun r => gc (len os) [0] ⟨[outOf r], σ'.objs⟩ fun σ2 => match σ2.tmps with
      | [v] => K σ2.objs (.ret v)
      | _ => False) → a'.defers = [] ∧ ∃ v, (results fn a'.tmps).run P w' = .ok v w' ∧ Post X w lk s.ro K (.returned v) w' := by
    intro hk
    obtain ⟨es, v, hq2, hrun, hv⟩ := results_sound hT hr' hk
    have hrv : Rel X w' lk' ⟨[outOf es], σ'.objs⟩ { tmps := #[v], defers := [] } := ORel.toR hr'.toO rfl (fun t x hx => by
      cases t with
      | zero => simp at hx; subst hx; exact hv
      | succ t => simp at hx) hdf.symm
    obtain ⟨σ2, lk2, hq3, hr3, hi3⟩ := gc_sound hq2 hrv hi' hml
    obtain ⟨f1, f2⟩ := fin σ2 a' w' lk2 hi3
    obtain ⟨ts, os2⟩ := σ2
    match ts, hq3, hr3 with
    | [x], hq3, hr3 => exact ⟨hr'.df.trans hdf, v, hrun, os2, lk2, .ret x, hq3, hr3.toO, f2, f1, v, rfl, hr3.tm 0 x rfl⟩
    | [], hq3, _ => exact hq3.elim
    | _ :: _ :: _, hq3, _ => exact hq3.elim
  cases e with
  | normal => simp only [exOf, Option.some.injEq] at he; subst he; exact key hq
  | ret => simp only [exOf, Option.some.injEq] at he; subst he; exact key hq
  | exit i => exact hq.elim
  | panic p =>
    cases p <;> simp [exOf] at he
    subst he
    have hrv : Rel X w' lk' ⟨[], σ'.objs⟩ { tmps := #[], defers := [] } := ORel.toR hr'.toO rfl (fun t x hx => by simp at hx) hdf.symm
    obtain ⟨σ2, lk2, hq3, hr3, hi3⟩ := gc_sound hq hrv hi' hml
    obtain ⟨f1, f2⟩ := fin σ2 a' w' lk2 hi3
    exact ⟨hr'.df.trans hdf, σ2.objs, lk2, _, hq3, hr3.toO, f2, f1, rfl⟩
end Go.Proofs.YtilagaapfbfkkaaGreatDoor.Ab
namespace Go.Proofs.YtilagaapfbfkkaaGreatDoor.Ab
open Go Go.RowKit Go.Proofs.YtilagaapfbfkkaaGreatDoorW.PrintWords
set_option maxRecDepth 100000
variable {G : World → Prop}
theorem SenseOK.anyJ {Γ : Sems} (hΓ : SemsOK G Tryz.prog Γ) {f : FuncId} {fn : Func} (L : Nat → List Nat) (J : Nat → Option (List Nat)) {s : List Ob → List V → (List Ob → Out → Prop) → Prop} (hf : Tryz.prog.funcs[f]? = some fn)
    (h : ∀ os xs K, s os xs K → evFnJ TT Γ L J (fun _ => []) fn os xs K) : SenseOK G Tryz.prog f ⟨false, s⟩ :=
  SenseOK.ofJ TT.ok hΓ L J (fun _ => []) _ hf (fun h => by cases h) h
def q70 : Sense := ⟨false, fun os xs K => ∃ m : Md, xs = [.agg (m.cs (.sl RT m.rc))] ∧ os = [] ∧ m.rc.length ≤ big ∧ ∀ mv, K [.own 39 RT m.rc true mv] (.ret (.agg (m.cs (.own 0))))⟩
theorem qk70 : SenseOK G Tryz.prog 70 q70 := SenseOK.lift [.out 5 39 RT] ok10 rfl fun os xs K h => by
  obtain ⟨m, rfl, rfl, hl, hk⟩ := h
  refine ⟨m, .sl RT m.rc, rfl, .inl ⟨rfl, rfl⟩, hl, fun h0 => ?_, fun _ mv => ?_⟩
  · have hk1 := hk true
    rw [h0] at hk1
    refine zv ?_
    exact hk1
  · refine zv ?_
    exact hk _
def q82 : Sense := ⟨false, fun os xs K => ∃ b : List Int, xs = [.one (.sl (.int .u8) b)] ∧ os = [] ∧ b.length ≤ big ∧ ∀ mv, K [.own 5 (.int .u8) b true mv] (.ret (.one (.own 0)))⟩
theorem qk82 : SenseOK G Tryz.prog 82 q82 := SenseOK.lift [.out 0 5 (.int .u8)] ok21 rfl fun os xs K h => by
  obtain ⟨b, rfl, rfl, hl, hk⟩ := h
  refine ⟨b, .sl (.int .u8) b, rfl, .inl ⟨rfl, rfl⟩, hl, fun h0 => ?_, fun _ mv => ?_⟩
  · have hk1 := hk true
    rw [h0] at hk1
    refine zv ?_
    exact hk1
  · refine zv ?_
    exact hk _
def q84m : Sense := ⟨false, fun os xs K => ∃ s : Sd, xs = [.agg (s.ow 0)] ∧ os = s.osF ∧ s.sml ∧ ∀ b0 b1 b2 b3, K [.own 3 IT b0 true true, .own 3 IT b1 true true, .own 3 IT b2 true true, .own 9 ST b3 true true] (.ret (.tup []))⟩
theorem qk84m : SenseOK G Tryz.prog 84 q84m := SenseOK.lift [.mv 0, .mv 1, .mv 2, .mv 3] qk84 rfl fun os xs K h => by
  obtain ⟨s, rfl, rfl, hl, hk⟩ := h
  refine ⟨s, rfl, rfl, hl, fun b0 b1 b2 b3 m0 m1 m2 m3 => ?_⟩
  refine zv ?_
  exact hk _ _ _ _
def Γ43q : Sems := ext 68 q68 (ext 69 q69 (ext 70 q70 (ext 16 q16 (ext 18 q18 (ext 77 q77 (ext 78 q31 (ext 79 q79 (ext 17 (lendS q17) (ext 75 (lendS q75) (ext 76 s15 (ext 84 q84m (ext 80 q80 (ext 81 q81 (ext 82 q82 (ext 21 (lendS q21) (ext 83 s23 (Γ0)))))))))))))))))
theorem Γ43q.ok : SemsOK Gr Tryz.prog Γ43q := (((((((((((((((((Γ0.ok.ext Tryz.func83 rfl (by decide) ok23).ext Tryz.func21 rfl (by decide) (SenseOK.lendL qk21)).ext Tryz.func82 rfl (by decide) qk82).ext Tryz.func81 rfl (by decide) qk81).ext Tryz.func80 rfl (by decide) qk80).ext Tryz.func84 rfl (by decide) qk84m).ext Tryz.func76 rfl (by decide) ok15).ext Tryz.func75 rfl (by decide) (SenseOK.lendL qk75)).ext Tryz.func17 rfl (by decide) (SenseOK.lendL qk17)).ext Tryz.func79 rfl (by decide) qk79).ext Tryz.func78 rfl (by decide) qk78).ext Tryz.func77 rfl (by decide) qk77).ext Tryz.func18 rfl (by decide) qk18).ext Tryz.func16 rfl (by decide) qk16).ext Tryz.func70 rfl (by decide) qk70).ext Tryz.func69 rfl (by decide) qk69).ext Tryz.func68 rfl (by decide) qk68)
def acC (d id : Int) (b : List Int) (h : ByteArray) (j : Jb) (lm : Bool) : List C := [.int .i64 d, .int .i64 id, .sl (.int .u8) b, .str h] ++ (j.fz ++ [.bool lm])
def actO (s : Sd) (m : Md) (b : List Int) (h : ByteArray) (j : Jb) : Prop := ((s.fit ∧ m.fit) ∧ j.sml) ∧ (h.size ≤ mid ∧ (s.rest.size + b.length ≤ big ∧ Byts b))
def q43 : Sense := ⟨false, fun os xs K => ∃ (s : Sd) (m : Md) (d id : Int) (b : List Int) (h : ByteArray) (j : Jb) (lm : Bool), xs = [.agg s.fz, .agg (m.cs (.sl RT m.rc)), .agg (acC d id b h j lm)] ∧ os = [] ∧ ((d = 0 ∨ d = 11) ∧ actO s m b h j) ∧
  (∀ s' : Sd, K [] (.ret (.tup [.agg s'.fz, .one (.bool true)]))) ∧ ∀ (s' : Sd) m0 m1 m2 m3, K (s'.osA m0 m1 m2 m3) (.ret (.tup [.agg (s'.ow 0), .one (.bool true)]))⟩
def I3 (s : Sd) (m : Md) (d id : Int) (b : List Int) (h : ByteArray) (j : Jb) (lm : Bool) (g : Bool) : St → Prop := fun σ => ∃ f0 f1 f2 f3 f4, σ = ⟨slots 199 [(3, .one (.ref 0 0)), (4, .one (.ref 1 0)), (5, .one (.ref 2 0)), (6, .one (.ref 3 0)), (8, .one (.bool g)), (9, .one (.ref 4 0)), (10, .one (.ref 5 0))], [.box 43 s.fz, .box 32 (m.cs (.sl RT m.rc)), .box 79 (acC d id b h j lm), .box 43 zSd, .box 43 (s.ow 6), .box 32 (m.cs (.own 10)), .own 3 IT s.rc true f0, .own 3 IT s.tk true f1, .own 3 IT s.cd true f2, .own 9 ST s.ln true f3, .own 39 RT m.rc true f4]⟩
def os40 (s : Sd) (wc xc : List C) (m : Md) (f0 f1 f2 f3 f4 : Bool) (l : List Ob) : List Ob :=
  [.box 43 s.fz, .box 32 (m.cs (.sl RT m.rc)), .box 43 zSd, .box 43 (s.ow 7), .box 32 (m.cs (.own 11)), .box 43 wc, .box 43 xc, .own 3 IT s.rc true f0, .own 3 IT s.tk true f1, .own 3 IT s.cd true f2, .own 9 ST s.ln true f3, .own 39 RT m.rc true f4] ++ l
def sl40 (bad e : Int) : List V := slots 199 [(3, .one (.ref 0 0)), (4, .one (.ref 1 0)), (6, .one (.ref 2 0)), (9, .one (.ref 3 0)), (10, .one (.ref 4 0)), (11, .one (.int .i64 bad)), (12, .one (.ref 5 0)), (13, .one (.ref 6 0)), (14, .one (.int .i64 e))]
def ol (w : Sd) (g0 g1 g2 g3 : Bool) : List Ob := [.own 3 IT w.rc true g0, .own 3 IT w.tk true g1, .own 3 IT w.cd true g2, .own 9 ST w.ln true g3]
def I40 (s : Sd) (m : Md) : St → Prop := fun σ =>
  (∃ f0 f1 f2 f3 f4, σ = ⟨sl40 1 1, os40 s s.fz zSd m f0 f1 f2 f3 f4 []⟩) ∨
  (∃ w : Sd, w.sml ∧ ∃ f0 f1 f2 f3 f4 f5 f6 f7 f8 f9 g0 g1 g2, σ = ⟨sl40 0 0, os40 s (w.ow 12) (w.ow 16) m f0 f1 f2 f3 f4 (ol w f5 f6 f7 f8 ++ ol w f9 g0 g1 g2)⟩) ∨
  (∃ f0 f1 f2 f3 f4 f5 f6 f7 f8, σ = ⟨sl40 0 0, os40 s s.fz (s.ow 12) m f0 f1 f2 f3 f4 (ol s f5 f6 f7 f8)⟩)
def J43 : Nat → Option (List Nat) := fun n => match n with | 3 => some [3, 4, 5, 6, 8, 9, 10] | 40 => some [3, 4, 6, 9, 10, 11, 12, 13, 14] | _ => none
theorem qk43 : SenseOK Gr Tryz.prog 43 q43 := SenseOK.anyJ Γ43q.ok (fun _ => []) J43 Tryz.func43 fun os xs K hq => by
  obtain ⟨s, m, d, id, b, h, j, lm, rfl, rfl, ⟨hd, ⟨⟨⟨hf, hm, hbd⟩, hj⟩, hh, hb, hy⟩⟩, hk0, hk1⟩ := hq
  have hsm := hf.1
  have hml := hm.2.2
  have hjl := hj.1
  have hh' := mid_big' hh
  have hbl : b.length ≤ big := by omega
  have had := hm.adrs
  have hmo : m.body.size ≤ big ∧ m.fd.size ≤ big ∧ (∀ r ∈ m.rc, r.1.2.size ≤ big) ∧ m.rc.length ≤ big := ⟨hbd, had.2.2, fun r hr => (had.1 r hr).2, hml⟩
  have hmf : m.fit := ⟨hm, hbd⟩
  have hnm : (mailP m.ml && ((decide (1 ≤ id) && decide (id ≤ 1099511627776)) && jobP j m)) = (mailP m.ml && maySd (newSd id j lm) m) := by rw [new_may]
  have hss : decide (s = s) = true := decide_eq_true rfl
  have hmm : decide (m.ml = m.ml) = true := decide_eq_true rfl
  have hww : ∀ w : Sd, decide (w = w) = true := fun w => decide_eq_true rfl
  have hll : ∀ x : ByteArray, (x.toList == x.toList) = true := fun x => beq_self_eq_true _
  have hws0 : (newSd id j lm).sml := ⟨hj.1, Nat.zero_le _, by simpa [newSd] using hj.1, Nat.zero_le _⟩
  have hbb : decide (b = b) = true := decide_eq_true rfl
  have hso : (s.fit ∧ (m.body.size ≤ big ∧ m.fd.size ≤ big ∧ (∀ r ∈ m.rc, r.1.2.size ≤ big) ∧ m.rc.length ≤ big)) ∧ h.size ≤ big := ⟨⟨hf, hmo⟩, hh'⟩
  refine zv ?_
  refine ⟨I3 s m d id b h j lm (mailP m.ml && maySd s m), ?_, ?_⟩
  · refine ⟨[], (.take 0 (.take 2 (.br 1 (.br 3 (.br 4 (.br 5 (.rest 6) .nil) (.br 5 (.br 4 (.rest 6) .nil) .nil)) (.br 4 (.br 3 (.br 5 (.rest 6) .nil) (.br 5 (.br 3 (.rest 6) .nil) .nil)) (.br 5 (.br 3 (.br 4 (.rest 6) .nil) (.br 4 (.br 3 (.rest 6) .nil) .nil)) .nil))) (.br 4 (.br 1 (.br 3 (.br 5 (.rest 6) .nil) (.br 5 (.br 3 (.rest 6) .nil) .nil)) (.br 5 (.br 1 (.br 3 (.rest 6) .nil) .nil) .nil)) (.br 5 (.br 1 (.br 3 (.br 4 (.rest 6) .nil) (.br 4 (.br 3 (.rest 6) .nil) .nil)) (.br 4 (.br 1 (.br 3 (.rest 6) .nil) .nil) .nil)) .nil))))), ⟨by kernel_rfl⟩, ?_⟩
    ((conv => whnf); repeat' ((first | refine Both.mk ?_ ?_ | refine Br.t ?_ | refine Br.f ?_ | refine ob ?_ | refine ⟨_, rfl, ?_⟩ | refine ⟨_, _, rfl, ?_⟩ | refine ⟨_, _, _, rfl, ?_⟩ | refine ⟨_, _, _, _, rfl, ?_⟩ | simp only []); all_goals (conv => whnf)))
    all_goals (intros; ((conv => whnf); repeat' ((first | refine Both.mk ?_ ?_ | refine Br.t ?_ | refine Br.f ?_ | refine ob ?_ | refine ⟨_, rfl, ?_⟩ | refine ⟨_, _, rfl, ?_⟩ | refine ⟨_, _, _, rfl, ?_⟩ | refine ⟨_, _, _, _, rfl, ?_⟩ | simp only []); all_goals (conv => whnf))))
    all_goals (intros; ((conv => whnf); repeat' ((first | refine Both.mk ?_ ?_ | refine Br.t ?_ | refine Br.f ?_ | refine ob ?_ | refine ⟨_, rfl, ?_⟩ | refine ⟨_, _, rfl, ?_⟩ | refine ⟨_, _, _, rfl, ?_⟩ | refine ⟨_, _, _, _, rfl, ?_⟩ | simp only []); all_goals (conv => whnf))))
    all_goals exact ⟨_, _, _, _, _, rfl⟩
  rintro σ' ⟨f0, f1, f2, f3, f4, rfl⟩
  refine zv ?_
  refine ⟨[], (.take 0 (.br 1 (.take 2 (.br 3 .done .nil)) .nil)), ⟨by kernel_rfl⟩, ?_⟩
  refine zs0 ?_
  refine ⟨I40 s m, ?_, ?_⟩
  · refine zs0 ?_
    intro r hr
    rcases hd with rfl | rfl
    · have h0 := hr.2 ⟨by decide, by decide⟩
      subst h0
      refine zs0 ?_
      refine Br.mk (fun g => ?_) (fun g => ?_)
      · obtain ⟨hde, hws⟩ := may_hearD (b := b) hf hmf hh ⟨hb, hy⟩ g
        by_cases h7 : s.st = 7
        · have hhs : hearS m h s b = (s, ⟨#[]⟩) := if_pos h7
          refine zs0 ?_
          refine ⟨hde, fun _ => ?_, fun h0 => absurd h7 h0⟩
          refine zs0 ?_
          intro mv
          refine zs0 ?_
          refine ⟨[.agg s.fz, .agg (m.cs (.sl RT m.rc)), .one (.sl (.int .u8) b), .one (.str h)], trr, lnt, ?_⟩
          refine zy ?_
          refine ⟨s, m, h, b, trr, trr, ⟨⟨hf, hmf⟩, hh, hb, hy⟩, fun h0 => (by rw [g] at h0; cases h0), fun _ m0 m1 m2 m3 => ?_⟩
          rw [hhs]
          refine zs1 hll ?_
          refine ⟨b, b, .own 0, .sl (.int .u8) b, [.own 5 (.int .u8) b true false], [], trr, .inr (.inr ⟨_, rfl, rfl⟩), .inl ⟨rfl, rfl⟩, trr, hbl, hbl, ?_⟩
          refine zs1 hbb ?_
          exact .inr (.inr ⟨_, _, _, _, _, _, _, _, _, rfl⟩)
        · have hhs : hearS m h s b = heardM m h s b := if_neg h7
          rw [hhs] at hws
          refine zs0 ?_
          refine ⟨hde, fun h0 => absurd h0 h7, fun _ n0 n1 n2 n3 => ?_⟩
          generalize hp : heardM m h s b = p at hws hhs
          refine zs0 ?_
          intro mv
          refine zs0 ?_
          refine ⟨[.agg s.fz, .agg (m.cs (.sl RT m.rc)), .one (.sl (.int .u8) b), .one (.str h)], trr, lnt, ?_⟩
          refine zy ?_
          refine ⟨s, m, h, b, trr, trr, ⟨⟨hf, hmf⟩, hh, hb, hy⟩, fun h0 => (by rw [g] at h0; cases h0), fun _ m0 m1 m2 m3 => ?_⟩
          rw [hhs]
          refine zs1 hll ?_
          refine ⟨b, b, .own 0, .sl (.int .u8) b, [.own 5 (.int .u8) b true false], [], trr, .inr (.inr ⟨_, rfl, rfl⟩), .inl ⟨rfl, rfl⟩, trr, hbl, hbl, ?_⟩
          refine zs1 hbb ?_
          exact .inr (.inl ⟨p.1, hws, _, _, _, _, _, _, _, _, _, _, _, _, _, rfl⟩)
      · refine zs0 ?_
        intro mv
        refine zs0 ?_
        refine ⟨[.agg s.fz, .agg (m.cs (.sl RT m.rc)), .one (.sl (.int .u8) b), .one (.str h)], trr, lnt, ?_⟩
        refine zy ?_
        refine ⟨s, m, h, b, trr, trr, ⟨⟨hf, hmf⟩, hh, hb, hy⟩, fun _ => ?_, fun h0 => (by rw [g] at h0; cases h0)⟩
        refine zs1 hll ?_
        refine ⟨b, b, .own 0, .sl (.int .u8) b, [.own 5 (.int .u8) b true false], [], trr, .inr (.inr ⟨_, rfl, rfl⟩), .inl ⟨rfl, rfl⟩, trr, hbl, hbl, ?_⟩
        refine zs1 hbb ?_
        exact .inl ⟨_, _, _, _, _, rfl⟩
    · have h0 := hr.2 ⟨by decide, by decide⟩
      subst h0
      refine zs0 ?_
      refine ⟨⟨hj, hmo⟩, ?_⟩
      refine zs1 hnm ?_
      refine Br.mk (fun g => ?_) (fun g => ?_)
      · refine zs0 ?_
        intro m0 m1 m2 m3
        refine zs0 ?_
        refine ⟨[12], (.take 0 (.take 1 (.take 2 (.take 3 (.take 5 (.take 6 (.take 7 (.br 4 (.br 8 (.take 9 (.take 10 (.take 11 (.br 12 (.take 13 .done) .nil)))) .nil) .nil)))))))), ⟨by kernel_rfl⟩, ?_⟩
        refine zs0 ?_
        intro mv
        refine zs0 ?_
        refine ⟨[.one (.int .i64 id), .agg j.fz, .one (.bool lm), .agg (m.cs (.sl RT m.rc))], trr, lnt, ?_⟩
        refine zy ?_
        refine ⟨id, j, lm, m, trr, trr, ⟨hj, hm⟩, fun h0 => (by rw [g] at h0; cases h0), fun _ n0 n1 n2 n3 => ?_⟩
        refine zs0 ?_
        exact .inr (.inl ⟨newSd id j lm, hws0, _, _, _, _, _, _, _, _, _, _, _, _, _, rfl⟩)
      · refine zs0 ?_
        refine ⟨[12], (.take 0 (.take 1 (.take 2 (.take 3 (.take 5 (.take 6 (.take 7 (.br 4 (.br 8 (.take 9 (.take 10 (.take 11 (.br 12 (.take 13 .done) .nil)))) .nil) .nil)))))))), ⟨by kernel_rfl⟩, ?_⟩
        refine zs0 ?_
        intro mv
        refine zs0 ?_
        refine ⟨[.one (.int .i64 id), .agg j.fz, .one (.bool lm), .agg (m.cs (.sl RT m.rc))], trr, lnt, ?_⟩
        refine zy ?_
        refine ⟨id, j, lm, m, trr, trr, ⟨hj, hm⟩, fun _ => ?_, fun h0 => (by rw [g] at h0; cases h0)⟩
        refine zs0 ?_
        exact .inl ⟨_, _, _, _, _, rfl⟩
  · rintro σ' (⟨f0, f1, f2, f3, f4, rfl⟩ | ⟨w, hw, f0, f1, f2, f3, f4, f5, f6, f7, f8, f9, g0, g1, g2, rfl⟩ | ⟨f0, f1, f2, f3, f4, f5, f6, f7, f8, rfl⟩)
    · refine zs0 ?_
      refine ⟨[.agg s.fz, .agg s.fz], trr, lnt, ?_⟩
      refine zy ?_
      refine ⟨s, s, trr, trr, hsm, hsm, ?_⟩
      refine zs1 hss ?_
      refine ⟨m, m, .own 0, .sl RT m.rc, [.own 39 RT m.rc true false], [], trr, .inr (.inr ⟨_, rfl, rfl⟩), .inl ⟨rfl, rfl⟩, trr, hml, hml, ?_⟩
      refine zs0 ?_
      exact hk0 s
    · refine zs0 ?_
      refine ⟨[.agg s.fz, .agg s.fz], trr, lnt, ?_⟩
      refine zy ?_
      refine ⟨s, s, trr, trr, hsm, hsm, ?_⟩
      refine zs1 hss ?_
      refine ⟨m, m, .own 0, .sl RT m.rc, [.own 39 RT m.rc true false], [], trr, .inr (.inr ⟨_, rfl, rfl⟩), .inl ⟨rfl, rfl⟩, trr, hml, hml, ?_⟩
      refine zs0 ?_
      refine ⟨[.agg w.fz, .agg w.fz], trr, lnt, ?_⟩
      refine zy ?_
      refine ⟨w, w, trr, trr, hw, hw, ?_⟩
      refine zs1 hww ?_
      intro b0 b1 b2 b3
      refine zs0 ?_
      refine ⟨[2, 12, 13, 14, 15], (.take 0 (.take 1 (.take 2 (.take 3 (.take 4 (.br 5 (.take 6 (.br 7 (.take 8 .done) .nil)) .nil)))))), ⟨by kernel_rfl⟩, ?_⟩
      refine zs0 ?_
      refine ⟨[.agg s.fz, .agg s.fz], trr, lnt, ?_⟩
      refine zy ?_
      refine ⟨s, s, trr, trr, hsm, hsm, ?_⟩
      refine zs1 hss ?_
      exact hk1 w _ _ _ _
    · refine zs0 ?_
      refine ⟨[.agg s.fz, .agg s.fz], trr, lnt, ?_⟩
      refine zy ?_
      refine ⟨s, s, trr, trr, hsm, hsm, ?_⟩
      refine zs1 hss ?_
      refine ⟨m, m, .own 0, .sl RT m.rc, [.own 39 RT m.rc true false], [], trr, .inr (.inr ⟨_, rfl, rfl⟩), .inl ⟨rfl, rfl⟩, trr, hml, hml, ?_⟩
      refine zs0 ?_
      refine ⟨[.agg s.fz, .agg s.fz], trr, lnt, ?_⟩
      refine zy ?_
      refine ⟨s, s, trr, trr, hsm, hsm, ?_⟩
      refine zs1 hss ?_
      intro b0 b1 b2 b3
      refine zs0 ?_
      refine ⟨[2, 12, 13, 14, 15], (.take 0 (.take 1 (.take 2 (.take 3 (.take 4 (.br 5 (.take 6 (.br 7 (.take 8 .done) .nil)) .nil)))))), ⟨by kernel_rfl⟩, ?_⟩
      refine zs0 ?_
      refine ⟨[.agg s.fz, .agg s.fz], trr, lnt, ?_⟩
      refine zy ?_
      refine ⟨s, s, trr, trr, hsm, hsm, ?_⟩
      refine zs1 hss ?_
      exact hk0 s
def Γ28q : Sems := ext 26 q26 (ext 42 q42 (ext 43 q43 (Γ0)))
theorem Γ28q.ok : SemsOK Gr Tryz.prog Γ28q := (((Γ0.ok.ext Tryz.func43 rfl (by decide) qk43).ext Tryz.func42 rfl (by decide) qk42).ext Tryz.func26 rfl (by decide) qk26)
def jbOf (a : AT.den) : Jb := ⟨a.2.2.2.2.1.1, a.2.2.2.2.1.2.1, a.2.2.2.2.1.2.2.1, a.2.2.2.2.1.2.2.2⟩
def scO (s : Sd) (m : Md) (l : List AT.den) : Prop := (((s.fit ∧ s.txs) ∧ (m.fit ∧ m.wts)) ∧ l.length ≤ big) ∧ ∀ a ∈ l, (jbOf a).sml ∧ (a.2.2.2.1.size ≤ mid ∧ (s.rest.size + a.2.2.1.length ≤ big ∧ Byts a.2.2.1))
def q28 : Sense := ⟨false, fun os xs K => ∃ (s : Sd) (m : Md) (l : List AT.den) (d : Int), xs = [.agg (scC s m l), .one (.int .i64 d)] ∧ os = [] ∧ ((d = 0 ∨ d = 11) ∧ scO s m l) ∧ K [] (.ret (.one (.bool true)))⟩
theorem qk28 : SenseOK Gr Tryz.prog 28 q28 := SenseOK.any Γ28q.ok (fun _ => [1, 2, 5]) Tryz.func28 fun os xs K hq => by
  obtain ⟨s, m, l, d, rfl, rfl, ⟨hd, ⟨⟨⟨hf, htx⟩, hm, hmw⟩, hl⟩, hal⟩, hk⟩ := hq
  have hl' := hl
  simp only [big] at hl'
  refine zy ?_
  refine ⟨s, m, l, rfl, rfl, ⟨⟨hf.1, htx⟩, hmw, hl⟩, fun b => ?_⟩
  refine zs0 ?_
  refine Br.mk (fun hb => ?_) (fun hb => ?_)
  · refine zs0 ?_
    exact hk
  refine zs0 ?_
  refine iter_of (I := fun n σ => ∃ i : Nat, n = l.length - i ∧ i ≤ l.length ∧ σ = ⟨slots 41 [(1, .one (.int .i64 d)), (2, .one (.ref 0 0)), (5, .one (.int .i64 i))], [.box 65 (scC s m l)]⟩) ?_ l.length ⟨0, by omega, by omega, rfl⟩
  rintro n σ K' ⟨i, rfl, hi, rfl⟩ hK'
  have w1 := IntWalk.i64_in ((i : Int) + 1) (by omega)
  by_cases g1 : i < l.length
  case neg =>
    have e1 : decide ((i : Int) < l.length) = false := decide_eq_false (by omega)
    refine zs1 e1 ?_
    exact hk
  have e1 : decide ((i : Int) < l.length) = true := decide_eq_true (by omega)
  by_cases g2 : (i : Int) < 12
  case neg =>
    have e2 : decide ((i : Int) < 12) = false := decide_eq_false g2
    refine zs2 e1 e2 ?_
    exact hk
  have e2 : decide ((i : Int) < 12) = true := decide_eq_true g2
  obtain ⟨a, ha⟩ : ∃ a, l[i]? = some a := ⟨_, List.getElem?_eq_getElem g1⟩
  have ra := nth_of ha AT.dflt
  have ia : (0 : Int) ≤ i ∧ (i : Int) < l.length := ⟨by omega, by omega⟩
  obtain ⟨ha1, ha2, ha3⟩ := hal a (List.mem_of_getElem? ha)
  refine zs3 e1 e2 ra ?_
  refine ⟨s, m, d, a.2.1, a.2.2.1, a.2.2.2.1, jbOf a, a.2.2.2.2.2, trr, trr, ⟨hd, ⟨⟨hf, hm⟩, ha1⟩, ha2, ha3⟩, fun s' => ?_, fun s' m0 m1 m2 m3 => ?_⟩
  · refine zs1 w1 ?_
    exact hK' _ _ (by omega) ⟨i + 1, rfl, by omega, rfl⟩
  · refine zs1 w1 ?_
    exact hK' _ _ (by omega) ⟨i + 1, rfl, by omega, rfl⟩
def Γ29q : Sems := ext 26 q26 (ext 28 q28 (ext 42 q42 (Γ0)))
theorem Γ29q.ok : SemsOK Gr Tryz.prog Γ29q := (((Γ0.ok.ext Tryz.func42 rfl (by decide) qk42).ext Tryz.func28 rfl (by decide) qk28).ext Tryz.func26 rfl (by decide) qk26)
def q29 : Sense := ⟨false, fun os xs K => ∃ (s : Sd) (m : Md) (l : List AT.den) (t : Int), xs = [.agg (scC s m l), .one (.int .i64 t)] ∧ os = [] ∧ scO s m l ∧ K [] (.ret (.one (.bool true)))⟩
theorem qk29 : SenseOK Gr Tryz.prog 29 q29 := SenseOK.any Γ29q.ok (fun _ => []) Tryz.func29 fun os xs K hq => by
  obtain ⟨s, m, l, t, rfl, rfl, hsc, hk⟩ := hq
  have hsc' := hsc
  obtain ⟨⟨⟨⟨hf, htx⟩, hm, hmw⟩, hl⟩, hal⟩ := hsc'
  refine zy ?_
  refine ⟨s, m, l, rfl, rfl, ⟨⟨hf.1, htx⟩, hmw, hl⟩, fun b => ?_⟩
  refine zs0 ?_
  refine Br.mk (fun hb => ?_) (fun hb => ?_)
  · refine zs0 ?_
    exact hk
  refine zs0 ?_
  refine Br.mk (fun hb => ?_) (fun hb => ?_)
  · refine zs0 ?_
    exact hk
  refine zy ?_
  refine ⟨s, m, l, 0, trr, trr, ⟨.inl rfl, hsc⟩, ?_⟩
  refine zs0 ?_
  exact hk
def Γ7q : Sems := ext 28 q28 (Γ0)
theorem Γ7q.ok : SemsOK Gr Tryz.prog Γ7q := (Γ0.ok.ext Tryz.func28 rfl (by decide) qk28)
def q7 : Sense := ⟨false, fun os xs K => ∃ (s : Sd) (m : Md) (l : List AT.den), xs = [.agg (scC s m l)] ∧ os = [] ∧ scO s m l ∧ K [] (.ret (.one (.bool true)))⟩
theorem qk7 : SenseOK Gr Tryz.prog 7 q7 := SenseOK.any Γ7q.ok (fun _ => []) Tryz.func7 fun os xs K hq => by
  obtain ⟨s, m, l, rfl, rfl, hsc, hk⟩ := hq
  refine zy ?_
  refine ⟨s, m, l, 11, trr, trr, ⟨.inr rfl, hsc⟩, ?_⟩
  refine zs0 ?_
  exact hk
def Γ8q : Sems := ext 29 q29 (Γ0)
theorem Γ8q.ok : SemsOK Gr Tryz.prog Γ8q := (Γ0.ok.ext Tryz.func29 rfl (by decide) qk29)
def q8 : Sense := ⟨false, fun os xs K => ∃ (s : Sd) (m : Md) (l : List AT.den), xs = [.agg (scC s m l)] ∧ os = [] ∧ scO s m l ∧ K [] (.ret (.one (.bool true)))⟩
theorem qk8 : SenseOK Gr Tryz.prog 8 q8 := SenseOK.any Γ8q.ok (fun _ => []) Tryz.func8 fun os xs K hq => by
  obtain ⟨s, m, l, rfl, rfl, hsc, hk⟩ := hq
  refine zy ?_
  refine ⟨s, m, l, 0, trr, trr, hsc, ?_⟩
  refine zs0 ?_
  exact hk
def Γ9q : Sems := ext 29 q29 (Γ0)
theorem Γ9q.ok : SemsOK Gr Tryz.prog Γ9q := (Γ0.ok.ext Tryz.func29 rfl (by decide) qk29)
def q9 : Sense := ⟨false, fun os xs K => ∃ (s : Sd) (m : Md) (l : List AT.den), xs = [.agg (scC s m l)] ∧ os = [] ∧ scO s m l ∧ K [] (.ret (.one (.bool true)))⟩
theorem qk9 : SenseOK Gr Tryz.prog 9 q9 := SenseOK.any Γ9q.ok (fun _ => []) Tryz.func9 fun os xs K hq => by
  obtain ⟨s, m, l, rfl, rfl, hsc, hk⟩ := hq
  refine zy ?_
  refine ⟨s, m, l, 1, trr, trr, hsc, ?_⟩
  refine zs0 ?_
  exact hk
def Γ10q : Sems := ext 29 q29 (Γ0)
theorem Γ10q.ok : SemsOK Gr Tryz.prog Γ10q := (Γ0.ok.ext Tryz.func29 rfl (by decide) qk29)
def q10 : Sense := ⟨false, fun os xs K => ∃ (s : Sd) (m : Md) (l : List AT.den), xs = [.agg (scC s m l)] ∧ os = [] ∧ scO s m l ∧ K [] (.ret (.one (.bool true)))⟩
theorem qk10 : SenseOK Gr Tryz.prog 10 q10 := SenseOK.any Γ10q.ok (fun _ => []) Tryz.func10 fun os xs K hq => by
  obtain ⟨s, m, l, rfl, rfl, hsc, hk⟩ := hq
  refine zy ?_
  refine ⟨s, m, l, 2, trr, trr, hsc, ?_⟩
  refine zs0 ?_
  exact hk
def Γ11q : Sems := ext 29 q29 (Γ0)
theorem Γ11q.ok : SemsOK Gr Tryz.prog Γ11q := (Γ0.ok.ext Tryz.func29 rfl (by decide) qk29)
def q11 : Sense := ⟨false, fun os xs K => ∃ (s : Sd) (m : Md) (l : List AT.den), xs = [.agg (scC s m l)] ∧ os = [] ∧ scO s m l ∧ K [] (.ret (.one (.bool true)))⟩
theorem qk11 : SenseOK Gr Tryz.prog 11 q11 := SenseOK.any Γ11q.ok (fun _ => []) Tryz.func11 fun os xs K hq => by
  obtain ⟨s, m, l, rfl, rfl, hsc, hk⟩ := hq
  refine zy ?_
  refine ⟨s, m, l, 3, trr, trr, hsc, ?_⟩
  refine zs0 ?_
  exact hk
def Γ12q : Sems := ext 29 q29 (Γ0)
theorem Γ12q.ok : SemsOK Gr Tryz.prog Γ12q := (Γ0.ok.ext Tryz.func29 rfl (by decide) qk29)
def q12 : Sense := ⟨false, fun os xs K => ∃ (s : Sd) (m : Md) (l : List AT.den), xs = [.agg (scC s m l)] ∧ os = [] ∧ scO s m l ∧ K [] (.ret (.one (.bool true)))⟩
theorem qk12 : SenseOK Gr Tryz.prog 12 q12 := SenseOK.any Γ12q.ok (fun _ => []) Tryz.func12 fun os xs K hq => by
  obtain ⟨s, m, l, rfl, rfl, hsc, hk⟩ := hq
  refine zy ?_
  refine ⟨s, m, l, 4, trr, trr, hsc, ?_⟩
  refine zs0 ?_
  exact hk
def Γ13q : Sems := ext 29 q29 (Γ0)
theorem Γ13q.ok : SemsOK Gr Tryz.prog Γ13q := (Γ0.ok.ext Tryz.func29 rfl (by decide) qk29)
def q13 : Sense := ⟨false, fun os xs K => ∃ (s : Sd) (m : Md) (l : List AT.den), xs = [.agg (scC s m l)] ∧ os = [] ∧ scO s m l ∧ K [] (.ret (.one (.bool true)))⟩
theorem qk13 : SenseOK Gr Tryz.prog 13 q13 := SenseOK.any Γ13q.ok (fun _ => []) Tryz.func13 fun os xs K hq => by
  obtain ⟨s, m, l, rfl, rfl, hsc, hk⟩ := hq
  refine zy ?_
  refine ⟨s, m, l, 5, trr, trr, hsc, ?_⟩
  refine zs0 ?_
  exact hk
abbrev MT : Ty := .pair (.int .i64) (.pair (.int .i64) (.pair .bool (.pair (.pair .str .str) (.pair (.slice 39 RT) (.pair .str (.pair (.int .i64) (.pair .bool .bool)))))))
def mdOf (x : MT.den) : Md := ⟨x.1, x.2.1, x.2.2.1, x.2.2.2.1.1, x.2.2.2.1.2, x.2.2.2.2.1, x.2.2.2.2.2.1, x.2.2.2.2.2.2.1, x.2.2.2.2.2.2.2.1, x.2.2.2.2.2.2.2.2⟩
structure Light (m : Md) : Prop where
  sml : m.sml
  body : m.body.size ≤ 6000
  fd : m.fd.size ≤ 6000
  rc : m.rc.length ≤ 6000
  rs : ∀ r ∈ m.rc, r.1.2.size ≤ 6000
  lay : (layS m.ml).length ≤ 300000
  layM : (layM m.ml).length ≤ 300000
end Go.Proofs.YtilagaapfbfkkaaGreatDoor.Ab
