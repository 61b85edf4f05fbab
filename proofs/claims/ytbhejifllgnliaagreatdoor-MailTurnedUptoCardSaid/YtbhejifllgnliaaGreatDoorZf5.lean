/- Part 5 of 5 of the proof of mailTurned_holds: texts put together by a program; no condition. -/
import Derived.Test.YtbhejifllgnliaaGreatDoorZf4
import Derived.Test.YtbhejifllgnliaaGreatDoorZf3
namespace Go.Proofs.YtbhejifllgnliaaGreatDoor.Ab
open Go Go.RowKit Go.Proofs.YtbhejifllgnliaaGreatDoorW.PrintWords
set_option linter.unusedSimpArgs false
set_option linter.unusedVariables false
set_option maxRecDepth 100000
abbrev MT : Ty := .pair (.int .i64) (.pair (.int .i64) (.pair .bool (.pair (.pair .str .str) (.pair (.slice 45 RT) (.pair .str (.pair (.int .i64) (.pair .bool .bool)))))))
def mtOf (m : Md) : MT.den := (m.id, (m.te, (m.nul, ((m.fl, m.fd), (m.rc, (m.body, (m.born, (m.held, m.told))))))))
def mdOf (x : MT.den) : Md := ⟨x.1, x.2.1, x.2.2.1, x.2.2.2.1.1, x.2.2.2.1.2, x.2.2.2.2.1, x.2.2.2.2.2.1, x.2.2.2.2.2.2.1, x.2.2.2.2.2.2.2.1, x.2.2.2.2.2.2.2.2⟩
theorem mt_md (x : MT.den) : x = mtOf (mdOf x) := rfl
theorem mdOf_mt (m : Md) : mdOf (mtOf m) = m := rfl
/-- What is told of a message by its weight. -/
theorem wtL_le : ∀ (l : List RT.den) (a : Int), wtL a l ≤ 6000 → a ≤ 6000 ∧ (l.length : Int) + a ≤ 6000 ∧ (∀ r ∈ l, (r.1.1.size : Int) + r.1.2.size + a ≤ 6000) ∧ (((l.map rcOf).flatMap layR).length : Int) + 37 * a ≤ 222000
  | [], a, h => by
    simp only [wtL] at h
    refine ⟨h, by simpa using h, by simp, ?_⟩
    simp only [List.map_nil, List.flatMap_nil, List.length_nil]; omega
  | r :: l, a, h => by
    simp only [wtL] at h
    split at h
    · obtain ⟨h1, h2, h3, h4⟩ := wtL_le l _ h
      refine ⟨by omega, ?_, fun q hq => ?_, ?_⟩
      · simp only [List.length_cons]; omega
      · rcases List.mem_cons.1 hq with rfl | hq
        · omega
        · have := h3 q hq; omega
      · simp only [List.map_cons, List.flatMap_cons, List.length_append, layR_len]
        simp only [rcOf, bl_length]
        omega
    · omega
structure Light (m : Md) : Prop where
  sml : m.sml
  body : m.body.size ≤ 6000
  fd : m.fd.size ≤ 6000
  rc : m.rc.length ≤ 6000
  rs : ∀ r ∈ m.rc, r.1.2.size ≤ 6000
  lay : (layS m.ml).length ≤ 300000
  layM : (layM m.ml).length ≤ 300000
theorem light_of {m : Md} (h : ¬ wtM m > 6000) : Light m := by
  obtain ⟨h1, h2, h3, h4⟩ := wtL_le m.rc _ (show wtM m ≤ 6000 by omega)
  have e1 : m.ml.fl.length = m.fl.size := bl_length _
  have e2 : m.ml.fd.length = m.fd.size := bl_length _
  have e3 : m.ml.body.length = m.body.size := bl_length _
  have e4 : (layM m.ml).length ≤ 290000 := by
    have h5 : ((m.ml.rc.flatMap layR).length : Int) + 37 * (m.body.size + m.fl.size + m.fd.size) ≤ 222000 := h4
    simp only [Ab.layM, List.length_append, txt_len, num6_len, e1, e2, e3]
    omega
  refine ⟨⟨by simp only [mid]; omega, fun r hr => ?_, by simp only [big]; omega⟩, by omega, by omega, by omega, fun r hr => ?_, ?_, by omega⟩
  · have := h3 r hr
    simp only [small, mid]; omega
  · have := h3 r hr
    omega
  · simp only [layS, List.length_append, num6_len]; omega
end Go.Proofs.YtbhejifllgnliaaGreatDoor.Ab
namespace Go.Proofs.YtbhejifllgnliaaGreatDoor.Ab
open Go Go.RowKit Go.Proofs.YtbhejifllgnliaaGreatDoorW.PrintWords
set_option linter.unusedSimpArgs false
set_option linter.unusedVariables false
set_option maxRecDepth 100000
abbrev bulkB : Nat := 1048576
theorem opb9 : OpnB Tryz.prog bulkB 9 .str (fun x => x.size ≤ bulkB) := OpnB.string (by kernel_rfl) Tryz.underlying9
theorem opb3 : OpnB Tryz.prog bulkB 3 (.int .i64) (fun x => (Lit.int .i64 x).wf = true) := (Opn.int (by kernel_rfl) Tryz.underlying3).b
theorem opb4 : OpnB Tryz.prog bulkB 4 .bool (fun _ => True) := (Opn.bool (by kernel_rfl) Tryz.underlying4).b
theorem opb24 : OpnB Tryz.prog bulkB 24 (.pair .str .str) (fun x => x.1.size ≤ bulkB ∧ x.2.size ≤ bulkB) :=
  (OpnB.struct (by kernel_rfl) Tryz.underlying24 (OpnBs.cons opb9 rfl (OpnBs.one opb9 rfl))).imp fun x h => h
theorem opb45 : OpnB Tryz.prog bulkB 45 RT (fun r => r.1.1.size ≤ big ∧ r.1.2.size ≤ big) :=
  (OpnB.struct (by kernel_rfl) Tryz.underlying45 (OpnBs.cons opb24 rfl (OpnBs.cons opb3 rfl (OpnBs.cons opb3 rfl (OpnBs.cons opb3 rfl (OpnBs.one opb3 rfl)))))).imp fun r h => ⟨Nat.le_trans h.1.1 (by decide), Nat.le_trans h.1.2 (by decide)⟩
theorem opb25 : OpnB Tryz.prog bulkB 25 (.slice 45 RT) (fun l => l.length ≤ bulkB ∧ ∀ r ∈ l, r.1.1.size ≤ big ∧ r.1.2.size ≤ big) := OpnB.slice (by kernel_rfl) Tryz.underlying25 opb45
theorem opb27 : OpnB Tryz.prog bulkB 27 MT (fun x => wtSmall (mdOf x)) :=
  (OpnB.struct (by kernel_rfl) Tryz.underlying27 (OpnBs.cons opb3 rfl (OpnBs.cons opb3 rfl (OpnBs.cons opb4 rfl (OpnBs.cons opb24 rfl (OpnBs.cons opb25 rfl (OpnBs.cons opb9 rfl (OpnBs.cons opb3 rfl (OpnBs.cons opb4 rfl (OpnBs.one opb4 rfl)))))))))).imp fun x h =>
    ⟨Nat.le_trans h.2.2.2.2.1.1 (by decide), Nat.le_trans h.2.2.2.2.2.1 (by decide), Nat.le_trans h.2.2.2.1.1 (by decide), Nat.le_trans h.2.2.2.1.2 (by decide), h.2.2.2.2.1.2⟩
theorem opb56 : OpnB Tryz.prog bulkB 56 (.slice 27 MT) (fun l => l.length ≤ bulkB ∧ ∀ x ∈ l, wtSmall (mdOf x)) := OpnB.slice (by kernel_rfl) Tryz.underlying56 opb27
end Go.Proofs.YtbhejifllgnliaaGreatDoor.Ab
namespace Go.Proofs.YtbhejifllgnliaaGreatDoor.Ab
open Go Go.RowKit Go.Proofs.YtbhejifllgnliaaGreatDoorW.PrintWords
set_option linter.unusedSimpArgs false
set_option linter.unusedVariables false
set_option maxRecDepth 100000
/-- Two messages with the same bytes are one. -/
theorem lay_inj {m n : Md} (hm : mailP m.ml = true) (hn : mailP n.ml = true) (h1 : Light m) (h2 : Light n) (h : layS m.ml = layS n.ml) : m.ml = n.ml := by
  have e1 := parM_md hm h1.sml (Nat.le_trans h1.body (by decide))
  have e2 := parM_md hn h2.sml (Nat.le_trans h2.body (by decide))
  rw [h] at e1
  exact Option.some.inj (e1.symm.trans e2)
theorem lay_iff {m n : Md} (hm : mailP m.ml = true) (hn : mailP n.ml = true) (h1 : Light m) (h2 : Light n) : decide (layS m.ml = layS n.ml) = decide (m.ml = n.ml) := by
  rw [Bool.eq_iff_iff]
  simp only [decide_eq_true_eq]
  exact ⟨lay_inj hm hn h1 h2, fun h => by rw [h]⟩
/-- One byte of a list is another. -/
theorem byts_set {l : List Int} (h : Byts l) (i : Nat) {x : Int} (hx : 0 ≤ x ∧ x < 256) : Byts (l.set i x) := fun y hy => by
  rcases List.mem_or_eq_of_mem_set hy with h1 | rfl
  · exact h y h1
  · exact hx
def Γ7 : Sems := ext 26 sTrue (ext 15 s15 (ext 23 s23 (ext 22 s22a (ext 21 s21 (ext 24 sNum (ext 25 s25 (ext 27 s27 Γ0)))))))
theorem Γ7.ok : SemsOK Gr Go.Proofs.Tryz.prog Γ7 := (((((((Γ0.ok.ext Go.Proofs.Tryz.func27 rfl (by decide) ok27).ext Go.Proofs.Tryz.func25 rfl (by decide) ok25).ext Go.Proofs.Tryz.func24 rfl (by decide) ok24).ext Go.Proofs.Tryz.func21 rfl (by decide) ok21).ext Go.Proofs.Tryz.func22 rfl (by decide) ok22a).ext Go.Proofs.Tryz.func23 rfl (by decide) ok23).ext Go.Proofs.Tryz.func15 rfl (by decide) ok15).ext Go.Proofs.Tryz.func26 rfl (by decide) ok26
def s7 : Sense := ⟨false, fun os xs K => ∃ (l : List MT.den), xs = [.one (.sl MT l)] ∧ os = [] ∧ l.length ≤ big ∧ (∀ x ∈ l, wtSmall (mdOf x)) ∧ K [] (.ret (.one (.bool true)))⟩
end Go.Proofs.YtbhejifllgnliaaGreatDoor.Ab
namespace Go.Proofs.YtbhejifllgnliaaGreatDoor.Ab
open Go Go.RowKit Go.Proofs.YtbhejifllgnliaaGreatDoorW.PrintWords
set_option linter.unusedSimpArgs false
set_option linter.unusedVariables false
set_option maxRecDepth 100000
theorem wrap8_in (z : Int) : 0 ≤ IntKind.u8.wrap z ∧ IntKind.u8.wrap z < 256 := by
  have : IntKind.u8.wrap z = z % 256 := by simp [IntKind.wrap, IntKind.signed, IntKind.bits]
  rw [this]; omega
theorem tdiv30 (n : Nat) (h : n ≤ 1048576) : IntKind.i64.wrap (Int.tdiv (n : Int) 30) = ((n / 30 : Nat) : Int) := by
  have : Int.tdiv (n : Int) 30 = ((n / 30 : Nat) : Int) := by rw [Int.tdiv_eq_ediv_of_nonneg (by omega)]; rfl
  rw [this]
  exact IntWalk.i64_in _ (by omega)
set_option maxHeartbeats 64000000 in
theorem ok7 : SenseOK Gr Go.Proofs.Tryz.prog 7 s7 := SenseOK.any Γ7.ok (fun r => bif Nat.beq r 19 then [0, 3, 4, 12] else bif Nat.beq r 9 then [0, 3, 4, 6] else [0, 3]) Go.Proofs.Tryz.func7 fun os xs K h => by
  obtain ⟨l, rfl, rfl, hl, hb, hk⟩ := h
  simp only [big] at hl
  ((conv => whnf); repeat ((first | refine Br.t ?_ | refine Br.f ?_ | refine ob ?_ | refine ⟨_, rfl, ?_⟩ | refine ⟨_, _, rfl, ?_⟩ | refine ⟨_, _, _, rfl, ?_⟩ | refine ⟨_, _, _, _, rfl, ?_⟩); (conv => whnf)))
  refine iter_of (I := fun k σ => ∃ j : Nat, k = l.length - j ∧ j ≤ l.length ∧ (∀ i x, i < j → l[i]? = some x → Light (mdOf x)) ∧ σ = ⟨slots 121 [(0, .one (.sl MT l)), (3, .one (.int .i64 j))], []⟩) ?_ l.length ⟨0, by omega, by omega, fun i x hi => by omega, rfl⟩
  rintro k σ K' ⟨j, rfl, hj, hlt, rfl⟩ hK'
  have w1 := IntWalk.i64_in ((j : Int) + 1) (by omega)
  by_cases h1 : j < l.length
  case neg =>
    have f1 : decide ((j : Int) < l.length) = false := by simp; omega
    ((conv => whnf); repeat ((first | refine Br.t ?_ | refine Br.f ?_ | refine ob ?_ | refine ⟨_, rfl, ?_⟩ | refine ⟨_, _, rfl, ?_⟩ | refine ⟨_, _, _, rfl, ?_⟩ | refine ⟨_, _, _, _, rfl, ?_⟩ | simp only [f1]); (conv => whnf)))
    exact hk
  have f1 : decide ((j : Int) < l.length) = true := by simpa using h1
  by_cases h2 : j < 6
  case neg =>
    have f2 : decide ((j : Int) < 6) = false := by simp; omega
    ((conv => whnf); repeat ((first | refine Br.t ?_ | refine Br.f ?_ | refine ob ?_ | refine ⟨_, rfl, ?_⟩ | refine ⟨_, _, rfl, ?_⟩ | refine ⟨_, _, _, rfl, ?_⟩ | refine ⟨_, _, _, _, rfl, ?_⟩ | simp only [f1, f2]); (conv => whnf)))
    exact hk
  have f2 : decide ((j : Int) < 6) = true := by simp; omega
  obtain ⟨x, hr0⟩ : ∃ x, l[j]? = some x := ⟨_, List.getElem?_eq_getElem h1⟩
  have hw := hb x (List.mem_of_getElem? hr0)
  obtain ⟨m, rfl⟩ : ∃ m, x = mtOf m := ⟨_, mt_md x⟩
  rw [mdOf_mt] at hw
  have rr := nth_of hr0 MT.dflt
  ((conv => whnf); repeat ((first | refine Br.t ?_ | refine Br.f ?_ | refine ob ?_ | refine ⟨_, rfl, ?_⟩ | refine ⟨_, _, rfl, ?_⟩ | refine ⟨_, _, _, rfl, ?_⟩ | refine ⟨_, _, _, _, rfl, ?_⟩ | simp only [f1, f2, rr]); (conv => whnf)))
  refine ⟨.inl ⟨rfl, rfl⟩, hw, ?_⟩
  by_cases h3 : wtM m > 6000
  case pos =>
    have f3 : decide (wtM m > 6000) = true := by simpa using h3
    ((conv => whnf); repeat ((first | refine Br.t ?_ | refine Br.f ?_ | refine ob ?_ | refine ⟨_, rfl, ?_⟩ | refine ⟨_, _, rfl, ?_⟩ | refine ⟨_, _, _, rfl, ?_⟩ | refine ⟨_, _, _, _, rfl, ?_⟩ | simp only [f3]); (conv => whnf)))
    exact hk
  have f3 : decide (wtM m > 6000) = false := by simpa using h3
  have hL := light_of h3
  have hlt' : ∀ i x, i < j + 1 → l[i]? = some x → Light (mdOf x) := fun i x hi hx => by
    by_cases hij : i = j
    · subst hij
      rw [hr0] at hx
      cases hx
      exact hL
    · exact hlt i x (by omega) hx
  ((conv => whnf); repeat ((first | refine Br.t ?_ | refine Br.f ?_ | refine ob ?_ | refine ⟨_, rfl, ?_⟩ | refine ⟨_, _, rfl, ?_⟩ | refine ⟨_, _, _, rfl, ?_⟩ | refine ⟨_, _, _, _, rfl, ?_⟩ | simp only [f3, rr]); (conv => whnf)))
  refine ⟨.inl ⟨rfl, rfl⟩, hL.sml, by have := hL.layM; omega, fun e1 => ?_, fun e1 mv => ?_⟩
  · ((conv => whnf); repeat ((first | refine Br.t ?_ | refine Br.f ?_ | refine ob ?_ | refine ⟨_, rfl, ?_⟩ | refine ⟨_, _, rfl, ?_⟩ | refine ⟨_, _, _, rfl, ?_⟩ | refine ⟨_, _, _, _, rfl, ?_⟩ | simp only [w1]); (conv => whnf)))
    exact hK' _ _ (by omega) ⟨j + 1, rfl, by omega, hlt', rfl⟩
  ((conv => whnf); repeat ((first | refine Br.t ?_ | refine Br.f ?_ | refine ob ?_ | refine ⟨_, rfl, ?_⟩ | refine ⟨_, _, rfl, ?_⟩ | refine ⟨_, _, _, rfl, ?_⟩ | refine ⟨_, _, _, _, rfl, ?_⟩ | simp only []); (conv => whnf)))
  have hlen := hL.lay
  have hne : layS m.ml ≠ [] := by
    intro h0
    have : (layS m.ml).length = 0 := by rw [h0]; rfl
    simp only [layS, List.length_append, num6_len] at this
    omega
  have hbyt := md_lay_byts m
  have w3 := tdiv30 (layS m.ml).length (by omega)
  refine iter_of (I := fun k σ => ∃ (i : Nat) (b : Bool), k = (layS m.ml).length - i ∧ i ≤ 2 * (layS m.ml).length + 1 ∧ σ = ⟨slots 121 [(0, .one (.sl MT l)), (3, .one (.int .i64 j)), (4, .one (.own 0)), (6, .one (.int .i64 i))], [.own 5 (.int .u8) (layS m.ml) true b]⟩) ?_ (layS m.ml).length ⟨0, _, by omega, by omega, rfl⟩
  rintro k σ K2 ⟨i, b, rfl, hi, rfl⟩ hK2
  have w2 := IntWalk.i64_in ((i : Int) + 1) (by omega)
  have w4 := IntWalk.i64_in ((i : Int) + 1 + ((layS m.ml).length / 30 : Nat)) (by omega)
  by_cases h4 : i < (layS m.ml).length
  case pos =>
    have f4 : decide ((i : Int) < (layS m.ml).length) = true := by simpa using h4
    have hii : (0 : Int) ≤ i ∧ (i : Int) < (layS m.ml).length := ⟨by omega, by omega⟩
    ((conv => whnf); repeat ((first | refine Br.t ?_ | refine Br.f ?_ | refine ob ?_ | refine ⟨_, rfl, ?_⟩ | refine ⟨_, _, rfl, ?_⟩ | refine ⟨_, _, _, rfl, ?_⟩ | refine ⟨_, _, _, _, rfl, ?_⟩ | simp only [f4]); (conv => whnf)))
    refine ⟨_, _, rfl, .inr (.inr ⟨true, rfl, rfl⟩), by simp only [big]; omega, fun h0 => absurd h0 hne, fun _ mv2 => ?_⟩
    ((conv => whnf); repeat ((first | refine Br.t ?_ | refine Br.f ?_ | refine ob ?_ | refine ⟨_, rfl, ?_⟩ | refine ⟨_, _, rfl, ?_⟩ | refine ⟨_, _, _, rfl, ?_⟩ | refine ⟨_, _, _, _, rfl, ?_⟩ | simp only [f4]); (conv => whnf)))
    have hpos : 0 < (layS m.ml).length := by omega
    generalize hX : (layS m.ml).set _ _ = X
    have hbX : Byts X := by rw [← hX]; exact byts_set hbyt _ (wrap8_in _)
    have hlX : X.length = (layS m.ml).length := by rw [← hX, List.length_set]
    refine ⟨X, _, rfl, .inr (.inr ⟨true, rfl, rfl⟩), hbX, by omega, fun hn => ?_, fun m2 hm mv3 => ?_⟩
    · ((conv => whnf); repeat ((first | refine Br.t ?_ | refine Br.f ?_ | refine ob ?_ | refine ⟨_, rfl, ?_⟩ | refine ⟨_, _, rfl, ?_⟩ | refine ⟨_, _, _, rfl, ?_⟩ | refine ⟨_, _, _, _, rfl, ?_⟩ | simp only [f4, w2, w3, w4]); (conv => whnf)))
      exact hK2 _ _ (by omega) ⟨i + 1 + (layS m.ml).length / 30, _, rfl, by omega, rfl⟩
    · obtain ⟨hred, hP, hlay, _⟩ := parM_red hm hbX
      have hml := mdMk_ml hred
      have hP' : mailP (mdMk m2).ml = true := by rw [hml]; exact hP
      have hla' : layS (mdMk m2).ml = X := by rw [hml]; exact hlay
      have hXb : X.length ≤ big := by simp only [big]; omega
      ((conv => whnf); repeat ((first | refine Br.t ?_ | refine Br.f ?_ | refine ob ?_ | refine ⟨_, rfl, ?_⟩ | refine ⟨_, _, rfl, ?_⟩ | refine ⟨_, _, _, rfl, ?_⟩ | refine ⟨_, _, _, _, rfl, ?_⟩ | simp only [f4]); (conv => whnf)))
      refine ⟨.inr (.inr ⟨true, rfl, rfl⟩), mdMk_sml hred (by omega), by rw [hml]; exact layM_len hred (by omega), fun h => absurd (h.symm.trans hP') (by simp), fun _ mv4 => ?_⟩
      ((conv => whnf); repeat ((first | refine Br.t ?_ | refine Br.f ?_ | refine ob ?_ | refine ⟨_, rfl, ?_⟩ | refine ⟨_, _, rfl, ?_⟩ | refine ⟨_, _, _, rfl, ?_⟩ | refine ⟨_, _, _, _, rfl, ?_⟩ | simp only [f4]); (conv => whnf)))
      refine ⟨X, layS (mdMk m2).ml, _, _, [.own 5 (.int .u8) X true false], [.own 5 (.int .u8) (layS (mdMk m2).ml) true false], rfl, .inr (.inr ⟨true, rfl, rfl⟩), .inr (.inr ⟨true, rfl, rfl⟩), rfl, hXb, by rw [hla']; exact hXb, ?_⟩
      have e2 : decide (X = layS (mdMk m2).ml) = true := decide_eq_true hla'.symm
      ((conv => whnf); repeat ((first | refine Br.t ?_ | refine Br.f ?_ | refine ob ?_ | refine ⟨_, rfl, ?_⟩ | refine ⟨_, _, rfl, ?_⟩ | refine ⟨_, _, _, rfl, ?_⟩ | refine ⟨_, _, _, _, rfl, ?_⟩ | simp only [e2, w2, w3, w4]); (conv => whnf)))
      exact hK2 _ _ (by omega) ⟨i + 1 + (layS m.ml).length / 30, _, rfl, by omega, rfl⟩
  case neg =>
  have f4 : decide ((i : Int) < (layS m.ml).length) = false := by simpa using h4
  ((conv => whnf); repeat ((first | refine Br.t ?_ | refine Br.f ?_ | refine ob ?_ | refine ⟨_, rfl, ?_⟩ | refine ⟨_, _, rfl, ?_⟩ | refine ⟨_, _, _, rfl, ?_⟩ | refine ⟨_, _, _, _, rfl, ?_⟩ | simp only [f4]); (conv => whnf)))
  refine iter_of (I := fun k σ => ∃ (i : Nat) (b : Bool), k = j - i ∧ i ≤ j ∧ σ = ⟨slots 121 [(0, .one (.sl MT l)), (3, .one (.int .i64 j)), (4, .one (.own 0)), (12, .one (.int .i64 i))], [.own 5 (.int .u8) (layS m.ml) true b]⟩) ?_ j ⟨0, _, by omega, by omega, rfl⟩
  rintro k σ K2 ⟨i, b, rfl, hi, rfl⟩ hK2
  have w2 := IntWalk.i64_in ((i : Int) + 1) (by omega)
  by_cases h5 : i < j
  case neg =>
    have f5 : decide ((i : Int) < (j : Int)) = false := by simp; omega
    ((conv => whnf); repeat ((first | refine Br.t ?_ | refine Br.f ?_ | refine ob ?_ | refine ⟨_, rfl, ?_⟩ | refine ⟨_, _, rfl, ?_⟩ | refine ⟨_, _, _, rfl, ?_⟩ | refine ⟨_, _, _, _, rfl, ?_⟩ | simp only [f5, w1]); (conv => whnf)))
    exact hK' _ _ (by omega) ⟨j + 1, rfl, by omega, hlt', rfl⟩
  have f5 : decide ((i : Int) < (j : Int)) = true := by simpa using h5
  obtain ⟨x2, hr2⟩ : ∃ x, l[i]? = some x := ⟨_, List.getElem?_eq_getElem (by omega)⟩
  have hL2 := hlt i x2 h5 hr2
  have hwt2 := hb x2 (List.mem_of_getElem? hr2)
  obtain ⟨m2, rfl⟩ : ∃ m, x2 = mtOf m := ⟨_, mt_md x2⟩
  rw [mdOf_mt] at hL2 hwt2
  have rr2 := nth_of hr2 MT.dflt
  have hii : (0 : Int) ≤ i ∧ (i : Int) < l.length := ⟨by omega, by omega⟩
  ((conv => whnf); repeat ((first | refine Br.t ?_ | refine Br.f ?_ | refine ob ?_ | refine ⟨_, rfl, ?_⟩ | refine ⟨_, _, rfl, ?_⟩ | refine ⟨_, _, _, rfl, ?_⟩ | refine ⟨_, _, _, _, rfl, ?_⟩ | simp only [f5, rr2]); (conv => whnf)))
  refine ⟨.inl ⟨rfl, rfl⟩, hL2.sml, by have := hL2.layM; omega, fun e2 => ?_, fun e2 mv2 => ?_⟩
  · ((conv => whnf); repeat ((first | refine Br.t ?_ | refine Br.f ?_ | refine ob ?_ | refine ⟨_, rfl, ?_⟩ | refine ⟨_, _, rfl, ?_⟩ | refine ⟨_, _, _, rfl, ?_⟩ | refine ⟨_, _, _, _, rfl, ?_⟩ | simp only [rr, rr2]); (conv => whnf)))
    refine ⟨[0], (.take 0 (.br 1 (.take 2 (.take 3 (.take 4 (.take 5 (.take 7 (.take 8 (.take 9 (.take 10 (.take 11 (.take 12 (.take 13 (.take 14 (.br 6 (.br 15 (.take 16 (.take 17 .done)) .nil) .nil))))))))))))) .nil)), by kernel_rfl, ?_⟩
    ((conv => whnf); repeat ((first | refine Br.t ?_ | refine Br.f ?_ | refine ob ?_ | refine ⟨_, rfl, ?_⟩ | refine ⟨_, _, rfl, ?_⟩ | refine ⟨_, _, _, rfl, ?_⟩ | refine ⟨_, _, _, _, rfl, ?_⟩ | simp only [rr, rr2, w2]); (conv => whnf)))
    exact hK2 _ _ (by omega) ⟨i + 1, _, rfl, by omega, rfl⟩
  · have hbb := lay_iff e1 e2 hL hL2
    have hq : (!(decide (layS m.ml = layS m2.ml) == decide (m.ml = m2.ml))) = false := by rw [hbb]; simp
    have hlen2 := hL2.lay
    ((conv => whnf); repeat ((first | refine Br.t ?_ | refine Br.f ?_ | refine ob ?_ | refine ⟨_, rfl, ?_⟩ | refine ⟨_, _, rfl, ?_⟩ | refine ⟨_, _, _, rfl, ?_⟩ | refine ⟨_, _, _, _, rfl, ?_⟩ | simp only [rr, rr2]); (conv => whnf)))
    refine ⟨[0, 1], (.take 0 (.br 1 (.take 2 (.take 3 (.take 4 (.take 5 (.take 7 (.take 8 (.take 9 (.take 10 (.take 11 (.take 12 (.take 13 (.take 14 (.br 6 (.br 15 (.take 16 (.take 17 .done)) .nil) .nil))))))))))))) .nil)), by kernel_rfl, ?_⟩
    ((conv => whnf); repeat ((first | refine Br.t ?_ | refine Br.f ?_ | refine ob ?_ | refine ⟨_, rfl, ?_⟩ | refine ⟨_, _, rfl, ?_⟩ | refine ⟨_, _, _, rfl, ?_⟩ | refine ⟨_, _, _, _, rfl, ?_⟩ | simp only [rr, rr2, w2]); (conv => whnf)))
    refine ⟨layS m.ml, layS m2.ml, _, _, [.own 5 (.int .u8) (layS m.ml) true false], [.own 5 (.int .u8) (layS m2.ml) true false], rfl, .inr (.inr ⟨true, rfl, rfl⟩), .inr (.inr ⟨true, rfl, rfl⟩), rfl, by simp only [big]; omega, by simp only [big]; omega, ?_⟩
    ((conv => whnf); repeat ((first | refine Br.t ?_ | refine Br.f ?_ | refine ob ?_ | refine ⟨_, rfl, ?_⟩ | refine ⟨_, _, rfl, ?_⟩ | refine ⟨_, _, _, rfl, ?_⟩ | refine ⟨_, _, _, _, rfl, ?_⟩ | simp only [rr, rr2, w2]); (conv => whnf)))
    refine ⟨m, m2, .sl RT m.rc, .sl RT m2.rc, [], [], rfl, .inl ⟨rfl, rfl⟩, .inl ⟨rfl, rfl⟩, rfl, hw.1, hwt2.1, ?_⟩
    ((conv => whnf); repeat ((first | refine Br.t ?_ | refine Br.f ?_ | refine ob ?_ | refine ⟨_, rfl, ?_⟩ | refine ⟨_, _, rfl, ?_⟩ | refine ⟨_, _, _, rfl, ?_⟩ | refine ⟨_, _, _, _, rfl, ?_⟩ | simp only [rr, rr2, w2, hq]); (conv => whnf)))
    exact hK2 _ _ (by omega) ⟨i + 1, _, rfl, by omega, rfl⟩
end Go.Proofs.YtbhejifllgnliaaGreatDoor.Ab
namespace Go.Proofs.YtbhejifllgnliaaGreatDoor.mailTurned
open Go Go.ChangeShapes Go.WideShapes Go.ChangeAt Go.RowKit Go.Proofs.YtbhejifllgnliaaGreatDoor.Ab
open Go.ChangeMaps (open_string shut_string)
set_option linter.unusedVariables false
set_option maxRecDepth 100000
theorem reads (os : Os) {H : Type} (enc : TypeId × Value → H) : ∃ places, DataW.whole enc Tryz.prog ((laidWorld os).forCall (fun _ _ => 0) ⟨#[], #[.slice none 0 0], []⟩).memory Tryz.f7.params.toList Rows.mailTurnedSpec.vars false #[Value.slice none 0 0].toList 8 = some ([.nil], [], places) :=
  ⟨[], by kernel_rfl⟩
theorem contract (H : Type) (enc : TypeId × Value → H) (W : World) (base : Nat) (args : Array Value) (ds gs : List (DataW H)) (before : List MemPlace)
    (hval0 : ∀ (j : Nat) t v, Tryz.f7.params[j]? = some t → args[j]? = some v → Value.okWide Tryz.prog W .any base t v)
    (hW : DataW.Whole enc Tryz.prog Tryz.f7.params.toList Rows.mailTurnedSpec.vars false W args.toList ds gs before) (hbk : Rows.uptoSmall H (ds ++ gs) = true)
    (hsz0 : (DataW.weightsEach Tryz.prog (Tryz.f7.params.toList ++ Rows.mailTurnedSpec.plain.varTypes Tryz.prog) (ds ++ gs)).all (· ≤ reachBytes) = true)
    (hL : laidMetH Tryz.prog Rows.mailTurnedUptoRow.laid W) (hsh : W.ShapedOpen Tryz.prog) :
    Calls Tryz.prog 7 args W fun e W' => ∃ v, e = .returned v ∧ Rows.mailTurnedSpec.post enc Tryz.prog Tryz.f7 false true false false W args v W' := by
  have hval : ∀ (j : Nat) t v, Tryz.f7.params[j]? = some t → args[j]? = some v → Value.okWide Tryz.prog W .any base t v := hval0
  have hsz := hsz0
  have hW' := hW
  have hbound : Rows.uptoBulkAll (ds ++ gs) ≤ 1048576 := of_decide_eq_true hbk
  obtain ⟨p, q, hA0, hV, rfl, hfz, hnd⟩ := hW
  have hA : DataW.TrodAll enc Tryz.prog W 0 (fun _ => true) true Tryz.f7.params.toList args.toList ds p := hA0
  rw [Tryz.params7] at hA hval hsz
  obtain ⟨v0, vs0, d0, ds0, p0, q0, hargs, rfl, rfl, h0, r0⟩ := trodAll_cons hA
  obtain ⟨rfl, rfl, rfl⟩ := trodAll_nil r0
  obtain rfl : args = #[v0] := by cases args; simp_all
  obtain ⟨rfl, rfl⟩ := trodVars_none hV
  have k0 := h0
  have lt0 : ∀ x ∈ p0, x.block < W.heap.size := by obtain ⟨m, hm⟩ := k0; exact DataW.trod_lt m _ _ _ hm
  have hw0 : ∀ n ∈ d0.weights Tryz.prog 56, n ≤ reachBytes := fun n hn => by
    have := List.all_eq_true.1 hsz _ (DataW.weights_mem_each (j := 0) (t := 56) (d := d0) rfl rfl n hn)
    simpa using this
  have hb0 : Rows.uptoBulk d0 ≤ bulkB := Nat.le_trans (bulk_part (by simp)) hbound
  obtain ⟨a0, len0, cap0, rfl⟩ := okWide_slice Tryz.underlying56 (hval 0 56 v0 rfl rfl)
  obtain ⟨fuel0, hf0⟩ := h0
  obtain ⟨x0, hT, hwf0⟩ := opb56.op hf0 hw0 hb0
  obtain ⟨A0, c0, hcs0, hle0, hC0⟩ := hT
  simp only [Value.cells, List.cons.injEq, Value.slice.injEq, and_true] at hcs0
  obtain ⟨rfl, rfl, rfl⟩ := hcs0
  refine (ok7.top (Gr.of_laid hsh hL).gnd (ags := [.one (.sl MT x0)]) (vs := [.slice a0 x0.length cap0]) (K := fun o => o = .ret (.one (.bool true))) ⟨⟨a0, cap0, rfl, hle0, hC0⟩, trivial⟩ ⟨x0, rfl, rfl, Nat.le_trans hwf0.1 (by decide), hwf0.2, rfl, rfl⟩).mono ?_
  rintro e W' ⟨bel, out, rfl, v, rfl, rfl⟩
  exact ⟨_, rfl, _, _, _, [], _, [], hW', trodAll_mk1 (shut_bool Tryz.underlying4 _), (trodAll_cons_mk (Below.trod laidOut (by kernel_rfl) (of_decide_eq_true (by kernel_rfl)) k0 bel lt0) trodAll_mk0), rfl, bel.frame _, fun h => by cases h⟩
theorem lifted (os : Os) (started : os.Started) (H : Type) (enc : TypeId × Value → H) (F : Stop.Interp) :
    ReturnsInHanded {} Tryz.checked os 7 .any ((Rows.OpenSpec.upto Rows.mailTurnedSpec).preRow enc Tryz.prog Tryz.f7 Rows.mailTurnedUptoRow.domain false Rows.mailTurnedUptoRow.laid) (((Rows.OpenSpec.upto Rows.mailTurnedSpec).at F).post enc Tryz.prog Tryz.f7 false true false false) := by
  obtain ⟨places, hx⟩ := reads os enc
  refine returnsInHanded_of_row (C := Tryz.checked) (s := Rows.OpenSpec.upto Rows.mailTurnedSpec) own started (by kernel_rfl) Tryz.func7
    (witness_row_atRef (enc := enc) (C := Tryz.checked) false (laidWorld os) #[.slice none 0 0] rfl (by kernel_rfl) (by kernel_rfl) (by kernel_rfl)
      (OpenSpec.preRow_of_cond 8 hx (by kernel_rfl) (fun k hk => by cases hk; kernel_rfl) (by kernel_rfl) (door_met os _))) ?_
  intro W base args ds gs before hval hW _ hcond hsz hL hsh _
  exact contract H enc W base args ds gs before hval hW (hcond _ rfl) hsz hL hsh
theorem said : Rows.MailTurnedUptoSaid :=
  OpenClaim.holds_of_cond 7 Tryz.f7 rfl rfl rfl rfl rfl rfl rfl ⟨rfl, rfl, rfl, rfl, rfl⟩ rfl rfl rfl rfl rfl (by kernel_rfl) Tryz.func7 (by kernel_rfl)
    (of_decide_eq_true (by kernel_rfl)) (by unfold Func.isWrapper; first | (rw [if_pos (by decide +kernel)]; kernel_rfl) | (rw [if_neg (by decide +kernel)]; exact ⟨rfl, rfl⟩))
    (fun os started H enc _ F => by rw [OpenClaim.pre_eq_preRow]; exact lifted os started H enc F)
/-- No parameter wants a stand-in; the program's own looks are off: what the card asks. -/
theorem plain (f : FuncId) (fn : Func) (hf : Tryz.pinned.checked.prog.funcNamed "pouch/pouchlaw15.MailTurned" = some f) (hfn : Tryz.pinned.checked.prog.funcs[f]? = some fn) :
    true = Tryz.pinned.checked.prog.looks [] ∧ ∀ (j : Nat) t, fn.params[j]? = some t → Tryz.pinned.checked.prog.wantsStandIn t = false := by
  obtain rfl : f = 7 := Option.some.inj ((show Tryz.prog.funcNamed "pouch/pouchlaw15.MailTurned" = some 7 by kernel_rfl).symm.trans hf) |>.symm
  obtain rfl : fn = Tryz.f7 := (Option.some.inj (Tryz.func7.symm.trans hfn)).symm
  refine ⟨by kernel_rfl, fun j t ht => ?_⟩
  rw [Tryz.params7] at ht
  obtain rfl : t = 56 := by simpa using Array.mem_of_getElem? ht
  exact (show Tryz.prog.wantsStandIn 56 = false by kernel_rfl)
theorem card : Rows.MailTurnedUptoCardSaid :=
  Claim7.holds_tied_plain_at .later [] _ _ _ _ said (fun _ h => by cases h) (by kernel_rfl) (fun _ h => by cases h) mailTurnedUpto_row_tie rfl ⟨rfl, rfl⟩ (by kernel_rfl) rfl plain (by kernel_rfl)
end Go.Proofs.YtbhejifllgnliaaGreatDoor.mailTurned
namespace Go.Proofs.YtbhejifllgnliaaGreatDoor
/-- The statement, under a short name, for the claim. -/
theorem mailTurned_holds : Rows.MailTurnedUptoCardSaid := mailTurned.card
end Go.Proofs.YtbhejifllgnliaaGreatDoor
