/- Part 5 of 5 of the proof of bounceEnds_holds: texts put together by a program; no condition. -/
import Derived.Test.YtbhejifllgnliaaGreatDoorZd3
import Derived.Test.YtbhejifllgnliaaGreatDoorZd4
namespace Go.Proofs.YtbhejifllgnliaaGreatDoor.Ab
open Go Go.RowKit Go.Proofs.YtbhejifllgnliaaGreatDoorW.PrintWords
set_option linter.unusedSimpArgs false
set_option linter.unusedVariables false
set_option maxRecDepth 100000
abbrev bulkB : Nat := 1048576
theorem opb9 : OpnB Tryz.prog bulkB 9 .str (fun x => x.size ≤ bulkB) := OpnB.string (by kernel_rfl) Tryz.underlying9
theorem opb3 : OpnB Tryz.prog bulkB 3 (.int .i64) (fun x => (Lit.int .i64 x).wf = true) := (Opn.int (by kernel_rfl) Tryz.underlying3).b
theorem opb4 : OpnB Tryz.prog bulkB 4 .bool (fun _ => True) := (Opn.bool (by kernel_rfl) Tryz.underlying4).b
theorem opb24 : OpnB Tryz.prog bulkB 24 (.pair .str .str) (fun x => x.1.size ≤ bulkB ∧ x.2.size ≤ bulkB) :=
  (OpnB.struct (by kernel_rfl) Tryz.underlying24 (OpnBs.cons opb9 rfl (OpnBs.one opb9 rfl))).imp fun x h => h
theorem opb45 : OpnB Tryz.prog bulkB 45 RT (fun r => r.1.1.size ≤ big ∧ r.1.2.size ≤ big) :=
  (OpnB.struct (by kernel_rfl) Tryz.underlying45 (OpnBs.cons opb24 rfl (OpnBs.cons opb3 rfl (OpnBs.cons opb3 rfl (OpnBs.cons opb3 rfl (OpnBs.one opb3 rfl)))))).imp fun r h => ⟨Nat.le_trans h.1.1 (by decide), Nat.le_trans h.1.2 (by decide)⟩
theorem opb25 : OpnB Tryz.prog bulkB 25 (.slice 45 RT) (fun l => l.length ≤ bulkB ∧ ∀ r ∈ l, r.1.1.size ≤ big ∧ r.1.2.size ≤ big) := OpnB.slice (by kernel_rfl) Tryz.underlying25 opb45
theorem opb27 : OpnB Tryz.prog bulkB 27 MT (fun x => wtSmall (mdOf x)) :=
  (OpnB.struct (by kernel_rfl) Tryz.underlying27 (OpnBs.cons opb3 rfl (OpnBs.cons opb3 rfl (OpnBs.cons opb4 rfl (OpnBs.cons opb24 rfl (OpnBs.cons opb25 rfl (OpnBs.cons opb9 rfl (OpnBs.cons opb3 rfl (OpnBs.cons opb4 rfl (OpnBs.one opb4 rfl)))))))))).imp fun x h =>
    ⟨Nat.le_trans h.2.2.2.2.1.1 (by decide), Nat.le_trans h.2.2.2.2.2.1 (by decide), Nat.le_trans h.2.2.2.1.1 (by decide), Nat.le_trans h.2.2.2.1.2 (by decide), h.2.2.2.2.1.2⟩
end Go.Proofs.YtbhejifllgnliaaGreatDoor.Ab
namespace Go.Proofs.YtbhejifllgnliaaGreatDoor.Ab
open Go Go.RowKit Go.Proofs.YtbhejifllgnliaaGreatDoorW.PrintWords
set_option linter.unusedSimpArgs false
set_option linter.unusedVariables false
set_option maxRecDepth 100000
variable {G : World → Prop}
/-- What strings join to. -/
def joinT (l : List ByteArray) (sep : ByteArray) : List UInt8 := Lib.join (l.map (·.data.toList)) sep.data.toList
def s93 : Sense := ⟨false, fun os xs K => ∃ (l : List ByteArray) (sep : ByteArray) (ap : Bool), os = [.own 9 .str l ap false] ∧ xs = [.one (.own 0), .one (.str sep)] ∧ l.length ≤ big ∧ (joinT l sep).length ≤ 140737488355328 ∧
  ∀ r : ByteArray, r.data.toList = joinT l sep → K os (.ret (.one (.str r)))⟩
theorem ok93 : SenseOK G Go.Proofs.Tryz.prog 93 s93 := by
  intro X w lk os ags vs K hO hl0 hX hXG hgr has hs
  obtain ⟨l, sep, ap, rfl, rfl, hl, hj, hk⟩ := hs
  simp only [big] at hl
  obtain ⟨v1, m1, rfl, ⟨hv1, A0, n0, c0, hv1e⟩, h2⟩ := has.cons_inv
  obtain ⟨v2, m2, rfl, hv2, h3⟩ := h2.cons_inv
  obtain rfl := h3.nil_inv
  obtain rfl : v2 = .string sep := hv2
  obtain ⟨v, rfl⟩ : ∃ v, lk = [v] := by
    match lk, hO.lsz with
    | [v], _ => exact ⟨v, rfl⟩
  obtain rfl : v = v1 := by simpa using hv1
  have hob := hO.ob 0 _ v rfl rfl
  have key : Calls Go.Proofs.Tryz.prog 93 #[v, .string sep] w fun e w' => e = .returned (.string ⟨(joinT l sep).toArray⟩) ∧ Below w.heap.size w w' := by
    obtain ⟨A, c, he, hc, hn, hs⟩ := own_SR (I' := fun _ => True) hob (fun _ _ => trivial)
    obtain ⟨cells, hr, hv⟩ := hob
    rcases hv with ⟨rfl, rfl⟩ | ⟨g, cap, cur, fr, rfl, hh, hcp, hm, hsz, htk, _, _⟩
    · refine (Tryz.strings_Join_none none 0 sep w).mono ?_
      rintro e w' ⟨rfl, rfl⟩
      exact ⟨rfl, Below.refl _ _⟩
    · simp only [Value.slice.injEq] at he
      obtain ⟨rfl, _, rfl⟩ := he
      refine Tryz.strings_Join g 0 cap l sep w (fun j x hx => ?_) ?_ (by omega) hcp hj
      · obtain ⟨ad, had, _, hcs⟩ := hs (Nat.lt_of_le_of_lt (Nat.zero_le _) (List.getElem?_eq_some_iff.1 hx).1)
        simp only [Option.some.injEq] at had
        subst had
        obtain ⟨cs, hcl, hT, hu⟩ := hcs j x hx
        obtain rfl : cs = [.string x] := hT
        have := hu 0 _ rfl
        rcases j with _ | j <;> simpa [Addr.add, Ty.sz] using this
      · exact (Array.getElem?_eq_some_iff.1 hh).1
  refine key.mono ?_
  rintro e w' ⟨rfl, hb⟩
  have hgo : Goes w (Imm X w [v]) w' (Imm X w' [v]) := fun b hb' => ⟨hb.block b hb'.1, Nat.lt_of_lt_of_le hb'.1 hb.size, hb'.2.1, hb'.2.2⟩
  refine ⟨_, [v], _, hk ⟨(joinT l sep).toArray⟩ rfl, { hO with ob := fun i o u ho hu => ?_, lt := fun i u b hu hbk => Nat.lt_of_lt_of_le (hO.lt i u b hu hbk) hb.size }, ⟨hb.os, hb.tape, hb.output, hb.size, fun k hk' _ => hb.block k hk'⟩, fun u hu b hbk => .inl ⟨u, hu, hbk⟩, _, rfl, rfl⟩
  cases i with
  | zero =>
    simp at ho hu
    subst ho hu
    exact ORep.goes hgo (by simp [Keeps, Ob.ids]) (fun b hbk => hb.block b (hO.lt 0 _ b rfl hbk)) hob
  | succ i => simp at ho
def u92 : Sense := ⟨false, fun os xs K => ∃ (x n : Int), xs = [.one (.own 0), .one (.int .i64 n)] ∧ (∃ ap, os = [.own 3 (.int .i64) [x] ap false]) ∧ K os (.ret (.one (.int .i64 (bif n == x then 0 else -1))))⟩
set_option maxHeartbeats 8000000 in
theorem uk92 : SenseOK G Go.Proofs.Tryz.prog 92 u92 := SenseOK.any Γ0.ok (fun _ => [0, 1, 7, 8]) Go.Proofs.Tryz.func92 fun os xs K h => by
  obtain ⟨x, n, rfl, ⟨ap, rfl⟩, hk⟩ := h
  have u1 : IntKind.i64.wrap (0 + 1) = 1 := by decide
  ((conv => whnf); repeat ((first | refine Br.t ?_ | refine Br.f ?_ | refine ob ?_ | refine ⟨_, rfl, ?_⟩ | refine ⟨_, _, rfl, ?_⟩ | refine ⟨_, _, _, rfl, ?_⟩ | refine ⟨_, _, _, _, rfl, ?_⟩); (conv => whnf)))
  refine ⟨2, ?_⟩
  ((conv => whnf); repeat ((first | refine Br.t ?_ | refine Br.f ?_ | refine ob ?_ | refine ⟨_, rfl, ?_⟩ | refine ⟨_, _, rfl, ?_⟩ | refine ⟨_, _, _, rfl, ?_⟩ | refine ⟨_, _, _, _, rfl, ?_⟩); (conv => whnf)))
  by_cases g0 : n = x
  · have e0 : (n == x) = true := by simpa using g0
    have e0' : (n == rdx [x] (Int.toNat 0) (Ty.int IntKind.i64).dflt) = true := e0
    rw [e0] at hk
    ((conv => whnf); repeat ((first | refine Br.t ?_ | refine Br.f ?_ | refine ob ?_ | refine ⟨_, rfl, ?_⟩ | refine ⟨_, _, rfl, ?_⟩ | refine ⟨_, _, _, rfl, ?_⟩ | refine ⟨_, _, _, _, rfl, ?_⟩ | simp only [e0']); (conv => whnf)))
    exact hk
  have e0 : (n == x) = false := by simpa using g0
  have e0' : (n == rdx [x] (Int.toNat 0) (Ty.int IntKind.i64).dflt) = false := e0
  rw [e0] at hk
  ((conv => whnf); repeat ((first | refine Br.t ?_ | refine Br.f ?_ | refine ob ?_ | refine ⟨_, rfl, ?_⟩ | refine ⟨_, _, rfl, ?_⟩ | refine ⟨_, _, _, rfl, ?_⟩ | refine ⟨_, _, _, _, rfl, ?_⟩ | simp only [e0', u1]); (conv => whnf)))
  exact hk
def Δ66 : Sems := ext 92 u92 Γ0
theorem Δ66.ok : SemsOK G Go.Proofs.Tryz.prog Δ66 := Γ0.ok.ext Go.Proofs.Tryz.func92 rfl (by decide) uk92
def u66 : Sense := ⟨false, fun os xs K => ∃ (x n : Int), xs = [.one (.own 0), .one (.int .i64 n)] ∧ (∃ ap, os = [.own 3 (.int .i64) [x] ap false]) ∧ K os (.ret (.one (.bool (n == x))))⟩
theorem uk66 : SenseOK G Go.Proofs.Tryz.prog 66 u66 := SenseOK.any Δ66.ok (fun _ => []) Go.Proofs.Tryz.func66 fun os xs K h => by
  obtain ⟨x, n, rfl, ⟨ap, rfl⟩, hk⟩ := h
  ((conv => whnf); repeat ((first | refine Br.t ?_ | refine Br.f ?_ | refine ob ?_ | refine ⟨_, rfl, ?_⟩ | refine ⟨_, _, rfl, ?_⟩ | refine ⟨_, _, _, rfl, ?_⟩ | refine ⟨_, _, _, _, rfl, ?_⟩); (conv => whnf)))
  refine ⟨x, n, rfl, ⟨ap, rfl⟩, ?_⟩
  have hd : decide (0 ≤ (bif n == x then (0 : Int) else -1)) = (n == x) := by
    cases n == x <;> rfl
  rw [← hd] at hk
  ((conv => whnf); repeat ((first | refine Br.t ?_ | refine Br.f ?_ | refine ob ?_ | refine ⟨_, rfl, ?_⟩ | refine ⟨_, _, rfl, ?_⟩ | refine ⟨_, _, _, rfl, ?_⟩ | refine ⟨_, _, _, _, rfl, ?_⟩); (conv => whnf)))
  exact hk
def Δ65 : Sems := ext 66 u66 Γ0
theorem Δ65.ok : SemsOK G Go.Proofs.Tryz.prog Δ65 := Γ0.ok.ext Go.Proofs.Tryz.func66 rfl (by decide) uk66
def u65 : Sense := ⟨false, fun os xs K => ∃ (x : Int) (r : RT.den), xs = [.agg (rcs r), .one (.ref 0 0)] ∧ (∃ ap, os = [.box 84 [.own 1], .own 3 (.int .i64) [x] ap false]) ∧ K os (.ret (.one (.bool (r.2.1 == x))))⟩
theorem uk65 : SenseOK G Go.Proofs.Tryz.prog 65 u65 := SenseOK.any Δ65.ok (fun _ => []) Go.Proofs.Tryz.func65 fun os xs K h => by
  obtain ⟨x, r, rfl, ⟨ap, rfl⟩, hk⟩ := h
  ((conv => whnf); repeat ((first | refine Br.t ?_ | refine Br.f ?_ | refine ob ?_ | refine ⟨_, rfl, ?_⟩ | refine ⟨_, _, rfl, ?_⟩ | refine ⟨_, _, _, rfl, ?_⟩ | refine ⟨_, _, _, _, rfl, ?_⟩); (conv => whnf)))
  refine ⟨x, _, rfl, ⟨ap, rfl⟩, ?_⟩
  ((conv => whnf); repeat ((first | refine Br.t ?_ | refine Br.f ?_ | refine ob ?_ | refine ⟨_, rfl, ?_⟩ | refine ⟨_, _, rfl, ?_⟩ | refine ⟨_, _, _, rfl, ?_⟩ | refine ⟨_, _, _, _, rfl, ?_⟩); (conv => whnf)))
  exact hk
def Δ91 : Sems := ext 65 u65 Γ0
theorem Δ91.ok : SemsOK G Go.Proofs.Tryz.prog Δ91 := Γ0.ok.ext Go.Proofs.Tryz.func65 rfl (by decide) uk65
def isO (x : Int) (r : RT.den) : Bool := r.2.1 == x
def u91 : Sense := ⟨false, fun os xs K => ∃ (x : Int) (l : List RT.den) (c : C) (pa : List Ob), xs = [.one c, .one (.fn 65 [pa.length])] ∧ RcIn 0 l c pa ∧ l.length ≤ big ∧ (∃ ap, os = pa ++ [.box 84 [.own (pa.length + 1)], .own 3 (.int .i64) [x] ap false]) ∧ (∀ i : Int, decide (0 ≤ i) = l.any (isO x) → K os (.ret (.one (.int .i64 i))))⟩
set_option maxHeartbeats 8000000 in
theorem uk91 : SenseOK G Go.Proofs.Tryz.prog 91 u91 := SenseOK.any Δ91.ok (fun _ => [0, 1, 7, 8]) Go.Proofs.Tryz.func91 fun os xs K h => by
  obtain ⟨x, l, c, pa, rfl, ha, hb, ⟨ap, rfl⟩, hk⟩ := h
  simp only [big] at hb
  rcases ha with ⟨hc, ho⟩ | ⟨hc, ho, ha0⟩ | ⟨ap2, hc, ho⟩
  all_goals
    rw [hc, ho]
    rw [ho] at hk
    ((conv => whnf); repeat ((first | refine Br.t ?_ | refine Br.f ?_ | refine ob ?_ | refine ⟨_, rfl, ?_⟩ | refine ⟨_, _, rfl, ?_⟩ | refine ⟨_, _, _, rfl, ?_⟩ | refine ⟨_, _, _, _, rfl, ?_⟩); (conv => whnf)))
    refine iter_of (I := fun k σ => ∃ (j : Nat), k = l.length - j ∧ j ≤ l.length ∧ (l.take j).any (isO x) = false ∧ σ = ⟨slots 19 [(0, .one c), (1, .one (.fn 65 [pa.length])), (7, .one (.int .i64 l.length)), (8, .one (.int .i64 j))], pa ++ [.box 84 [.own (pa.length + 1)], .own 3 (.int .i64) [x] ap false]⟩) ?_ l.length ⟨0, by omega, by omega, rfl, by first | (rw [hc, ho]; rfl) | (rw [hc, ho, ha0]; rfl)⟩
    rintro k σ K' ⟨j, rfl, hj, hn, rfl⟩ hK'
    rw [hc, ho] at hK' ⊢
    by_cases h1 : j < l.length
    case neg =>
      obtain rfl : j = l.length := by omega
      rw [List.take_length] at hn
      have f1 : decide ((l.length : Int) < l.length) = false := by simp
      ((conv => whnf); repeat ((first | refine Br.t ?_ | refine Br.f ?_ | refine ob ?_ | refine ⟨_, rfl, ?_⟩ | refine ⟨_, _, rfl, ?_⟩ | refine ⟨_, _, _, rfl, ?_⟩ | refine ⟨_, _, _, _, rfl, ?_⟩ | simp only [f1]); (conv => whnf)))
      exact hk (-1) (by rw [hn]; rfl)
    first | (rw [ha0] at h1; exact absurd h1 (by simp)) | skip
  all_goals
    have f1 : decide ((j : Int) < l.length) = true := by simp; omega
    obtain ⟨r, hr⟩ : ∃ r, l[j]? = some r := ⟨_, List.getElem?_eq_getElem h1⟩
    have rr := nth_of hr RT.dflt
    have w2 := IntWalk.i64_in (↑j + 1) (by omega)
    ((conv => whnf); repeat ((first | refine Br.t ?_ | refine Br.f ?_ | refine ob ?_ | refine ⟨_, rfl, ?_⟩ | refine ⟨_, _, rfl, ?_⟩ | refine ⟨_, _, _, rfl, ?_⟩ | refine ⟨_, _, _, _, rfl, ?_⟩ | simp only [f1]); (conv => whnf)))
    rw [rr]
    refine ⟨x, r, rfl, ⟨ap, rfl⟩, ?_⟩
    by_cases g0 : isO x r = true
    · have e0 : (r.2.1 == x) = true := g0
      ((conv => whnf); repeat ((first | refine Br.t ?_ | refine Br.f ?_ | refine ob ?_ | refine ⟨_, rfl, ?_⟩ | refine ⟨_, _, rfl, ?_⟩ | refine ⟨_, _, _, rfl, ?_⟩ | refine ⟨_, _, _, _, rfl, ?_⟩ | simp only [e0]); (conv => whnf)))
      exact hk j (by rw [any_at hr g0]; simp)
    · have g1 : isO x r = false := by simpa using g0
      have e0 : (r.2.1 == x) = false := g1
      ((conv => whnf); repeat ((first | refine Br.t ?_ | refine Br.f ?_ | refine ob ?_ | refine ⟨_, rfl, ?_⟩ | refine ⟨_, _, rfl, ?_⟩ | refine ⟨_, _, _, rfl, ?_⟩ | refine ⟨_, _, _, _, rfl, ?_⟩ | simp only [e0, w2]); (conv => whnf)))
      exact hK' _ _ (by omega) ⟨j + 1, rfl, by omega, any_take_next hr hn g1, rfl⟩
def Δ64 : Sems := ext 91 u91 Γ0
theorem Δ64.ok : SemsOK G Go.Proofs.Tryz.prog Δ64 := Γ0.ok.ext Go.Proofs.Tryz.func91 rfl (by decide) uk91
def u64 : Sense := ⟨false, fun os xs K => ∃ (x : Int) (l : List RT.den) (c : C) (pa : List Ob), xs = [.one c, .one (.fn 65 [pa.length])] ∧ RcIn 0 l c pa ∧ l.length ≤ big ∧ (∃ ap, os = pa ++ [.box 84 [.own (pa.length + 1)], .own 3 (.int .i64) [x] ap false]) ∧ K os (.ret (.one (.bool (l.any (isO x)))))⟩
theorem uk64 : SenseOK G Go.Proofs.Tryz.prog 64 u64 := SenseOK.any Δ64.ok (fun _ => []) Go.Proofs.Tryz.func64 fun os xs K h => by
  obtain ⟨x, l, c, pa, rfl, ha, hb, ⟨ap, rfl⟩, hk⟩ := h
  have ha' := ha
  rcases ha with ⟨hc, ho⟩ | ⟨hc, ho, ha0⟩ | ⟨ap2, hc, ho⟩
  all_goals
    rw [hc, ho]
    rw [ho] at hk
    ((conv => whnf); repeat ((first | refine Br.t ?_ | refine Br.f ?_ | refine ob ?_ | refine ⟨_, rfl, ?_⟩ | refine ⟨_, _, rfl, ?_⟩ | refine ⟨_, _, _, rfl, ?_⟩ | refine ⟨_, _, _, _, rfl, ?_⟩); (conv => whnf)))
    refine ⟨x, l, c, pa, by rw [hc, ho]; rfl, ha', hb, ⟨ap, by rw [ho]; rfl⟩, fun i hi => ?_⟩
    rw [← hi] at hk
    ((conv => whnf); repeat ((first | refine Br.t ?_ | refine Br.f ?_ | refine ob ?_ | refine ⟨_, rfl, ?_⟩ | refine ⟨_, _, rfl, ?_⟩ | refine ⟨_, _, _, rfl, ?_⟩ | refine ⟨_, _, _, _, rfl, ?_⟩); (conv => whnf)))
    exact hk
def Δ40 : Sems := ext 64 u64 Γ0
theorem Δ40.ok : SemsOK G Go.Proofs.Tryz.prog Δ40 := Γ0.ok.ext Go.Proofs.Tryz.func64 rfl (by decide) uk64
def u40 : Sense := ⟨false, fun os xs K => ∃ (x : Int) (m : Md) (c : C) (pa : List Ob), xs = [.agg (m.cs c), .one (.own pa.length)] ∧ RcIn 0 m.rc c pa ∧ m.rc.length ≤ big ∧ (∃ ap, os = pa ++ [.own 3 (.int .i64) [x] ap false]) ∧ K os (.ret (.one (.bool (m.rc.any (isO x)))))⟩
theorem uk40 : SenseOK G Go.Proofs.Tryz.prog 40 u40 := SenseOK.any Δ40.ok (fun _ => []) Go.Proofs.Tryz.func40 fun os xs K h => by
  obtain ⟨x, m, c, pa, rfl, ha, hb, ⟨ap, rfl⟩, hk⟩ := h
  have ha' := ha
  rcases ha with ⟨hc, ho⟩ | ⟨hc, ho, ha0⟩ | ⟨ap2, hc, ho⟩
  all_goals
    rw [hc, ho]
    rw [ho] at hk
    ((conv => whnf); repeat ((first | refine Br.t ?_ | refine Br.f ?_ | refine ob ?_ | refine ⟨_, rfl, ?_⟩ | refine ⟨_, _, rfl, ?_⟩ | refine ⟨_, _, _, rfl, ?_⟩ | refine ⟨_, _, _, _, rfl, ?_⟩); (conv => whnf)))
    refine ⟨x, m.rc, c, pa, by rw [hc, ho]; rfl, ha', hb, ⟨ap, by rw [ho]; rfl⟩, ?_⟩
    ((conv => whnf); repeat ((first | refine Br.t ?_ | refine Br.f ?_ | refine ob ?_ | refine ⟨_, rfl, ?_⟩ | refine ⟨_, _, rfl, ?_⟩ | refine ⟨_, _, _, rfl, ?_⟩ | refine ⟨_, _, _, _, rfl, ?_⟩); (conv => whnf)))
    exact hk
end Go.Proofs.YtbhejifllgnliaaGreatDoor.Ab
namespace Go.Proofs.YtbhejifllgnliaaGreatDoor.Ab
open Go Go.RowKit Go.Proofs.YtbhejifllgnliaaGreatDoorW.PrintWords
set_option linter.unusedSimpArgs false
set_option linter.unusedVariables false
set_option maxRecDepth 100000
variable {G : World → Prop}
abbrev crlfB : ByteArray := ⟨#[13, 10]⟩
/-- Lines, each with its end. -/
def linesT (l : List ByteArray) : List Int := l.flatMap fun x => bl x ++ [13, 10]
theorem join_lines : ∀ (l : List ByteArray), l ≠ [] → nums (joinT l crlfB) ++ [13, 10] = linesT l
  | [], h => absurd rfl h
  | [x], _ => by
    simp [joinT, Lib.join, linesT, List.intercalate, nums, bl]
  | x :: y :: l, _ => by
    have ih := join_lines (y :: l) (by simp)
    have e : joinT (x :: y :: l) crlfB = x.data.toList ++ [13, 10] ++ joinT (y :: l) crlfB := by
      simp [joinT, Lib.join, List.intercalate]
    rw [e]
    simp only [linesT, List.flatMap_cons] at ih ⊢
    rw [← ih]
    simp [nums, bl]
theorem linesT_len : ∀ (l : List ByteArray), (joinT l crlfB).length ≤ (linesT l).length
  | [] => by simp [joinT, Lib.join, List.intercalate]
  | x :: l => by
    have := join_lines (x :: l) (by simp)
    rw [← this, List.length_append, nums, List.length_map]; omega
theorem linesT_snoc (l : List ByteArray) (x : ByteArray) : linesT (l ++ [x]) = linesT l ++ bl x ++ [13, 10] := by simp [linesT]
theorem itoa_decL : ∀ n : Nat, n < 1000 → nums (Lib.itoa (n : Int)) = decL n := by
  intro n hn
  have : ∀ k : Fin 1000, nums (Lib.itoa ((k.1 : Nat) : Int)) = decL k.1 := by decide +kernel
  exact this ⟨n, hn⟩
end Go.Proofs.YtbhejifllgnliaaGreatDoor.Ab
namespace Go.Proofs.YtbhejifllgnliaaGreatDoor.Ab
open Go Go.RowKit Go.Proofs.YtbhejifllgnliaaGreatDoorW.PrintWords
set_option linter.unusedSimpArgs false
set_option linter.unusedVariables false
set_option maxRecDepth 100000
def Γ67 : Sems := ext 93 s93 (ext 87 s87 (ext 83 s83 Γ0))
theorem Γ67.ok : SemsOK Gr Go.Proofs.Tryz.prog Γ67 := ((Γ0.ok.ext Go.Proofs.Tryz.func83 rfl (by decide) ok83).ext Go.Proofs.Tryz.func87 rfl (by decide) ok87).ext Go.Proofs.Tryz.func93 rfl (by decide) ok93
abbrev fromB : ByteArray := ⟨#[70, 114, 111, 109, 58, 32, 60, 112, 111, 115, 116, 109, 97, 115, 116, 101, 114, 64]⟩
abbrev gtB : ByteArray := ⟨#[62]⟩
abbrev toB : ByteArray := ⟨#[84, 111, 58, 32, 60]⟩
abbrev ls0 (h v : ByteArray) : List ByteArray := [fromB ++ h ++ gtB, toB ++ v ++ gtB, ⟨#[83, 117, 98, 106, 101, 99, 116, 58, 32, 110, 111, 116, 32, 100, 101, 108, 105, 118, 101, 114, 101, 100]⟩, ⟨#[]⟩]
/-- What is asked of a message that is told of. -/
structure TellOK (m : Md) (h : ByteArray) : Prop where
  rc : m.rc.length ≤ 8
  fl : m.fl.size ≤ big
  fd : m.fd.size ≤ big
  h : h.size ≤ big
  rs : ∀ r ∈ m.rc, r.1.1.size ≤ big ∧ r.1.2.size ≤ big ∧ 0 ≤ r.2.2.2.2 ∧ r.2.2.2.2 ≤ 599
def s67 : Sense := ⟨false, fun os xs K => ∃ (m : Md) (c : C) (h : ByteArray), xs = [.agg (m.cs c), .one (.str h)] ∧ RcIn 0 m.rc c os ∧ TellOK m h ∧ ∀ t, bl t = mkT m (bl h) → K os (.ret (.one (.str t)))⟩
set_option maxHeartbeats 16000000 in
theorem ok67 : SenseOK Gr Go.Proofs.Tryz.prog 67 s67 := SenseOK.any Γ67.ok (fun _ => [5, 18, 19, 20]) Go.Proofs.Tryz.func67 fun os xs K h => by
  obtain ⟨m, c, h, rfl, ha, ⟨hb, hfl, hfd, hh, hrs⟩, hk⟩ := h
  simp only [big] at hh hfl hfd
  have z1 : fromB.size = 18 := rfl
  have z2 : gtB.size = 1 := rfl
  have z3 : toB.size = 5 := rfl
  have o1 : fromB.size + h.size ≤ 9223372036854775807 := by rw [z1]; omega
  have o2 : (fromB ++ h).size + gtB.size ≤ 9223372036854775807 := by rw [ByteArray.size_append, z1, z2]; omega
  rcases ha with ⟨hc, ho⟩ | ⟨hc, ho, ha0⟩ | ⟨ap, hc, ho⟩
  all_goals
    rw [hc, ho]
    rw [ho] at hk
    ((conv => whnf); repeat ((first | refine Br.t ?_ | refine Br.f ?_ | refine ob ?_ | refine ⟨_, rfl, ?_⟩ | refine ⟨_, _, rfl, ?_⟩ | refine ⟨_, _, _, rfl, ?_⟩ | refine ⟨_, _, _, _, rfl, ?_⟩ | simp only []); (conv => whnf)))
    intro v hv
    have hvs : v.size = m.fl.size + m.fd.size + 1 := by
      rw [← bl_len, hv, List.length_append, List.length_cons, bl_len, bl_len]; omega
    have o3 : toB.size + v.size ≤ 9223372036854775807 := by rw [z3]; omega
    have o4 : (toB ++ v).size + gtB.size ≤ 9223372036854775807 := by rw [ByteArray.size_append, z2, z3]; omega
    ((conv => whnf); repeat ((first | refine Br.t ?_ | refine Br.f ?_ | refine ob ?_ | refine ⟨_, rfl, ?_⟩ | refine ⟨_, _, rfl, ?_⟩ | refine ⟨_, _, _, rfl, ?_⟩ | refine ⟨_, _, _, _, rfl, ?_⟩ | simp only []); (conv => whnf)))
    have hstart : linesT (ls0 h v) = hdT (bl h) (bl m.fl) (bl m.fd) := by
      simp only [linesT, List.flatMap_cons, List.flatMap_nil, bl_append, hv, hdT, List.append_nil]
      have q1 : bl fromB = [70, 114, 111, 109, 58, 32, 60, 112, 111, 115, 116, 109, 97, 115, 116, 101, 114, 64] := rfl
      have q2 : bl gtB = [62] := rfl
      have q3 : bl toB = [84, 111, 58, 32, 60] := rfl
      rw [q1, q2, q3]
      simp [bl]
    have hlen0 : (hdT (bl h) (bl m.fl) (bl m.fd)).length ≤ 8589934592 := by
      simp only [hdT, List.length_append, List.length_cons, List.length_nil, bl_len]; omega
    refine iter_of (I := fun k σ => ∃ (j : Nat) (ls : List ByteArray) (mv : Bool), k = m.rc.length - j ∧ j ≤ m.rc.length ∧ ls ≠ [] ∧ ls.length ≤ 4 + j ∧ (linesT ls).length ≤ 8589934592 + j * 4294967296 ∧ linesT ls = hdT (bl h) (bl m.fl) (bl m.fd) ++ (m.rc.take j).flatMap rowT ∧ σ = ⟨slots 42 [(5, .one (.own os.length)), (18, .one c), (19, .one (.int .i64 m.rc.length)), (20, .one (.int .i64 j))], os ++ [.own 9 .str ls true mv]⟩) ?_ m.rc.length ⟨0, ls0 h v, false, by omega, by omega, by simp, by simp, by rw [hstart]; omega, by rw [hstart]; simp, by rw [ho, hc]; first | rfl | (rw [ha0]; rfl)⟩
    rintro k σ K' ⟨j, ls, mv, rfl, hj, hne, hll, hsz, hls, rfl⟩ hK'
    rw [ho, hc] at hK' ⊢
    have w1 := IntWalk.i64_in ((j : Int) + 1) (by omega)
    by_cases h1 : j < m.rc.length
    case neg =>
      have f1 : decide ((j : Int) < m.rc.length) = false := by simp; omega
      obtain rfl : j = m.rc.length := by omega
      rw [List.take_length] at hls
      ((conv => whnf); repeat ((first | refine Br.t ?_ | refine Br.f ?_ | refine ob ?_ | refine ⟨_, rfl, ?_⟩ | refine ⟨_, _, rfl, ?_⟩ | refine ⟨_, _, _, rfl, ?_⟩ | refine ⟨_, _, _, _, rfl, ?_⟩ | simp only [f1]); (conv => whnf)))
      have hj8 : m.rc.length * 4294967296 ≤ 8 * 4294967296 := Nat.mul_le_mul_right _ hb
      have hjl := linesT_len ls
      refine ⟨ls, crlfB, true, rfl, rfl, by simp only [big]; omega, by omega, fun r hr => ?_⟩
      have hr2 : nums r.data.toList ++ [13, 10] = linesT ls := by rw [hr]; exact join_lines ls hne
      have hrs2 : r.size ≤ 140737488355328 := by
        have : r.size = (joinT ls crlfB).length := by rw [← hr, Array.length_toList]; rfl
        omega
      have q5 : crlfB.size = 2 := rfl
      have o5 : r.size + crlfB.size ≤ 9223372036854775807 := by rw [q5]; omega
      ((conv => whnf); repeat ((first | refine Br.t ?_ | refine Br.f ?_ | refine ob ?_ | refine ⟨_, rfl, ?_⟩ | refine ⟨_, _, rfl, ?_⟩ | refine ⟨_, _, _, rfl, ?_⟩ | refine ⟨_, _, _, _, rfl, ?_⟩ | simp only []); (conv => whnf)))
      refine hk _ ?_
      rw [bl_append, mkT, ← hls, ← hr2]
      rfl
    first | (rw [ha0] at h1; exact absurd h1 (by simp)) | skip
  all_goals
    have f1 : decide ((j : Int) < m.rc.length) = true := by simpa using h1
    obtain ⟨r, hr⟩ : ∃ r, m.rc[j]? = some r := ⟨_, List.getElem?_eq_getElem h1⟩
    have rr := nth_of hr RT.dflt
    have hnx : (m.rc.take (j + 1)).flatMap rowT = (m.rc.take j).flatMap rowT ++ rowT r := flat_next hr
    have hsz2 : (linesT ls).length + 4294967296 ≤ 8589934592 + (j + 1) * 4294967296 := by
      rw [Nat.succ_mul]
      generalize j * 4294967296 = q at hsz
      omega
    cases g1 : (r.2.1 == 3) with
    | false =>
      have hrow : rowT r = [] := by
        have : fld r = false := g1
        rw [rowT, this, cond_false]
      ((conv => whnf); repeat ((first | refine Br.t ?_ | refine Br.f ?_ | refine ob ?_ | refine ⟨_, rfl, ?_⟩ | refine ⟨_, _, rfl, ?_⟩ | refine ⟨_, _, _, rfl, ?_⟩ | refine ⟨_, _, _, _, rfl, ?_⟩ | simp only [f1, rr, g1, w1]); (conv => whnf)))
      exact hK' _ _ (by omega) ⟨j + 1, ls, _, rfl, by omega, hne, by omega, Nat.le_trans (Nat.le_add_right _ _) hsz2, by rw [hnx, hrow, List.append_nil, hls], rfl⟩
    | true =>
      have hrb := hrs r (List.mem_of_getElem? hr)
      simp only [big] at hrb
      ((conv => whnf); repeat ((first | refine Br.t ?_ | refine Br.f ?_ | refine ob ?_ | refine ⟨_, rfl, ?_⟩ | refine ⟨_, _, rfl, ?_⟩ | refine ⟨_, _, _, rfl, ?_⟩ | refine ⟨_, _, _, _, rfl, ?_⟩ | simp only [f1, rr, g1]); (conv => whnf)))
      refine ⟨[os.length], (.take 0 (.take 1 (.take 2 (.take 5 (.take 6 (.br 3 (.take 4 (.br 7 (.take 8 (.br 9 (.br 10 (.take 11 .done) .nil) .nil)) .nil)) .nil)))))), by kernel_rfl, ?_⟩
      rw [ho]
      ((conv => whnf); repeat ((first | refine Br.t ?_ | refine Br.f ?_ | refine ob ?_ | refine ⟨_, rfl, ?_⟩ | refine ⟨_, _, rfl, ?_⟩ | refine ⟨_, _, _, rfl, ?_⟩ | refine ⟨_, _, _, _, rfl, ?_⟩ | simp only [rr]); (conv => whnf)))
      refine ⟨hrb.1, hrb.2.1, fun v2 hv2 => ?_⟩
      have hv2s : v2.size = r.1.1.size + r.1.2.size + 1 := by
        rw [← bl_len, hv2, List.length_append, List.length_cons, bl_len, bl_len]; omega
      have y1 : ({ data := #[58, 32] } : ByteArray).size = 2 := rfl
      have p1 : v2.size + ({ data := #[58, 32] } : ByteArray).size ≤ 9223372036854775807 := by rw [y1]; omega
      ((conv => whnf); repeat ((first | refine Br.t ?_ | refine Br.f ?_ | refine ob ?_ | refine ⟨_, rfl, ?_⟩ | refine ⟨_, _, rfl, ?_⟩ | refine ⟨_, _, _, rfl, ?_⟩ | refine ⟨_, _, _, _, rfl, ?_⟩ | simp only [rr]); (conv => whnf)))
      have hqb : (r.2.2.2.2 : Int).toNat ≤ 599 := Int.toNat_le.2 hrb.2.2.2
      have hcode : nums (Lib.itoa r.2.2.2.2) = decL (r.2.2.2.2 : Int).toNat := by
        rw [← itoa_decL _ (Nat.lt_of_le_of_lt hqb (by decide)), Int.toNat_of_nonneg hrb.2.2.1]
      refine ⟨⟨Int.le_trans (by decide) hrb.2.2.1, Int.le_trans hrb.2.2.2 (by decide)⟩, fun d hd => ?_⟩
      rw [hcode] at hd
      have hds : d.size ≤ 600 := by
        have := decL_len (r.2.2.2.2 : Int).toNat
        rw [← hd, bl_len] at this
        exact Nat.le_trans this (Nat.succ_le_succ hqb)
      have p2 : (v2 ++ ({ data := #[58, 32] } : ByteArray)).size + d.size ≤ 9223372036854775807 := by rw [ByteArray.size_append, y1]; omega
      ((conv => whnf); repeat ((first | refine Br.t ?_ | refine Br.f ?_ | refine ob ?_ | refine ⟨_, rfl, ?_⟩ | refine ⟨_, _, rfl, ?_⟩ | refine ⟨_, _, _, rfl, ?_⟩ | refine ⟨_, _, _, _, rfl, ?_⟩ | simp only [rr]); (conv => whnf)))
      ((conv => whnf); repeat ((first | refine Br.t ?_ | refine Br.f ?_ | refine ob ?_ | refine ⟨_, rfl, ?_⟩ | refine ⟨_, _, rfl, ?_⟩ | refine ⟨_, _, _, rfl, ?_⟩ | refine ⟨_, _, _, _, rfl, ?_⟩ | simp only [w1]); (conv => whnf)))
      have hrow : rowT r = (bl r.1.1 ++ 64 :: bl r.1.2) ++ [58, 32] ++ decL r.2.2.2.2.toNat ++ [13, 10] := by
        have : fld r = true := g1
        rw [rowT, this, cond_true]
      have hlb : bl (v2 ++ ({ data := #[58, 32] } : ByteArray) ++ d) = (bl r.1.1 ++ 64 :: bl r.1.2) ++ [58, 32] ++ decL (r.2.2.2.2 : Int).toNat := by
        rw [bl_append, bl_append, hv2, hd]; rfl
      have hls2 : linesT (ls ++ [v2 ++ ({ data := #[58, 32] } : ByteArray) ++ d]) = hdT (bl h) (bl m.fl) (bl m.fd) ++ (m.rc.take (j + 1)).flatMap rowT := by
        rw [linesT_snoc, hlb, hls, hnx, hrow]
        simp only [List.append_assoc]
      have hls3 : (linesT (ls ++ [v2 ++ ({ data := #[58, 32] } : ByteArray) ++ d])).length ≤ 8589934592 + (j + 1) * 4294967296 := by
        rw [linesT_snoc, List.length_append, List.length_append, bl_len, ByteArray.size_append, ByteArray.size_append, y1]
        have y3 : ([13, 10] : List Int).length = 2 := rfl
        rw [y3]
        refine Nat.le_trans ?_ hsz2
        omega
      exact hK' _ _ (by omega) ⟨j + 1, _, _, rfl, by omega, by simp, by rw [List.length_append, List.length_singleton]; omega, hls3, hls2, rfl⟩
end Go.Proofs.YtbhejifllgnliaaGreatDoor.Ab
namespace Go.Proofs.YtbhejifllgnliaaGreatDoor.Ab
open Go Go.RowKit Go.Proofs.YtbhejifllgnliaaGreatDoorW.PrintWords
set_option linter.unusedSimpArgs false
set_option linter.unusedVariables false
set_option maxRecDepth 100000
def Γ41 : Sems := ext 67 s67 Γ0
theorem Γ41.ok : SemsOK Gr Go.Proofs.Tryz.prog Γ41 := Γ0.ok.ext Go.Proofs.Tryz.func67 rfl (by decide) ok67
def s41 : Sense := ⟨false, fun os xs K => ∃ (m : Md) (c : C) (h : ByteArray) (n : Int), xs = [.agg (m.cs c), .one (.str h), .one (.int .i64 n)] ∧ RcIn 0 m.rc c os ∧ TellOK m h ∧
  ∀ t, bl t = mkT m (bl h) → ∀ mv, K (os ++ [.own 45 RT (made m n t).rc true mv]) (.ret (.agg ((made m n t).cs (.own os.length))))⟩
set_option maxHeartbeats 16000000 in
theorem ok41 : SenseOK Gr Go.Proofs.Tryz.prog 41 s41 := SenseOK.any Γ41.ok (fun _ => []) Go.Proofs.Tryz.func41 fun os xs K h => by
  obtain ⟨m, c, h, n, rfl, ha, ht, hk⟩ := h
  rcases ha with ⟨hc, ho⟩ | ⟨hc, ho, ha0⟩ | ⟨ap, hc, ho⟩
  case inr.inr =>
    rw [hc, ho]
    rw [ho] at hk
    ((conv => whnf); repeat ((first | refine Br.t ?_ | refine Br.f ?_ | refine ob ?_ | refine ⟨_, rfl, ?_⟩ | refine ⟨_, _, rfl, ?_⟩ | refine ⟨_, _, _, rfl, ?_⟩ | refine ⟨_, _, _, _, rfl, ?_⟩ | simp only []); (conv => whnf)))
    refine ⟨[0, 2], (.take 0 (.take 1 (.take 2 (.take 3 (.take 4 (.take 6 (.take 7 (.take 8 (.br 5 (.br 9 (.take 10 (.br 11 .done .nil)) .nil) (.br 9 (.br 5 (.take 10 (.br 11 .done .nil)) .nil) .nil)))))))))), by kernel_rfl, ?_⟩
    ((conv => whnf); repeat ((first | refine Br.t ?_ | refine Br.f ?_ | refine ob ?_ | refine ⟨_, rfl, ?_⟩ | refine ⟨_, _, rfl, ?_⟩ | refine ⟨_, _, _, rfl, ?_⟩ | refine ⟨_, _, _, _, rfl, ?_⟩ | simp only []); (conv => whnf)))
    refine Both.mk ?_ ?_
    all_goals
      ((conv => whnf); repeat ((first | refine Br.t ?_ | refine Br.f ?_ | refine ob ?_ | refine ⟨_, rfl, ?_⟩ | refine ⟨_, _, rfl, ?_⟩ | refine ⟨_, _, _, rfl, ?_⟩ | refine ⟨_, _, _, _, rfl, ?_⟩ | simp only []); (conv => whnf)))
      refine ⟨by first | exact .inl ⟨rfl, rfl⟩ | exact .inr (.inl ⟨rfl, rfl, ha0⟩) | exact .inr (.inr ⟨ap, rfl, rfl⟩), ht, fun t htx => ?_⟩
      ((conv => whnf); repeat ((first | refine Br.t ?_ | refine Br.f ?_ | refine ob ?_ | refine ⟨_, rfl, ?_⟩ | refine ⟨_, _, rfl, ?_⟩ | refine ⟨_, _, _, rfl, ?_⟩ | refine ⟨_, _, _, _, rfl, ?_⟩ | simp only []); (conv => whnf)))
      exact hk t htx _
  all_goals
    rw [hc, ho]
    rw [ho] at hk
    ((conv => whnf); repeat ((first | refine Br.t ?_ | refine Br.f ?_ | refine ob ?_ | refine ⟨_, rfl, ?_⟩ | refine ⟨_, _, rfl, ?_⟩ | refine ⟨_, _, _, rfl, ?_⟩ | refine ⟨_, _, _, _, rfl, ?_⟩ | simp only []); (conv => whnf)))
    refine ⟨[1], (.take 0 (.take 1 (.take 2 (.take 3 (.take 4 (.take 6 (.take 7 (.take 8 (.br 5 (.br 9 (.take 10 (.br 11 .done .nil)) .nil) (.br 9 (.br 5 (.take 10 (.br 11 .done .nil)) .nil) .nil)))))))))), by kernel_rfl, ?_⟩
    ((conv => whnf); repeat ((first | refine Br.t ?_ | refine Br.f ?_ | refine ob ?_ | refine ⟨_, rfl, ?_⟩ | refine ⟨_, _, rfl, ?_⟩ | refine ⟨_, _, _, rfl, ?_⟩ | refine ⟨_, _, _, _, rfl, ?_⟩ | simp only []); (conv => whnf)))
    refine Both.mk ?_ ?_
    all_goals
      ((conv => whnf); repeat ((first | refine Br.t ?_ | refine Br.f ?_ | refine ob ?_ | refine ⟨_, rfl, ?_⟩ | refine ⟨_, _, rfl, ?_⟩ | refine ⟨_, _, _, rfl, ?_⟩ | refine ⟨_, _, _, _, rfl, ?_⟩ | simp only []); (conv => whnf)))
      refine ⟨by first | exact .inl ⟨rfl, rfl⟩ | exact .inr (.inl ⟨rfl, rfl, ha0⟩) | exact .inr (.inr ⟨ap, rfl, rfl⟩), ht, fun t htx => ?_⟩
      ((conv => whnf); repeat ((first | refine Br.t ?_ | refine Br.f ?_ | refine ob ?_ | refine ⟨_, rfl, ?_⟩ | refine ⟨_, _, rfl, ?_⟩ | refine ⟨_, _, _, rfl, ?_⟩ | refine ⟨_, _, _, _, rfl, ?_⟩ | simp only []); (conv => whnf)))
      exact hk t htx _
end Go.Proofs.YtbhejifllgnliaaGreatDoor.Ab
namespace Go.Proofs.YtbhejifllgnliaaGreatDoor.Ab
open Go Go.RowKit Go.Proofs.YtbhejifllgnliaaGreatDoorW.PrintWords
set_option linter.unusedSimpArgs false
set_option linter.unusedVariables false
set_option maxRecDepth 100000
theorem dom_pre {l : List Int} (h : domL l = true) : pre [91] l = litL l := by
  simp only [domL, Bool.and_eq_true, Bool.or_eq_true] at h
  cases l with
  | nil => simp [pre, litL]
  | cons x l =>
    have hp : pre [91] (x :: l) = decide (x = 91) := by simp [pre]
    rw [hp]
    by_cases hx : x = 91
    · subst hx
      rcases h.2 with h2 | h2
      · rw [h2]; rfl
      · rcases spl_mem 46 (91 :: l) [] 91 (by simp) with h3 | ⟨w, hw, hm⟩
        · cases h3
        · have := List.all_eq_true.1 h2 w hw
          simp only [labL, Bool.and_eq_true] at this
          have := List.all_eq_true.1 this.1.1.2 91 hm
          exact absurd this (by decide)
    · have : litL (x :: l) = false := by
        simp only [litL, List.head?_cons]
        have : (some x == some (91 : Int)) = false := by simpa using hx
        rw [this]; simp
      rw [this]; simpa using hx
theorem rcsP_all : ∀ {l p : List Rc}, rcsP p l = true → ∀ r ∈ l, rcP r = true
  | [], _, _, r, hr => by cases hr
  | q :: l, p, h, r, hr => by
    simp only [rcsP, Bool.and_eq_true] at h
    rcases List.mem_cons.1 hr with rfl | hr
    · exact h.1.1
    · exact rcsP_all h.2 r hr
theorem tell_ok {m : Md} {h : ByteArray} (hm : mailP m.ml = true) (hw : wtSmall m) (hh : h.size ≤ big) : TellOK m h := by
  simp only [mailP, Bool.and_eq_true] at hm
  refine ⟨?_, hw.2.2.1, hw.2.2.2.1, hh, fun r hr => ⟨(hw.2.2.2.2 r hr).1, (hw.2.2.2.2 r hr).2, ?_⟩⟩
  · have h1 : m.ml.rc.length = m.rc.length := List.length_map _
    have := hm.1.1.1.1.2
    simp only [h1] at this
    simp at this
    omega
  · have := rcsP_all hm.1.2 (rcOf r) (List.mem_map.2 ⟨r, hr, rfl⟩)
    simp only [rcP, Bool.and_eq_true, decide_eq_true_eq] at this
    exact this.2
/-- Whether there is a telling at all. -/
def mayMake (m : Md) (h : ByteArray) (n : Int) : Bool := mailP m.ml && (domL (bl h) && !litL (bl h)) && (decide (0 ≤ n) && decide (n ≤ 1099511627776))
def Γ11 : Sems := ext 41 s41 (ext 40 u40 (ext 39 s39 (ext 38 s38 (ext 37 s37 Γ0))))
theorem Γ11.ok : SemsOK Gr Go.Proofs.Tryz.prog Γ11 := ((((Γ0.ok.ext Go.Proofs.Tryz.func37 rfl (by decide) ok37).ext Go.Proofs.Tryz.func38 rfl (by decide) ok38).ext Go.Proofs.Tryz.func39 rfl (by decide) ok39).ext Go.Proofs.Tryz.func40 rfl (by decide) uk40).ext Go.Proofs.Tryz.func41 rfl (by decide) ok41
def s11 : Sense := ⟨false, fun os xs K => ∃ (m : Md) (c : C) (h : ByteArray) (n : Int), xs = [.agg (m.cs c), .one (.str h), .one (.int .i64 n)] ∧ RcIn 0 m.rc c os ∧ m.sml ∧ wtSmall m ∧ h.size ≤ mid ∧
  (mayMake m h n = false → K os (.ret (.tup [.agg (md0.cs .nil), .one (.int .i64 1)]))) ∧
  (mayMake m h n = true → (m.nul || !m.rc.any fld) = true → K os (.ret (.tup [.agg (md0.cs .nil), .one (.int .i64 3)]))) ∧
  (mayMake m h n = true → (m.nul || !m.rc.any fld) = false → ∀ t, bl t = mkT m (bl h) → ∀ mv, K (os ++ [.own 45 RT (made m n t).rc true mv]) (.ret (.tup [.agg ((made m n t).cs (.own os.length)), .one (.int .i64 0)])))⟩
set_option maxHeartbeats 32000000 in
theorem ok11 : SenseOK Gr Go.Proofs.Tryz.prog 11 s11 := SenseOK.any Γ11.ok (fun _ => []) Go.Proofs.Tryz.func11 fun os xs K h => by
  obtain ⟨m, c, h, n, rfl, ha, hs, hw, hh, hk0, hk1, hk2⟩ := h
  have hf : m.rc.any (isO 3) = m.rc.any fld := rfl
  have ha' := ha
  rcases ha with ⟨hc, ho⟩ | ⟨hc, ho, ha0⟩ | ⟨ap, hc, ho⟩
  all_goals
    rw [hc, ho]
    rw [ho] at hk0 hk1 hk2
    ((conv => whnf); repeat ((first | refine Br.t ?_ | refine Br.f ?_ | refine ob ?_ | refine ⟨_, rfl, ?_⟩ | refine ⟨_, _, rfl, ?_⟩ | refine ⟨_, _, _, rfl, ?_⟩ | refine ⟨_, _, _, _, rfl, ?_⟩ | simp only []); (conv => whnf)))
    refine ⟨by first | exact .inl ⟨rfl, rfl⟩ | exact .inr (.inl ⟨rfl, rfl, ha0⟩) | exact .inr (.inr ⟨ap, rfl, rfl⟩), hs, ?_⟩
    cases e1 : mailP m.ml with
    | false =>
      have hb : mayMake m h n = false := by rw [mayMake, e1]; rfl
      ((conv => whnf); repeat ((first | refine Br.t ?_ | refine Br.f ?_ | refine ob ?_ | refine ⟨_, rfl, ?_⟩ | refine ⟨_, _, rfl, ?_⟩ | refine ⟨_, _, _, rfl, ?_⟩ | refine ⟨_, _, _, _, rfl, ?_⟩ | simp only [e1]); (conv => whnf)))
      exact hk0 hb
    | true =>
    ((conv => whnf); repeat ((first | refine Br.t ?_ | refine Br.f ?_ | refine ob ?_ | refine ⟨_, rfl, ?_⟩ | refine ⟨_, _, rfl, ?_⟩ | refine ⟨_, _, _, rfl, ?_⟩ | refine ⟨_, _, _, _, rfl, ?_⟩ | simp only [e1]); (conv => whnf)))
    cases e2 : domL (bl h) with
    | false =>
      have hb : mayMake m h n = false := by rw [mayMake, e1, e2]; rfl
      ((conv => whnf); repeat ((first | refine Br.t ?_ | refine Br.f ?_ | refine ob ?_ | refine ⟨_, rfl, ?_⟩ | refine ⟨_, _, rfl, ?_⟩ | refine ⟨_, _, _, rfl, ?_⟩ | refine ⟨_, _, _, _, rfl, ?_⟩ | simp only [e1, e2]); (conv => whnf)))
      exact hk0 hb
    | true =>
    have hpl := dom_pre e2
    ((conv => whnf); repeat ((first | refine Br.t ?_ | refine Br.f ?_ | refine ob ?_ | refine ⟨_, rfl, ?_⟩ | refine ⟨_, _, rfl, ?_⟩ | refine ⟨_, _, _, rfl, ?_⟩ | refine ⟨_, _, _, _, rfl, ?_⟩ | simp only [e1, e2]); (conv => whnf)))
    cases e3 : pre [91] (bl h) with
    | true =>
      have hb : mayMake m h n = false := by rw [mayMake, e1, e2, ← hpl, e3]; rfl
      ((conv => whnf); repeat ((first | refine Br.t ?_ | refine Br.f ?_ | refine ob ?_ | refine ⟨_, rfl, ?_⟩ | refine ⟨_, _, rfl, ?_⟩ | refine ⟨_, _, _, rfl, ?_⟩ | refine ⟨_, _, _, _, rfl, ?_⟩ | simp only [e1, e2, e3]); (conv => whnf)))
      exact hk0 hb
    | false =>
    by_cases g4 : n < 0
    · have e4 : decide (n < 0) = true := decide_eq_true g4
      have hb : mayMake m h n = false := by
        have : decide (0 ≤ n) = false := by simpa using g4
        rw [mayMake, this]; simp
      ((conv => whnf); repeat ((first | refine Br.t ?_ | refine Br.f ?_ | refine ob ?_ | refine ⟨_, rfl, ?_⟩ | refine ⟨_, _, rfl, ?_⟩ | refine ⟨_, _, _, rfl, ?_⟩ | refine ⟨_, _, _, _, rfl, ?_⟩ | simp only [e1, e2, e3, e4]); (conv => whnf)))
      exact hk0 hb
    have e4 : decide (n < 0) = false := decide_eq_false g4
    by_cases g5 : n > 1099511627776
    · have e5 : decide (n > 1099511627776) = true := decide_eq_true g5
      have hb : mayMake m h n = false := by
        have : decide (n ≤ 1099511627776) = false := by simpa using g5
        rw [mayMake, this]; simp
      ((conv => whnf); repeat ((first | refine Br.t ?_ | refine Br.f ?_ | refine ob ?_ | refine ⟨_, rfl, ?_⟩ | refine ⟨_, _, rfl, ?_⟩ | refine ⟨_, _, _, rfl, ?_⟩ | refine ⟨_, _, _, _, rfl, ?_⟩ | simp only [e1, e2, e3, e4, e5]); (conv => whnf)))
      exact hk0 hb
    have e5 : decide (n > 1099511627776) = false := decide_eq_false g5
    have hb : mayMake m h n = true := by
      have h1 : decide (0 ≤ n) = true := by simp; omega
      have h2 : decide (n ≤ 1099511627776) = true := by simp; omega
      rw [mayMake, e1, e2, ← hpl, e3, h1, h2]; rfl
    ((conv => whnf); repeat ((first | refine Br.t ?_ | refine Br.f ?_ | refine ob ?_ | refine ⟨_, rfl, ?_⟩ | refine ⟨_, _, rfl, ?_⟩ | refine ⟨_, _, _, rfl, ?_⟩ | refine ⟨_, _, _, _, rfl, ?_⟩ | simp only [e1, e2, e3, e4, e5]); (conv => whnf)))
    cases e6 : m.nul with
    | true =>
      ((conv => whnf); repeat ((first | refine Br.t ?_ | refine Br.f ?_ | refine ob ?_ | refine ⟨_, rfl, ?_⟩ | refine ⟨_, _, rfl, ?_⟩ | refine ⟨_, _, _, rfl, ?_⟩ | refine ⟨_, _, _, _, rfl, ?_⟩ | simp only [e6]); (conv => whnf)))
      exact hk1 hb (by rw [e6]; rfl)
    | false =>
    ((conv => whnf); repeat ((first | refine Br.t ?_ | refine Br.f ?_ | refine ob ?_ | refine ⟨_, rfl, ?_⟩ | refine ⟨_, _, rfl, ?_⟩ | refine ⟨_, _, _, rfl, ?_⟩ | refine ⟨_, _, _, _, rfl, ?_⟩ | simp only [e6]); (conv => whnf)))
    refine ⟨3, { m with nul := false }, c, os, by rw [hc, ho]; rfl, ha', hw.1, ⟨true, by rw [ho]; rfl⟩, ?_⟩
    cases e7 : m.rc.any fld with
    | false =>
      have e7' : ({ m with nul := false } : Md).rc.any (isO 3) = false := e7
      ((conv => whnf); repeat ((first | refine Br.t ?_ | refine Br.f ?_ | refine ob ?_ | refine ⟨_, rfl, ?_⟩ | refine ⟨_, _, rfl, ?_⟩ | refine ⟨_, _, _, rfl, ?_⟩ | refine ⟨_, _, _, _, rfl, ?_⟩ | simp only [e6, e7']); (conv => whnf)))
      exact hk1 hb (by rw [e6, e7]; rfl)
    | true =>
    have e7' : ({ m with nul := false } : Md).rc.any (isO 3) = true := e7
    have hmm : mailP m.ml = true := e1
    have hT : TellOK m h := tell_ok hmm hw (by simp only [mid, big] at hh ⊢; omega)
    have hT2 : TellOK { m with nul := false } h := ⟨hT.rc, hT.fl, hT.fd, hT.h, hT.rs⟩
    ((conv => whnf); repeat ((first | refine Br.t ?_ | refine Br.f ?_ | refine ob ?_ | refine ⟨_, rfl, ?_⟩ | refine ⟨_, _, rfl, ?_⟩ | refine ⟨_, _, _, rfl, ?_⟩ | refine ⟨_, _, _, _, rfl, ?_⟩ | simp only [e6, e7']); (conv => whnf)))
    refine ⟨{ m with nul := false }, _, h, n, rfl, by first | exact .inl ⟨rfl, rfl⟩ | exact .inr (.inl ⟨rfl, rfl, ha0⟩) | exact .inr (.inr ⟨ap, rfl, rfl⟩), hT2, fun t ht mv => ?_⟩
    ((conv => whnf); repeat ((first | refine Br.t ?_ | refine Br.f ?_ | refine ob ?_ | refine ⟨_, rfl, ?_⟩ | refine ⟨_, _, rfl, ?_⟩ | refine ⟨_, _, _, rfl, ?_⟩ | refine ⟨_, _, _, _, rfl, ?_⟩ | simp only []); (conv => whnf)))
    exact hk2 hb (by rw [e6, e7]; rfl) t ht _
end Go.Proofs.YtbhejifllgnliaaGreatDoor.Ab
namespace Go.Proofs.YtbhejifllgnliaaGreatDoor.Ab
open Go Go.RowKit Go.Proofs.YtbhejifllgnliaaGreatDoorW.PrintWords
set_option linter.unusedSimpArgs false
set_option linter.unusedVariables false
set_option maxRecDepth 100000
variable {G : World → Prop}
def Γ9 : Sems := ext 35 s35 Γ0
theorem Γ9.ok : SemsOK G Go.Proofs.Tryz.prog Γ9 := Γ0.ok.ext Go.Proofs.Tryz.func35 rfl (by decide) ok35
/-- An ask's cells: a message, a host, a tick. -/
def askCs (m : Md) (c : C) (h : ByteArray) (n : Int) : List C := [.int .i64 m.id, .int .i64 m.te, .bool m.nul, .str m.fl, .str m.fd, c, .str m.body, .int .i64 m.born, .bool m.held, .bool m.told, .str h, .int .i64 n]
def s9 : Sense := ⟨false, fun os xs K => ∃ (m : Md) (c : C) (h : ByteArray) (n : Int), xs = [.agg (askCs m c h n)] ∧ RcIn 0 m.rc c os ∧ wtSmall m ∧ K os (.ret (.one (.bool (decide (wtM m > 6000) || decide ((h.size : Int) > 1000)))))⟩
set_option maxHeartbeats 8000000 in
theorem ok9 : SenseOK G Go.Proofs.Tryz.prog 9 s9 := SenseOK.any Γ9.ok (fun _ => []) Go.Proofs.Tryz.func9 fun os xs K h => by
  obtain ⟨m, c, h, n, rfl, ha, ⟨h1, h2, h3, h4, h5⟩, hk⟩ := h
  rcases ha with ⟨hc, ho⟩ | ⟨hc, ho, ha0⟩ | ⟨ap, hc, ho⟩
  all_goals
    rw [hc, ho]
    rw [ho] at hk
    ((conv => whnf); repeat ((first | refine Br.t ?_ | refine Br.f ?_ | refine ob ?_ | refine ⟨_, rfl, ?_⟩ | refine ⟨_, _, rfl, ?_⟩ | refine ⟨_, _, _, rfl, ?_⟩ | refine ⟨_, _, _, _, rfl, ?_⟩ | simp only []); (conv => whnf)))
    refine ⟨by first | exact .inl ⟨rfl, rfl⟩ | exact .inr (.inl ⟨rfl, rfl, ha0⟩) | exact .inr (.inr ⟨ap, rfl, rfl⟩), h1, h2, h3, h4, h5, ?_⟩
    cases e1 : decide (wtM m > 6000) with
    | true =>
      rw [e1] at hk
      ((conv => whnf); repeat ((first | refine Br.t ?_ | refine Br.f ?_ | refine ob ?_ | refine ⟨_, rfl, ?_⟩ | refine ⟨_, _, rfl, ?_⟩ | refine ⟨_, _, _, rfl, ?_⟩ | refine ⟨_, _, _, _, rfl, ?_⟩ | simp only [e1]); (conv => whnf)))
      exact hk
    | false =>
      rw [e1] at hk
      ((conv => whnf); repeat ((first | refine Br.t ?_ | refine Br.f ?_ | refine ob ?_ | refine ⟨_, rfl, ?_⟩ | refine ⟨_, _, rfl, ?_⟩ | refine ⟨_, _, _, rfl, ?_⟩ | refine ⟨_, _, _, _, rfl, ?_⟩ | simp only [e1]); (conv => whnf)))
      exact hk
end Go.Proofs.YtbhejifllgnliaaGreatDoor.Ab
namespace Go.Proofs.YtbhejifllgnliaaGreatDoor.Ab
open Go Go.RowKit Go.Proofs.YtbhejifllgnliaaGreatDoorW.PrintWords
set_option linter.unusedSimpArgs false
set_option linter.unusedVariables false
set_option maxRecDepth 100000
def Γ17 : Sems := ext 14 sNum (ext 11 s11 (ext 19 s19 Γ0))
theorem Γ17.ok : SemsOK Gr Go.Proofs.Tryz.prog Γ17 := ((Γ0.ok.ext Go.Proofs.Tryz.func19 rfl (by decide) ok19).ext Go.Proofs.Tryz.func11 rfl (by decide) ok11).ext Go.Proofs.Tryz.func14 rfl (by decide) ok14
/-- A message one of whose recipients failed. -/
def mF : Md := { mM with rc := [((bA, bX), (3, (0, (0, 0))))] }
theorem mF_P : mayMake mF ⟨#[104]⟩ 5 = true := by decide +kernel
theorem mF_any : (mF.nul || !mF.rc.any fld) = false := by decide
set_option maxHeartbeats 16000000 in
theorem ok17 : SenseOK Gr Go.Proofs.Tryz.prog 17 sTrue := SenseOK.any Γ17.ok (fun _ => []) Go.Proofs.Tryz.func17 fun os xs K h => by
  obtain ⟨rfl, rfl, hk⟩ := h
  ((conv => whnf); repeat ((first | refine Br.t ?_ | refine Br.f ?_ | refine ob ?_ | refine ⟨_, rfl, ?_⟩ | refine ⟨_, _, rfl, ?_⟩ | refine ⟨_, _, _, rfl, ?_⟩ | refine ⟨_, _, _, _, rfl, ?_⟩); (conv => whnf)))
  intro mv
  ((conv => whnf); repeat ((first | refine Br.t ?_ | refine Br.f ?_ | refine ob ?_ | refine ⟨_, rfl, ?_⟩ | refine ⟨_, _, rfl, ?_⟩ | refine ⟨_, _, _, rfl, ?_⟩ | refine ⟨_, _, _, _, rfl, ?_⟩); (conv => whnf)))
  refine ⟨⟨by decide, by decide⟩, ?_⟩
  ((conv => whnf); repeat ((first | refine Br.t ?_ | refine Br.f ?_ | refine ob ?_); (conv => whnf)))
  refine ⟨mF, .own 0, ⟨#[104]⟩, 5, rfl, .inr (.inr ⟨true, rfl, rfl⟩), ?_, ?_, by decide, fun h0 => absurd (h0.symm.trans mF_P) (by simp), fun _ h0 => absurd (h0.symm.trans mF_any) (by simp), fun _ _ t ht mv2 => ?_⟩
  · exact ⟨by decide, fun r hr => by simp [mF] at hr; subst hr; simp [small, bA, bX, mid, ByteArray.size], by decide⟩
  · exact ⟨by decide, by decide, by decide, by decide, fun r hr => by simp [mF] at hr; subst hr; simp [bA, bX, big, ByteArray.size]⟩
  ((conv => whnf); repeat ((first | refine Br.t ?_ | refine Br.f ?_ | refine ob ?_ | refine ⟨_, rfl, ?_⟩ | refine ⟨_, _, rfl, ?_⟩ | refine ⟨_, _, _, rfl, ?_⟩ | refine ⟨_, _, _, _, rfl, ?_⟩); (conv => whnf)))
  refine ⟨[], (.take 0 (.br 1 (.take 2 (.take 3 (.take 4 (.take 5 (.take 6 (.take 7 (.take 8 (.take 9 (.take 10 (.take 11 (.take 12 (.take 13 (.take 14 (.take 15 (.take 16 (.take 17 (.take 18 (.take 19 (.take 20 (.take 21 (.take 22 (.take 23 (.take 24 (.take 25 (.take 26 (.take 27 (.take 28 .done))))))))))))))))))))))))))) .nil)), by kernel_rfl, ?_⟩
  ((conv => whnf); repeat ((first | refine Br.t ?_ | refine Br.f ?_ | refine ob ?_ | refine ⟨_, rfl, ?_⟩ | refine ⟨_, _, rfl, ?_⟩ | refine ⟨_, _, _, rfl, ?_⟩ | refine ⟨_, _, _, _, rfl, ?_⟩); (conv => whnf)))
  refine ⟨⟨by decide, by simp [made]⟩, ?_⟩
  have hq : (ByteArray.toList (rdx (made mF 5 t).rc (Int.toNat 0) RT.dflt).fst.fst == mM.fl.toList && (ByteArray.toList (rdx (made mF 5 t).rc (Int.toNat 0) RT.dflt).fst.snd == mM.fd.toList && true)) = true := by
    show (bA.toList == bA.toList && (bX.toList == bX.toList && true)) = true
    simp
  have he1 : (made mF 5 t).nul = true := rfl
  have he2 : (((made mF 5 t).rc.length : Int) == 1) = true := rfl
  have he3 : ((0 : Int) == 0) = true := rfl
  ((conv => whnf); repeat ((first | refine Br.t ?_ | refine Br.f ?_ | refine ob ?_ | refine ⟨_, rfl, ?_⟩ | refine ⟨_, _, rfl, ?_⟩ | refine ⟨_, _, _, rfl, ?_⟩ | refine ⟨_, _, _, _, rfl, ?_⟩ | simp only [hq, he1, he2, he3]); (conv => whnf)))
  exact hk
end Go.Proofs.YtbhejifllgnliaaGreatDoor.Ab
namespace Go.Proofs.YtbhejifllgnliaaGreatDoor.Ab
open Go Go.RowKit Go.Proofs.YtbhejifllgnliaaGreatDoorW.PrintWords
set_option linter.unusedSimpArgs false
set_option linter.unusedVariables false
set_option maxRecDepth 100000
abbrev AskT : Ty := .pair MT (.pair .str (.int .i64))
def askOf (m : Md) (h : ByteArray) (n : Int) : AskT.den := (mtOf m, (h, n))
theorem ask_of (x : AskT.den) : x = askOf (mdOf x.1) x.2.1 x.2.2 := rfl
def askSmall (x : AskT.den) : Prop := wtSmall (mdOf x.1) ∧ x.2.1.size ≤ big
def Γ3 : Sems := ext 17 sTrue (ext 16 s16 (ext 15 s15 (ext 14 sNum (ext 13 s13 (ext 12 s12 (ext 11 s11 (ext 10 s10 (ext 9 s9 Γ0))))))))
theorem Γ3.ok : SemsOK Gr Go.Proofs.Tryz.prog Γ3 := ((((((((Γ0.ok.ext Go.Proofs.Tryz.func9 rfl (by decide) ok9).ext Go.Proofs.Tryz.func10 rfl (by decide) ok10).ext Go.Proofs.Tryz.func11 rfl (by decide) ok11).ext Go.Proofs.Tryz.func12 rfl (by decide) ok12).ext Go.Proofs.Tryz.func13 rfl (by decide) ok13).ext Go.Proofs.Tryz.func14 rfl (by decide) ok14).ext Go.Proofs.Tryz.func15 rfl (by decide) ok15).ext Go.Proofs.Tryz.func16 rfl (by decide) ok16).ext Go.Proofs.Tryz.func17 rfl (by decide) ok17
end Go.Proofs.YtbhejifllgnliaaGreatDoor.Ab
namespace Go.Proofs.YtbhejifllgnliaaGreatDoor.Ab
open Go Go.RowKit Go.Proofs.YtbhejifllgnliaaGreatDoorW.PrintWords
set_option linter.unusedSimpArgs false
set_option linter.unusedVariables false
set_option maxRecDepth 100000
theorem opb29 : OpnB Tryz.prog bulkB 29 AskT askSmall :=
  (OpnB.struct (by kernel_rfl) Tryz.underlying29 (OpnBs.cons opb27 rfl (OpnBs.cons opb9 rfl (OpnBs.one opb3 rfl)))).imp fun x h => ⟨h.1, Nat.le_trans h.2.1 (by decide)⟩
theorem opb22 : OpnB Tryz.prog bulkB 22 (.slice 29 AskT) (fun l => l.length ≤ bulkB ∧ ∀ x ∈ l, askSmall x) := OpnB.slice (by kernel_rfl) Tryz.underlying22 opb29
end Go.Proofs.YtbhejifllgnliaaGreatDoor.Ab
namespace Go.Proofs.YtbhejifllgnliaaGreatDoor.Ab
open Go Go.RowKit Go.Proofs.YtbhejifllgnliaaGreatDoorW.PrintWords
set_option linter.unusedSimpArgs false
set_option linter.unusedVariables false
set_option maxRecDepth 100000
def nc (l : List Int) : Prop := ∀ c ∈ l, crlf c = false
theorem nc_app {a b : List Int} (ha : nc a) (hb : nc b) : nc (a ++ b) := fun c hc => by
  rcases List.mem_append.1 hc with h | h
  · exact ha c h
  · exact hb c h
theorem nc_dec {l : List Int} (h : l.all (fun c => !crlf c) = true) : nc l := fun c hc => by
  have := List.all_eq_true.1 h c hc
  simpa using this
theorem crlf_no {c : Int} (h1 : c ≠ 13) (h2 : c ≠ 10) : crlf c = false := by simp [crlf, h1, h2]
theorem nc_dom {l : List Int} (h : domL l = true) : nc l := by
  intro x hx
  simp only [domL, Bool.and_eq_true, Bool.or_eq_true] at h
  have key : x ≠ 13 ∧ x ≠ 10 := by
    rcases h.2 with h | h
    · simp only [litL, Bool.and_eq_true, decide_eq_true_eq, beq_iff_eq] at h
      obtain ⟨⟨⟨h1, h2⟩, h3⟩, h4⟩ := h
      obtain ⟨y, l', rfl⟩ : ∃ y l', l = y :: l' := by cases l with | nil => simp at h1 | cons y l' => exact ⟨y, l', rfl⟩
      simp at h2
      simp only [List.drop_succ_cons, List.drop_zero] at h4
      have hne : l' ≠ [] := by intro e; subst e; simp at h1
      have hl : l' = l'.dropLast ++ [93] := by
        have := List.dropLast_concat_getLast hne
        rw [List.getLast?_cons, List.getLast?_eq_some_getLast hne] at h3
        simp at h3
        rw [h3] at this
        exact this.symm
      rcases List.mem_cons.1 hx with rfl | hx
      · omega
      rw [hl] at hx
      rcases List.mem_append.1 hx with hx | hx
      · rcases spl_mem 46 _ [] x hx with h | ⟨w, hw, hxw⟩
        · omega
        · simp only [quadL, Bool.and_eq_true] at h4
          have := List.all_eq_true.1 h4.1 w hw
          simp only [byteL, val] at this
          split at this
          · rename_i n hn
            split at hn
            · have := List.all_eq_true.1 (digs_all _ _ _ hn) x hxw
              simp [isDigit] at this; omega
            · cases hn
          · cases this
      · simp at hx; omega
    · rcases spl_mem 46 _ [] x hx with h' | ⟨w, hw, hxw⟩
      · omega
      · have := List.all_eq_true.1 h w hw
        simp only [labL, Bool.and_eq_true] at this
        have := List.all_eq_true.1 this.1.1.2 x hxw
        simp [isSign] at this
        omega
  exact crlf_no key.1 key.2
theorem nc_atom {c : Int} (h : isAtom c = true) : crlf c = false := by
  refine crlf_no (fun e => ?_) (fun e => ?_) <;> · subst e; revert h; decide
theorem nc_plain {l : List Int} (h : plainL l 0 = true) : nc l := fun x hx => by
  rcases plainL_mem _ _ h x hx with rfl | h
  · decide
  · exact nc_atom h
theorem nc_local {l : List Int} (h : localR l = true) : nc l := by
  simp only [localR, Bool.and_eq_true] at h
  split at h
  · rename_i hq
    have h2 := h.2
    split at h2
    · rename_i a n hin
      simp only [Bool.and_eq_true, decide_eq_true_eq] at h2
      obtain ⟨u, q, he, hk, m', hm, hok, hback, _⟩ := inn_spec _ _ _ _ _ _ (Nat.le_refl _) hin
      rw [List.nil_append] at hm
      subst hm
      rw [← h2.2]
      intro c hc
      rcases List.mem_append.1 hc with hc | hc
      · rcases List.mem_cons.1 hc with rfl | hc
        · decide
        · obtain ⟨d, hd, hcd⟩ := List.mem_flatMap.1 hc
          have hd2 := List.all_eq_true.1 hok d hd
          unfold esc1 at hcd
          split at hcd
          · rcases List.mem_cons.1 hcd with rfl | hcd
            · decide
            · simp at hcd; subst hcd
              simp [okp] at hd2
              exact crlf_no (by omega) (by omega)
          · simp at hcd; subst hcd
            simp [okp] at hd2
            exact crlf_no (by omega) (by omega)
      · simp at hc; subst hc; decide
    · cases h2
  · have h2 := h.2
    rw [← plain_eq] at h2
    exact nc_plain h2
/-- Lines of bytes, each with its end. -/
def linesI (L : List (List Int)) : List Int := L.flatMap fun x => x ++ [13, 10]
theorem rows_line : ∀ (x u X : List Int), nc (u ++ x) → rowsB u (x ++ 13 :: 10 :: X) = (cleanL (u ++ x) && rowsB [] X)
  | [], u, X, h => by
    rw [List.nil_append, rowsB_go (by simp), rowsB_end (by simp) rfl, List.dropLast_concat, List.append_nil]
  | c :: x, u, X, h => by
    have hc : c ≠ 10 := by
      have := h c (by simp)
      intro e; subst e; revert this; decide
    rw [List.cons_append, rowsB_go (by simp [hc]), rows_line x (u ++ [c]) X (by simpa using h)]
    simp
theorem rows_lines : ∀ (L : List (List Int)), (∀ x ∈ L, nc x ∧ x.length ≤ 509) → rowsB [] (linesI L) = true
  | [], _ => by simp [linesI, rowsB]
  | x :: L, h => by
    have hx := h x (by simp)
    have e : linesI (x :: L) = x ++ 13 :: 10 :: linesI L := by simp [linesI]
    have hcl : cleanL ([] ++ x) = true := by
      have : x.any crlf = false := by
        cases hh : x.any crlf with
        | false => rfl
        | true =>
          obtain ⟨c, hc, hcc⟩ := List.any_eq_true.1 hh
          rw [hx.1 c hc] at hcc; cases hcc
      simp [cleanL, this, hx.2]
    rw [e, rows_line x [] _ (by simpa using hx.1), hcl, rows_lines L fun y hy => h y (by simp [hy])]
    rfl
theorem dec600 (k : Nat) (hk : k ≤ 599) : (decL k).length ≤ 3 ∧ nc (decL k) := by
  have : ∀ k : Fin 600, decide ((decL k.1).length ≤ 3) && (decL k.1).all (fun c => !crlf c) = true := by decide +kernel
  have h := this ⟨k, by omega⟩
  simp only [Bool.and_eq_true, decide_eq_true_eq] at h
  exact ⟨h.1, nc_dec h.2⟩
def lineR (r : RT.den) : List Int := (bl r.1.1 ++ 64 :: bl r.1.2) ++ [58, 32] ++ decL r.2.2.2.2.toNat
def linesR (l : List RT.den) : List (List Int) := l.flatMap fun r => bif fld r then [lineR r] else []
theorem rows_linesR : ∀ l : List RT.den, l.flatMap rowT = linesI (linesR l)
  | [] => rfl
  | r :: l => by
    have ih := rows_linesR l
    simp only [linesR, linesI, List.flatMap_cons, List.flatMap_append] at ih ⊢
    rw [ih]
    congr 1
    rw [rowT]
    cases fld r <;> simp [lineR]
theorem mayR_len {a d : List Int} (h : mayR a d = true) : a.length ≤ 64 ∧ d.length ≤ 255 ∧ nc a ∧ nc d := by
  simp only [mayR, Bool.and_eq_true] at h
  refine ⟨?_, ?_, nc_local h.1, nc_dom h.2⟩
  · have := h.1
    simp only [localR, Bool.and_eq_true, decide_eq_true_eq] at this
    exact this.1.2
  · have := h.2
    simp only [domL, Bool.and_eq_true, decide_eq_true_eq] at this
    exact this.1
theorem linesI_len : ∀ (L : List (List Int)), (∀ x ∈ L, x.length ≤ 509) → (linesI L).length ≤ L.length * 511
  | [], _ => by simp [linesI]
  | x :: L, h => by
    have h1 := linesI_len L fun y hy => h y (by simp [hy])
    have h2 := h x (by simp)
    simp only [linesI, List.flatMap_cons, List.length_append, List.length_cons, List.length_nil] at h1 ⊢
    omega
theorem linesR_len : ∀ l : List RT.den, (linesR l).length ≤ l.length
  | [] => by simp [linesR]
  | r :: l => by
    have ih := linesR_len l
    have e : linesR (r :: l) = (bif fld r then [lineR r] else []) ++ linesR l := rfl
    rw [e, List.length_append, List.length_cons]
    cases fld r
    · simp only [cond_false, List.length_nil]; omega
    · simp only [cond_true, List.length_singleton]; omega
abbrev fromL : List Int := [70, 114, 111, 109, 58, 32, 60, 112, 111, 115, 116, 109, 97, 115, 116, 101, 114, 64]
abbrev toL : List Int := [84, 111, 58, 32, 60]
abbrev subjL : List Int := [83, 117, 98, 106, 101, 99, 116, 58, 32, 110, 111, 116, 32, 100, 101, 108, 105, 118, 101, 114, 101, 100]
theorem mkT_lines (m : Md) (h : List Int) : mkT m h = linesI ([fromL ++ h ++ [62], toL ++ (bl m.fl ++ 64 :: bl m.fd) ++ [62], subjL, []] ++ linesR m.rc) := by
  rw [mkT, rows_linesR, hdT]
  simp [linesI]
theorem made_may {m : Md} {h t : ByteArray} {n : Int} (hm : mayMake m h n = true) (hn : (m.nul || !m.rc.any fld) = false) (ht : bl t = mkT m (bl h)) : mailP (made m n t).ml = true := by
  simp only [mayMake, Bool.and_eq_true] at hm
  obtain ⟨⟨hmm, hd, _⟩, hn0, hn1⟩ := hm
  simp only [mailP, Bool.and_eq_true] at hmm
  obtain ⟨⟨⟨⟨⟨⟨⟨⟨hid1, hid2⟩, hte⟩, hr1⟩, hr2⟩, hbo⟩, hfr⟩, hrc⟩, hbd⟩ := hmm
  have hnul : m.nul = false := by
    cases hh : m.nul with
    | false => rfl
    | true => rw [hh] at hn; cases hn
  have hfrm : mayR (bl m.fl) (bl m.fd) = true := by
    have h1 : frmP m.ml = bif m.nul then decide (bl m.fl = []) && decide (bl m.fd = []) else mayR (bl m.fl) (bl m.fd) := rfl
    rw [h1, hnul] at hfr
    exact hfr
  obtain ⟨l1, l2, c1, c2⟩ := mayR_len hfrm
  have c3 := nc_dom hd
  have l3 : (bl h).length ≤ 255 := by
    simp only [domL, Bool.and_eq_true, decide_eq_true_eq] at hd
    exact hd.1
  have l8 : m.rc.length ≤ 8 := by
    have h1 : m.ml.rc.length = m.rc.length := List.length_map _
    simp only [h1] at hr2
    simp at hr2
    omega
  have hall : ∀ x ∈ [fromL ++ bl h ++ [62], toL ++ (bl m.fl ++ 64 :: bl m.fd) ++ [62], subjL, []] ++ linesR m.rc, nc x ∧ x.length ≤ 509 := by
    intro x hx
    rcases List.mem_append.1 hx with hx | hx
    · simp only [List.mem_cons, List.not_mem_nil, or_false] at hx
      rcases hx with rfl | rfl | rfl | rfl
      · exact ⟨nc_app (nc_app (nc_dec (by decide)) c3) (nc_dec (by decide)), by simp; omega⟩
      · exact ⟨nc_app (nc_app (nc_dec (by decide)) (nc_app c1 (fun c hc => by
          rcases List.mem_cons.1 hc with rfl | hc
          · decide
          · exact c2 c hc))) (nc_dec (by decide)), by simp; omega⟩
      · exact ⟨nc_dec (by decide), by decide⟩
      · exact ⟨fun c hc => by simp at hc, by simp⟩
    · obtain ⟨r, hr, hxr⟩ := List.mem_flatMap.1 hx
      cases hf : fld r with
      | false => rw [hf] at hxr; simp at hxr
      | true =>
        rw [hf] at hxr
        simp only [cond_true, List.mem_singleton] at hxr
        subst hxr
        have h1 := rcsP_all hrc (rcOf r) (List.mem_map.2 ⟨r, hr, rfl⟩)
        simp only [rcP, Bool.and_eq_true, decide_eq_true_eq] at h1
        obtain ⟨a1, a2, b1, b2⟩ := mayR_len h1.1.1.1.1.1
        have a1' : (bl r.1.1).length ≤ 64 := a1
        have a2' : (bl r.1.2).length ≤ 255 := a2
        have hco : (r.2.2.2.2 : Int).toNat ≤ 599 := Int.toNat_le.2 h1.2.2
        obtain ⟨d1, d2⟩ := dec600 _ hco
        refine ⟨nc_app (nc_app (nc_app b1 (fun c hc => by
          rcases List.mem_cons.1 hc with rfl | hc
          · decide
          · exact b2 c hc)) (nc_dec (by decide))) d2, ?_⟩
        simp only [lineR, List.length_append, List.length_cons, List.length_nil]
        omega
  have hmay : mayT (bl t) = true := by
    rw [ht, mkT_lines, mayT, rows_lines _ hall, Bool.and_true, decide_eq_true_eq]
    refine Nat.le_trans (linesI_len _ fun x hx => (hall x hx).2) ?_
    have := linesR_len m.rc
    simp only [List.length_append, List.length_cons, List.length_nil]
    omega
  have e : (made m n t).ml = ⟨1, m.te, true, [], [], [rcOf ((m.fl, m.fd), (0, (0, (0, 0))))], bl t, n, false, false⟩ := rfl
  have hrp : rcP (rcOf ((m.fl, m.fd), (0, (0, (0, 0))))) = true := by
    show (mayR (bl m.fl) (bl m.fd) && _ && _ && _ && _ && _) = true
    rw [hfrm]; rfl
  have hte' : (decide (0 ≤ m.te) && decide (m.te ≤ 3)) = true := by simp only [Bool.and_eq_true]; exact hte
  have hn' : (decide (0 ≤ n) && decide (n ≤ 1099511627776)) = true := by simp only [Bool.and_eq_true]; exact ⟨hn0, hn1⟩
  rw [e]
  simp only [mailP, rcsP, hrp, hmay, hte', hn', frmP]
  simp
end Go.Proofs.YtbhejifllgnliaaGreatDoor.Ab
namespace Go.Proofs.YtbhejifllgnliaaGreatDoor.Ab
open Go Go.RowKit Go.Proofs.YtbhejifllgnliaaGreatDoorW.PrintWords
set_option linter.unusedSimpArgs false
set_option linter.unusedVariables false
set_option maxRecDepth 100000
def sL18 : Sense := ⟨true, fun os xs K => ∃ e t l ap, os = [.own e t l ap false] ∧ s18.f [] (xs.map (V.map (C.frz 0 t l))) fun os' out => plnOs os' = true ∧ out.pln = true ∧ K (.own e t l ap false :: os'.map (Ob.ren (· + 1))) out.up⟩
theorem okL18 : SenseOK Gr Go.Proofs.Tryz.prog 18 sL18 := SenseOK.lendA ok18
def Γ4 : Sems := ext 17 sTrue (ext 14 sNum (ext 18 sL18 (ext 11 s11 (ext 10 s10 (ext 9 s9 Γ0)))))
theorem Γ4.ok : SemsOK Gr Go.Proofs.Tryz.prog Γ4 := (((((Γ0.ok.ext Go.Proofs.Tryz.func9 rfl (by decide) ok9).ext Go.Proofs.Tryz.func10 rfl (by decide) ok10).ext Go.Proofs.Tryz.func11 rfl (by decide) ok11).ext Go.Proofs.Tryz.func18 rfl (by decide) okL18).ext Go.Proofs.Tryz.func14 rfl (by decide) ok14).ext Go.Proofs.Tryz.func17 rfl (by decide) ok17
/-- A telling whose one recipient has another status. -/
def madeS (m : Md) (n : Int) (t : ByteArray) (s : Int) : Md := { made m n t with rc := [((m.fl, m.fd), (s, (0, (0, 0))))] }
theorem madeS_may {m : Md} {h t : ByteArray} {n s : Int} (hm : mayMake m h n = true) (hn : (m.nul || !m.rc.any fld) = false) (ht : bl t = mkT m (bl h)) (hs : 0 ≤ s ∧ s ≤ 4) : mailP (madeS m n t s).ml = true := by
  have h0 := made_may hm hn ht
  have e : (made m n t).ml = ⟨1, m.te, true, [], [], [rcOf ((m.fl, m.fd), (0, (0, (0, 0))))], bl t, n, false, false⟩ := rfl
  have e2 : (madeS m n t s).ml = ⟨1, m.te, true, [], [], [rcOf ((m.fl, m.fd), (s, (0, (0, 0))))], bl t, n, false, false⟩ := rfl
  rw [e] at h0
  rw [e2]
  simp only [mailP, Bool.and_eq_true] at h0 ⊢
  obtain ⟨⟨⟨⟨⟨⟨⟨⟨hid1, hid2⟩, hte⟩, hr1⟩, hr2⟩, hbo⟩, hfr⟩, hrc⟩, hbd⟩ := h0
  have c1 : rcP (rcOf ((m.fl, m.fd), (s, (0, (0, 0))))) = true := by
    have hr := rcsP_all hrc _ (List.mem_singleton.2 rfl)
    have hy : mayR (bl m.fl) (bl m.fd) = true := by
      simp only [rcP, Bool.and_eq_true] at hr
      exact hr.1.1.1.1.1
    show (mayR (bl m.fl) (bl m.fd) && !decide (s < 0) && !decide (s > 4) && _ && _ && _) = true
    rw [hy, decide_eq_false (by omega : ¬ s < 0), decide_eq_false (by omega : ¬ s > 4)]
    rfl
  have c2 : rcsP [] [rcOf ((m.fl, m.fd), (s, (0, (0, 0))))] = true := by
    simp only [rcsP, c1]; rfl
  exact ⟨⟨⟨⟨⟨⟨⟨⟨hid1, hid2⟩, hte⟩, by simp⟩, by simp⟩, hbo⟩, hfr⟩, c2⟩, hbd⟩
def s4 : Sense := ⟨false, fun os xs K => ∃ (l : List AskT.den), xs = [.one (.sl AskT l)] ∧ os = [] ∧ l.length ≤ big ∧ (∀ x ∈ l, askSmall x) ∧ K [] (.ret (.one (.bool true)))⟩
set_option maxHeartbeats 64000000 in
theorem ok4 : SenseOK Gr Go.Proofs.Tryz.prog 4 s4 := SenseOK.any Γ4.ok (fun r => bif Nat.beq r 12 then [0, 3, 4, 5, 7] else [0, 3]) Go.Proofs.Tryz.func4 fun os xs K h => by
  obtain ⟨l, rfl, rfl, hl, hb, hk⟩ := h
  simp only [big] at hl
  ((conv => whnf); repeat ((first | refine Br.t ?_ | refine Br.f ?_ | refine ob ?_ | refine ⟨_, rfl, ?_⟩ | refine ⟨_, _, rfl, ?_⟩ | refine ⟨_, _, _, rfl, ?_⟩ | refine ⟨_, _, _, _, rfl, ?_⟩); (conv => whnf)))
  refine iter_of (I := fun k σ => ∃ j : Nat, k = l.length - j ∧ j ≤ l.length ∧ σ = ⟨slots 105 [(0, .one (.sl AskT l)), (3, .one (.int .i64 j))], []⟩) ?_ l.length ⟨0, by omega, by omega, rfl⟩
  rintro k σ K' ⟨j, rfl, hj, rfl⟩ hK'
  have w1 := IntWalk.i64_in ((j : Int) + 1) (by omega)
  by_cases h1 : j < l.length
  case neg =>
    have f1 : decide ((j : Int) < l.length) = false := by simp; omega
    ((conv => whnf); repeat ((first | refine Br.t ?_ | refine Br.f ?_ | refine ob ?_ | refine ⟨_, rfl, ?_⟩ | refine ⟨_, _, rfl, ?_⟩ | refine ⟨_, _, _, rfl, ?_⟩ | refine ⟨_, _, _, _, rfl, ?_⟩ | simp only [f1]); (conv => whnf)))
    exact hk
  have f1 : decide ((j : Int) < l.length) = true := by simpa using h1
  by_cases h2 : j < 8
  case neg =>
    have f2 : decide ((j : Int) < 8) = false := by simp; omega
    ((conv => whnf); repeat ((first | refine Br.t ?_ | refine Br.f ?_ | refine ob ?_ | refine ⟨_, rfl, ?_⟩ | refine ⟨_, _, rfl, ?_⟩ | refine ⟨_, _, _, rfl, ?_⟩ | refine ⟨_, _, _, _, rfl, ?_⟩ | simp only [f1, f2]); (conv => whnf)))
    exact hk
  have f2 : decide ((j : Int) < 8) = true := by simp; omega
  obtain ⟨x, hr0⟩ : ∃ x, l[j]? = some x := ⟨_, List.getElem?_eq_getElem h1⟩
  have hws := hb x (List.mem_of_getElem? hr0)
  obtain ⟨m, h, n, rfl⟩ : ∃ m h n, x = askOf m h n := ⟨_, _, _, ask_of x⟩
  have hw : wtSmall m := hws.1
  have hhb : h.size ≤ big := hws.2
  have rr := nth_of hr0 AskT.dflt
  have a1 : (askOf m h n).snd.fst = h := rfl
  have a2 : (askOf m h n).snd.snd = n := rfl
  ((conv => whnf); repeat ((first | refine Br.t ?_ | refine Br.f ?_ | refine ob ?_ | refine ⟨_, rfl, ?_⟩ | refine ⟨_, _, rfl, ?_⟩ | refine ⟨_, _, _, rfl, ?_⟩ | refine ⟨_, _, _, _, rfl, ?_⟩ | simp only [f1, f2, rr]); (conv => whnf)))
  simp only [a1, a2]
  refine ⟨.inl ⟨rfl, rfl⟩, hw, ?_⟩
  by_cases g3 : wtM m > 6000
  · have f3 : decide (wtM m > 6000) = true := decide_eq_true g3
    ((conv => whnf); repeat ((first | refine Br.t ?_ | refine Br.f ?_ | refine ob ?_ | refine ⟨_, rfl, ?_⟩ | refine ⟨_, _, rfl, ?_⟩ | refine ⟨_, _, _, rfl, ?_⟩ | refine ⟨_, _, _, _, rfl, ?_⟩ | simp only [f3]); (conv => whnf)))
    exact hk
  have f3 : decide (wtM m > 6000) = false := decide_eq_false g3
  by_cases g4 : (h.size : Int) > 1000
  · have f4 : decide ((h.size : Int) > 1000) = true := decide_eq_true g4
    ((conv => whnf); repeat ((first | refine Br.t ?_ | refine Br.f ?_ | refine ob ?_ | refine ⟨_, rfl, ?_⟩ | refine ⟨_, _, rfl, ?_⟩ | refine ⟨_, _, _, rfl, ?_⟩ | refine ⟨_, _, _, _, rfl, ?_⟩ | simp only [f3, f4]); (conv => whnf)))
    exact hk
  have f4 : decide ((h.size : Int) > 1000) = false := decide_eq_false g4
  have hL := light_of g3
  have hhm : h.size ≤ mid := by simp only [mid]; omega
  have hrs : ∀ r ∈ m.rc, r.1.2.size ≤ big := fun r hr => (hw.2.2.2.2 r hr).2
  have q0 : decide (md0.ml = md0.ml) = true := decide_eq_true rfl
  have q1 : decide (m.ml = m.ml) = true := decide_eq_true rfl
  ((conv => whnf); repeat ((first | refine Br.t ?_ | refine Br.f ?_ | refine ob ?_ | refine ⟨_, rfl, ?_⟩ | refine ⟨_, _, rfl, ?_⟩ | refine ⟨_, _, _, rfl, ?_⟩ | refine ⟨_, _, _, _, rfl, ?_⟩ | simp only [f3, f4]); (conv => whnf)))
  refine ⟨.inl ⟨rfl, rfl⟩, hL.sml, hw, hhm, fun e0 => ?_, fun e0 e1 => ?_, fun e0 e1 t ht mv => ?_⟩
  · ((conv => whnf); repeat ((first | refine Br.t ?_ | refine Br.f ?_ | refine ob ?_ | refine ⟨_, rfl, ?_⟩ | refine ⟨_, _, rfl, ?_⟩ | refine ⟨_, _, _, rfl, ?_⟩ | refine ⟨_, _, _, _, rfl, ?_⟩ | simp only [w1]); (conv => whnf)))
    exact hK' _ _ (by omega) ⟨j + 1, rfl, by omega, rfl⟩
  · ((conv => whnf); repeat ((first | refine Br.t ?_ | refine Br.f ?_ | refine ob ?_ | refine ⟨_, rfl, ?_⟩ | refine ⟨_, _, rfl, ?_⟩ | refine ⟨_, _, _, rfl, ?_⟩ | refine ⟨_, _, _, _, rfl, ?_⟩ | simp only [w1]); (conv => whnf)))
    exact hK' _ _ (by omega) ⟨j + 1, rfl, by omega, rfl⟩
  · ((conv => whnf); repeat ((first | refine Br.t ?_ | refine Br.f ?_ | refine ob ?_ | refine ⟨_, rfl, ?_⟩ | refine ⟨_, _, rfl, ?_⟩ | refine ⟨_, _, _, rfl, ?_⟩ | refine ⟨_, _, _, _, rfl, ?_⟩ | simp only []); (conv => whnf)))
    refine ⟨[], (.take 0 (.br 1 (.take 2 (.take 3 (.take 4 (.take 5 (.take 6 (.take 7 (.take 8 (.take 9 (.take 10 (.take 11 (.take 12 (.take 13 (.take 14 (.take 15 (.take 16 (.take 17 (.take 18 (.take 19 (.take 20 (.take 21 (.take 22 (.take 23 (.take 24 (.take 25 (.take 26 (.take 27 (.take 28 (.take 29 (.take 30 (.take 31 (.take 32 (.take 33 (.take 34 (.take 35 (.take 36 (.take 37 (.take 38 (.take 39 (.take 40 .done))))))))))))))))))))))))))))))))))))))) .nil)), by kernel_rfl, ?_⟩
    ((conv => whnf); repeat ((first | refine Br.t ?_ | refine Br.f ?_ | refine ob ?_ | refine ⟨_, rfl, ?_⟩ | refine ⟨_, _, rfl, ?_⟩ | refine ⟨_, _, _, rfl, ?_⟩ | refine ⟨_, _, _, _, rfl, ?_⟩ | simp only []); (conv => whnf)))
    have hP := made_may e0 e1 ht
    have htb : t.size ≤ 8192 := by
      have h5 := hP
      simp only [mailP, Bool.and_eq_true] at h5
      have h6 : mayT (bl t) = true := h5.2
      simp only [mayT, Bool.and_eq_true, decide_eq_true_eq, bl_len] at h6
      exact h6.1
    refine ⟨.inl ⟨rfl, rfl⟩, Nat.le_trans htb (by decide), by show (0 : Nat) ≤ big; decide, fun r hr => ?_, rfl, rfl, ?_⟩
    · have : r = ((m.fl, m.fd), ((0 : Int), ((0 : Int), ((0 : Int), (0 : Int))))) := List.mem_singleton.1 hr
      subst this
      exact hw.2.2.2.1
    have hq : (ByteArray.toList (rdx (made m n t).rc (Int.toNat 0) RT.dflt).fst.fst == (askOf m h n).fst.snd.snd.snd.fst.fst.toList && (ByteArray.toList (rdx (made m n t).rc (Int.toNat 0) RT.dflt).fst.snd == (askOf m h n).fst.snd.snd.snd.fst.snd.toList && true)) = true := by
      show (m.fl.toList == m.fl.toList && (m.fd.toList == m.fd.toList && true)) = true
      simp
    have he1 : (made m n t).nul = true := rfl
    have he2 : (((made m n t).rc.length : Int) != 1) = false := rfl
    have he3 : ((made m n t).te != (askOf m h n).fst.snd.fst) = false := by
      show (m.te != m.te) = false
      simp
    have he4 : ((rdx (made m n t).rc (Int.toNat 0) RT.dflt).snd.fst != (0 : Int)) = false := rfl
    have hz : (0 : Int) ≤ 0 ∧ (0 : Int) < ((made m n t).rc.length : Int) := ⟨by decide, by simp [made]⟩
    ((conv => whnf); repeat ((first | refine Br.t ?_ | refine Br.f ?_ | refine ob ?_ | refine ⟨_, rfl, ?_⟩ | refine ⟨_, _, rfl, ?_⟩ | refine ⟨_, _, _, rfl, ?_⟩ | refine ⟨_, _, _, _, rfl, ?_⟩ | simp only [hP, hq, he1, he2, he3, he4]); (conv => whnf)))
    have hP2 := fun (s : Int) (hs : 0 ≤ s ∧ s ≤ 4) => madeS_may (s := s) e0 e1 ht hs
    have l1 : (made m n t).rc.length ≤ big := by simp [made, big]
    refine iter_of (I := fun k σ => ∃ (s : Nat) (b : Bool), k = 5 - s ∧ s ≤ 5 ∧ σ = ⟨slots 105 [(0, .one (.sl AskT l)), (3, .one (.int .i64 j)), (4, .one (.ref 0 0)), (5, .one (.ref 1 0)), (7, .one (.int .i64 s))], [.box 29 (m.cs (.sl RT m.rc) ++ [.str h, .int .i64 n]), .box 27 ((made m n t).cs (.own 2)), .own 45 RT (made m n t).rc true b]⟩) ?_ 5 ⟨0, _, by omega, by omega, rfl⟩
    rintro k σ K2 ⟨s, b, rfl, hs, rfl⟩ hK2
    have w2 := IntWalk.i64_in ((s : Int) + 1) (by omega)
    by_cases g5 : (s : Int) ≤ 4
    case neg =>
      have f5 : decide ((s : Int) ≤ 4) = false := decide_eq_false g5
      ((conv => whnf); repeat ((first | refine Br.t ?_ | refine Br.f ?_ | refine ob ?_ | refine ⟨_, rfl, ?_⟩ | refine ⟨_, _, rfl, ?_⟩ | refine ⟨_, _, _, rfl, ?_⟩ | refine ⟨_, _, _, _, rfl, ?_⟩ | simp only [f5, w1]); (conv => whnf)))
      exact hK' _ _ (by omega) ⟨j + 1, rfl, by omega, rfl⟩
    have f5 : decide ((s : Int) ≤ 4) = true := decide_eq_true g5
    ((conv => whnf); repeat ((first | refine Br.t ?_ | refine Br.f ?_ | refine ob ?_ | refine ⟨_, rfl, ?_⟩ | refine ⟨_, _, rfl, ?_⟩ | refine ⟨_, _, _, rfl, ?_⟩ | refine ⟨_, _, _, _, rfl, ?_⟩ | simp only [f5]); (conv => whnf)))
    refine ⟨.inr (.inr ⟨true, rfl, rfl⟩), l1, fun h0 => absurd h0 (by simp [made]), fun _ mv2 => ?_⟩
    ((conv => whnf); repeat ((first | refine Br.t ?_ | refine Br.f ?_ | refine ob ?_ | simp only [f5]); (conv => whnf)))
    refine ⟨madeS m n t s, .own 0, h, n, rfl, .inr (.inr ⟨true, rfl, rfl⟩), ?_, ?_, hhm, fun h0 => ?_, fun _ _ => ?_, fun _ h0 => ?_⟩
    · refine ⟨by show (0 : Nat) < mid; decide, fun r hr => ?_, by simp [madeS, big]⟩
      have : r = ((m.fl, m.fd), ((s : Int), ((0 : Int), ((0 : Int), (0 : Int))))) := List.mem_singleton.1 hr
      subst this
      exact hL.sml.1
    · refine ⟨by simp [madeS, big], Nat.le_trans htb (by decide), by show (0 : Nat) ≤ big; decide, by show (0 : Nat) ≤ big; decide, fun r hr => ?_⟩
      have : r = ((m.fl, m.fd), ((s : Int), ((0 : Int), ((0 : Int), (0 : Int))))) := List.mem_singleton.1 hr
      subst this
      exact ⟨hw.2.2.1, hw.2.2.2.1⟩
    · have h2 := e0
      simp only [mayMake, Bool.and_eq_true, Bool.and_eq_false_iff] at h2 h0
      have h3 := hP2 s ⟨by omega, g5⟩
      simp [h2, h3] at h0
    · ((conv => whnf); repeat ((first | refine Br.t ?_ | refine Br.f ?_ | refine ob ?_ | refine ⟨_, rfl, ?_⟩ | refine ⟨_, _, rfl, ?_⟩ | refine ⟨_, _, _, rfl, ?_⟩ | refine ⟨_, _, _, _, rfl, ?_⟩ | simp only [w2]); (conv => whnf)))
      exact hK2 _ _ (by omega) ⟨s + 1, _, rfl, by omega, rfl⟩
    · exact absurd h0 (by simp [madeS, made])
  done
end Go.Proofs.YtbhejifllgnliaaGreatDoor.Ab
namespace Go.Proofs.YtbhejifllgnliaaGreatDoor.bounceEnds
open Go Go.ChangeShapes Go.WideShapes Go.ChangeAt Go.RowKit Go.Proofs.YtbhejifllgnliaaGreatDoor.Ab
open Go.ChangeMaps (open_string shut_string)
set_option linter.unusedVariables false
set_option maxRecDepth 100000
theorem reads (os : Os) {H : Type} (enc : TypeId × Value → H) : ∃ places, DataW.whole enc Tryz.prog ((laidWorld os).forCall (fun _ _ => 0) ⟨#[], #[.slice none 0 0], []⟩).memory Tryz.f4.params.toList Rows.bounceEndsSpec.vars false #[Value.slice none 0 0].toList 8 = some ([.nil], [], places) :=
  ⟨[], by kernel_rfl⟩
theorem contract (H : Type) (enc : TypeId × Value → H) (W : World) (base : Nat) (args : Array Value) (ds gs : List (DataW H)) (before : List MemPlace)
    (hval0 : ∀ (j : Nat) t v, Tryz.f4.params[j]? = some t → args[j]? = some v → Value.okWide Tryz.prog W .any base t v)
    (hW : DataW.Whole enc Tryz.prog Tryz.f4.params.toList Rows.bounceEndsSpec.vars false W args.toList ds gs before) (hbk : Rows.uptoSmall H (ds ++ gs) = true)
    (hsz0 : (DataW.weightsEach Tryz.prog (Tryz.f4.params.toList ++ Rows.bounceEndsSpec.plain.varTypes Tryz.prog) (ds ++ gs)).all (· ≤ reachBytes) = true)
    (hL : laidMetH Tryz.prog Rows.bounceEndsUptoRow.laid W) (hsh : W.ShapedOpen Tryz.prog) :
    Calls Tryz.prog 4 args W fun e W' => ∃ v, e = .returned v ∧ Rows.bounceEndsSpec.post enc Tryz.prog Tryz.f4 false true false false W args v W' := by
  have hval : ∀ (j : Nat) t v, Tryz.f4.params[j]? = some t → args[j]? = some v → Value.okWide Tryz.prog W .any base t v := hval0
  have hsz := hsz0
  have hW' := hW
  have hbound : Rows.uptoBulkAll (ds ++ gs) ≤ 1048576 := of_decide_eq_true hbk
  obtain ⟨p, q, hA0, hV, rfl, hfz, hnd⟩ := hW
  have hA : DataW.TrodAll enc Tryz.prog W 0 (fun _ => true) true Tryz.f4.params.toList args.toList ds p := hA0
  rw [Tryz.params4] at hA hval hsz
  obtain ⟨v0, vs0, d0, ds0, p0, q0, hargs, rfl, rfl, h0, r0⟩ := trodAll_cons hA
  obtain ⟨rfl, rfl, rfl⟩ := trodAll_nil r0
  obtain rfl : args = #[v0] := by cases args; simp_all
  obtain ⟨rfl, rfl⟩ := trodVars_none hV
  have k0 := h0
  have lt0 : ∀ x ∈ p0, x.block < W.heap.size := by obtain ⟨m, hm⟩ := k0; exact DataW.trod_lt m _ _ _ hm
  have hw0 : ∀ n ∈ d0.weights Tryz.prog 22, n ≤ reachBytes := fun n hn => by
    have := List.all_eq_true.1 hsz _ (DataW.weights_mem_each (j := 0) (t := 22) (d := d0) rfl rfl n hn)
    simpa using this
  have hb0 : Rows.uptoBulk d0 ≤ bulkB := Nat.le_trans (bulk_part (by simp)) hbound
  obtain ⟨a0, len0, cap0, rfl⟩ := okWide_slice Tryz.underlying22 (hval 0 22 v0 rfl rfl)
  obtain ⟨fuel0, hf0⟩ := h0
  obtain ⟨x0, hT, hwf0⟩ := opb22.op hf0 hw0 hb0
  obtain ⟨A0, c0, hcs0, hle0, hC0⟩ := hT
  simp only [Value.cells, List.cons.injEq, Value.slice.injEq, and_true] at hcs0
  obtain ⟨rfl, rfl, rfl⟩ := hcs0
  refine (ok4.top (Gr.of_laid hsh hL).gnd (ags := [.one (.sl AskT x0)]) (vs := [.slice a0 x0.length cap0]) (K := fun o => o = .ret (.one (.bool true))) ⟨⟨a0, cap0, rfl, hle0, hC0⟩, trivial⟩ ⟨x0, rfl, rfl, Nat.le_trans hwf0.1 (by decide), hwf0.2, rfl, rfl⟩).mono ?_
  rintro e W' ⟨bel, out, rfl, v, rfl, rfl⟩
  exact ⟨_, rfl, _, _, _, [], _, [], hW', trodAll_mk1 (shut_bool Tryz.underlying4 _), (trodAll_cons_mk (Below.trod laidOut (by kernel_rfl) (of_decide_eq_true (by kernel_rfl)) k0 bel lt0) trodAll_mk0), rfl, bel.frame _, fun h => by cases h⟩
theorem lifted (os : Os) (started : os.Started) (H : Type) (enc : TypeId × Value → H) (F : Stop.Interp) :
    ReturnsInHanded {} Tryz.checked os 4 .any ((Rows.OpenSpec.upto Rows.bounceEndsSpec).preRow enc Tryz.prog Tryz.f4 Rows.bounceEndsUptoRow.domain false Rows.bounceEndsUptoRow.laid) (((Rows.OpenSpec.upto Rows.bounceEndsSpec).at F).post enc Tryz.prog Tryz.f4 false true false false) := by
  obtain ⟨places, hx⟩ := reads os enc
  refine returnsInHanded_of_row (C := Tryz.checked) (s := Rows.OpenSpec.upto Rows.bounceEndsSpec) own started (by kernel_rfl) Tryz.func4
    (witness_row_atRef (enc := enc) (C := Tryz.checked) false (laidWorld os) #[.slice none 0 0] rfl (by kernel_rfl) (by kernel_rfl) (by kernel_rfl)
      (OpenSpec.preRow_of_cond 8 hx (by kernel_rfl) (fun k hk => by cases hk; kernel_rfl) (by kernel_rfl) (door_met os _))) ?_
  intro W base args ds gs before hval hW _ hcond hsz hL hsh _
  exact contract H enc W base args ds gs before hval hW (hcond _ rfl) hsz hL hsh
theorem said : Rows.BounceEndsUptoSaid :=
  OpenClaim.holds_of_cond 4 Tryz.f4 rfl rfl rfl rfl rfl rfl rfl ⟨rfl, rfl, rfl, rfl, rfl⟩ rfl rfl rfl rfl rfl (by kernel_rfl) Tryz.func4 (by kernel_rfl)
    (of_decide_eq_true (by kernel_rfl)) (by unfold Func.isWrapper; first | (rw [if_pos (by decide +kernel)]; kernel_rfl) | (rw [if_neg (by decide +kernel)]; exact ⟨rfl, rfl⟩))
    (fun os started H enc _ F => by rw [OpenClaim.pre_eq_preRow]; exact lifted os started H enc F)
/-- No parameter wants a stand-in; the program's own looks are off: what the card asks. -/
theorem plain (f : FuncId) (fn : Func) (hf : Tryz.pinned.checked.prog.funcNamed "pouch/pouchlaw21.BounceEnds" = some f) (hfn : Tryz.pinned.checked.prog.funcs[f]? = some fn) :
    true = Tryz.pinned.checked.prog.looks [] ∧ ∀ (j : Nat) t, fn.params[j]? = some t → Tryz.pinned.checked.prog.wantsStandIn t = false := by
  obtain rfl : f = 4 := Option.some.inj ((show Tryz.prog.funcNamed "pouch/pouchlaw21.BounceEnds" = some 4 by kernel_rfl).symm.trans hf) |>.symm
  obtain rfl : fn = Tryz.f4 := (Option.some.inj (Tryz.func4.symm.trans hfn)).symm
  refine ⟨by kernel_rfl, fun j t ht => ?_⟩
  rw [Tryz.params4] at ht
  obtain rfl : t = 22 := by simpa using Array.mem_of_getElem? ht
  exact (show Tryz.prog.wantsStandIn 22 = false by kernel_rfl)
theorem card : Rows.BounceEndsUptoCardSaid :=
  Claim7.holds_tied_plain_at .later [] _ _ _ _ said (fun _ h => by cases h) (by kernel_rfl) (fun _ h => by cases h) bounceEndsUpto_row_tie rfl ⟨rfl, rfl⟩ (by kernel_rfl) rfl plain (by kernel_rfl)
end Go.Proofs.YtbhejifllgnliaaGreatDoor.bounceEnds
namespace Go.Proofs.YtbhejifllgnliaaGreatDoor
/-- The statement, under a short name, for the claim. -/
theorem bounceEnds_holds : Rows.BounceEndsUptoCardSaid := bounceEnds.card
end Go.Proofs.YtbhejifllgnliaaGreatDoor
