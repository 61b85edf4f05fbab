/- Part 5 of 5 of the proof of bounceNames_holds: texts put together by a program; no condition. -/
import Derived.Test.YtbhejifllgnliaaGreatDoorZc4
import Derived.Test.YtbhejifllgnliaaGreatDoorZc3
namespace Go.Proofs.YtbhejifllgnliaaGreatDoor.Ab
open Go Go.RowKit Go.Proofs.YtbhejifllgnliaaGreatDoorW.PrintWords
set_option linter.unusedSimpArgs false
set_option linter.unusedVariables false
set_option maxRecDepth 100000
def Γ67 : Sems := ext 93 s93 (ext 87 s87 (ext 83 s83 Γ0))
theorem Γ67.ok : SemsOK Gr Go.Proofs.Tryz.prog Γ67 := ((Γ0.ok.ext Go.Proofs.Tryz.func83 rfl (by decide) ok83).ext Go.Proofs.Tryz.func87 rfl (by decide) ok87).ext Go.Proofs.Tryz.func93 rfl (by decide) ok93
abbrev fromB : ByteArray := ⟨#[70, 114, 111, 109, 58, 32, 60, 112, 111, 115, 116, 109, 97, 115, 116, 101, 114, 64]⟩
abbrev gtB : ByteArray := ⟨#[62]⟩
abbrev toB : ByteArray := ⟨#[84, 111, 58, 32, 60]⟩
abbrev ls0 (h v : ByteArray) : List ByteArray := [fromB ++ h ++ gtB, toB ++ v ++ gtB, ⟨#[83, 117, 98, 106, 101, 99, 116, 58, 32, 110, 111, 116, 32, 100, 101, 108, 105, 118, 101, 114, 101, 100]⟩, ⟨#[]⟩]
/-- What is asked of a message that is told of. -/
structure TellOK (m : Md) (h : ByteArray) : Prop where
  rc : m.rc.length ≤ 8
  fl : m.fl.size ≤ big
  fd : m.fd.size ≤ big
  h : h.size ≤ big
  rs : ∀ r ∈ m.rc, r.1.1.size ≤ big ∧ r.1.2.size ≤ big ∧ 0 ≤ r.2.2.2.2 ∧ r.2.2.2.2 ≤ 599
def s67 : Sense := ⟨false, fun os xs K => ∃ (m : Md) (c : C) (h : ByteArray), xs = [.agg (m.cs c), .one (.str h)] ∧ RcIn 0 m.rc c os ∧ TellOK m h ∧ ∀ t, bl t = mkT m (bl h) → K os (.ret (.one (.str t)))⟩
set_option maxHeartbeats 16000000 in
theorem ok67 : SenseOK Gr Go.Proofs.Tryz.prog 67 s67 := SenseOK.any Γ67.ok (fun _ => [5, 18, 19, 20]) Go.Proofs.Tryz.func67 fun os xs K h => by
  obtain ⟨m, c, h, rfl, ha, ⟨hb, hfl, hfd, hh, hrs⟩, hk⟩ := h
  simp only [big] at hh hfl hfd
  have z1 : fromB.size = 18 := rfl
  have z2 : gtB.size = 1 := rfl
  have z3 : toB.size = 5 := rfl
  have o1 : fromB.size + h.size ≤ 9223372036854775807 := by rw [z1]; omega
  have o2 : (fromB ++ h).size + gtB.size ≤ 9223372036854775807 := by rw [ByteArray.size_append, z1, z2]; omega
  rcases ha with ⟨hc, ho⟩ | ⟨hc, ho, ha0⟩ | ⟨ap, hc, ho⟩
  all_goals
    rw [hc, ho]
    rw [ho] at hk
    ((conv => whnf); repeat ((first | refine Br.t ?_ | refine Br.f ?_ | refine ob ?_ | refine ⟨_, rfl, ?_⟩ | refine ⟨_, _, rfl, ?_⟩ | refine ⟨_, _, _, rfl, ?_⟩ | refine ⟨_, _, _, _, rfl, ?_⟩ | simp only []); (conv => whnf)))
    intro v hv
    have hvs : v.size = m.fl.size + m.fd.size + 1 := by
      rw [← bl_len, hv, List.length_append, List.length_cons, bl_len, bl_len]; omega
    have o3 : toB.size + v.size ≤ 9223372036854775807 := by rw [z3]; omega
    have o4 : (toB ++ v).size + gtB.size ≤ 9223372036854775807 := by rw [ByteArray.size_append, z2, z3]; omega
    ((conv => whnf); repeat ((first | refine Br.t ?_ | refine Br.f ?_ | refine ob ?_ | refine ⟨_, rfl, ?_⟩ | refine ⟨_, _, rfl, ?_⟩ | refine ⟨_, _, _, rfl, ?_⟩ | refine ⟨_, _, _, _, rfl, ?_⟩ | simp only []); (conv => whnf)))
    have hstart : linesT (ls0 h v) = hdT (bl h) (bl m.fl) (bl m.fd) := by
      simp only [linesT, List.flatMap_cons, List.flatMap_nil, bl_append, hv, hdT, List.append_nil]
      have q1 : bl fromB = [70, 114, 111, 109, 58, 32, 60, 112, 111, 115, 116, 109, 97, 115, 116, 101, 114, 64] := rfl
      have q2 : bl gtB = [62] := rfl
      have q3 : bl toB = [84, 111, 58, 32, 60] := rfl
      rw [q1, q2, q3]
      simp [bl]
    have hlen0 : (hdT (bl h) (bl m.fl) (bl m.fd)).length ≤ 8589934592 := by
      simp only [hdT, List.length_append, List.length_cons, List.length_nil, bl_len]; omega
    refine iter_of (I := fun k σ => ∃ (j : Nat) (ls : List ByteArray) (mv : Bool), k = m.rc.length - j ∧ j ≤ m.rc.length ∧ ls ≠ [] ∧ ls.length ≤ 4 + j ∧ (linesT ls).length ≤ 8589934592 + j * 4294967296 ∧ linesT ls = hdT (bl h) (bl m.fl) (bl m.fd) ++ (m.rc.take j).flatMap rowT ∧ σ = ⟨slots 42 [(5, .one (.own os.length)), (18, .one c), (19, .one (.int .i64 m.rc.length)), (20, .one (.int .i64 j))], os ++ [.own 9 .str ls true mv]⟩) ?_ m.rc.length ⟨0, ls0 h v, false, by omega, by omega, by simp, by simp, by rw [hstart]; omega, by rw [hstart]; simp, by rw [ho, hc]; first | rfl | (rw [ha0]; rfl)⟩
    rintro k σ K' ⟨j, ls, mv, rfl, hj, hne, hll, hsz, hls, rfl⟩ hK'
    rw [ho, hc] at hK' ⊢
    have w1 := IntWalk.i64_in ((j : Int) + 1) (by omega)
    by_cases h1 : j < m.rc.length
    case neg =>
      have f1 : decide ((j : Int) < m.rc.length) = false := by simp; omega
      obtain rfl : j = m.rc.length := by omega
      rw [List.take_length] at hls
      ((conv => whnf); repeat ((first | refine Br.t ?_ | refine Br.f ?_ | refine ob ?_ | refine ⟨_, rfl, ?_⟩ | refine ⟨_, _, rfl, ?_⟩ | refine ⟨_, _, _, rfl, ?_⟩ | refine ⟨_, _, _, _, rfl, ?_⟩ | simp only [f1]); (conv => whnf)))
      have hj8 : m.rc.length * 4294967296 ≤ 8 * 4294967296 := Nat.mul_le_mul_right _ hb
      have hjl := linesT_len ls
      refine ⟨ls, crlfB, true, rfl, rfl, by simp only [big]; omega, by omega, fun r hr => ?_⟩
      have hr2 : nums r.data.toList ++ [13, 10] = linesT ls := by rw [hr]; exact join_lines ls hne
      have hrs2 : r.size ≤ 140737488355328 := by
        have : r.size = (joinT ls crlfB).length := by rw [← hr, Array.length_toList]; rfl
        omega
      have q5 : crlfB.size = 2 := rfl
      have o5 : r.size + crlfB.size ≤ 9223372036854775807 := by rw [q5]; omega
      ((conv => whnf); repeat ((first | refine Br.t ?_ | refine Br.f ?_ | refine ob ?_ | refine ⟨_, rfl, ?_⟩ | refine ⟨_, _, rfl, ?_⟩ | refine ⟨_, _, _, rfl, ?_⟩ | refine ⟨_, _, _, _, rfl, ?_⟩ | simp only []); (conv => whnf)))
      refine hk _ ?_
      rw [bl_append, mkT, ← hls, ← hr2]
      rfl
    first | (rw [ha0] at h1; exact absurd h1 (by simp)) | skip
  all_goals
    have f1 : decide ((j : Int) < m.rc.length) = true := by simpa using h1
    obtain ⟨r, hr⟩ : ∃ r, m.rc[j]? = some r := ⟨_, List.getElem?_eq_getElem h1⟩
    have rr := nth_of hr RT.dflt
    have hnx : (m.rc.take (j + 1)).flatMap rowT = (m.rc.take j).flatMap rowT ++ rowT r := flat_next hr
    have hsz2 : (linesT ls).length + 4294967296 ≤ 8589934592 + (j + 1) * 4294967296 := by
      rw [Nat.succ_mul]
      generalize j * 4294967296 = q at hsz
      omega
    cases g1 : (r.2.1 == 3) with
    | false =>
      have hrow : rowT r = [] := by
        have : fld r = false := g1
        rw [rowT, this, cond_false]
      ((conv => whnf); repeat ((first | refine Br.t ?_ | refine Br.f ?_ | refine ob ?_ | refine ⟨_, rfl, ?_⟩ | refine ⟨_, _, rfl, ?_⟩ | refine ⟨_, _, _, rfl, ?_⟩ | refine ⟨_, _, _, _, rfl, ?_⟩ | simp only [f1, rr, g1, w1]); (conv => whnf)))
      exact hK' _ _ (by omega) ⟨j + 1, ls, _, rfl, by omega, hne, by omega, Nat.le_trans (Nat.le_add_right _ _) hsz2, by rw [hnx, hrow, List.append_nil, hls], rfl⟩
    | true =>
      have hrb := hrs r (List.mem_of_getElem? hr)
      simp only [big] at hrb
      ((conv => whnf); repeat ((first | refine Br.t ?_ | refine Br.f ?_ | refine ob ?_ | refine ⟨_, rfl, ?_⟩ | refine ⟨_, _, rfl, ?_⟩ | refine ⟨_, _, _, rfl, ?_⟩ | refine ⟨_, _, _, _, rfl, ?_⟩ | simp only [f1, rr, g1]); (conv => whnf)))
      refine ⟨[os.length], (.take 0 (.take 1 (.take 2 (.take 5 (.take 6 (.br 3 (.take 4 (.br 7 (.take 8 (.br 9 (.br 10 (.take 11 .done) .nil) .nil)) .nil)) .nil)))))), by kernel_rfl, ?_⟩
      rw [ho]
      ((conv => whnf); repeat ((first | refine Br.t ?_ | refine Br.f ?_ | refine ob ?_ | refine ⟨_, rfl, ?_⟩ | refine ⟨_, _, rfl, ?_⟩ | refine ⟨_, _, _, rfl, ?_⟩ | refine ⟨_, _, _, _, rfl, ?_⟩ | simp only [rr]); (conv => whnf)))
      refine ⟨hrb.1, hrb.2.1, fun v2 hv2 => ?_⟩
      have hv2s : v2.size = r.1.1.size + r.1.2.size + 1 := by
        rw [← bl_len, hv2, List.length_append, List.length_cons, bl_len, bl_len]; omega
      have y1 : ({ data := #[58, 32] } : ByteArray).size = 2 := rfl
      have p1 : v2.size + ({ data := #[58, 32] } : ByteArray).size ≤ 9223372036854775807 := by rw [y1]; omega
      ((conv => whnf); repeat ((first | refine Br.t ?_ | refine Br.f ?_ | refine ob ?_ | refine ⟨_, rfl, ?_⟩ | refine ⟨_, _, rfl, ?_⟩ | refine ⟨_, _, _, rfl, ?_⟩ | refine ⟨_, _, _, _, rfl, ?_⟩ | simp only [rr]); (conv => whnf)))
      have hqb : (r.2.2.2.2 : Int).toNat ≤ 599 := Int.toNat_le.2 hrb.2.2.2
      have hcode : nums (Lib.itoa r.2.2.2.2) = decL (r.2.2.2.2 : Int).toNat := by
        rw [← itoa_decL _ (Nat.lt_of_le_of_lt hqb (by decide)), Int.toNat_of_nonneg hrb.2.2.1]
      refine ⟨⟨Int.le_trans (by decide) hrb.2.2.1, Int.le_trans hrb.2.2.2 (by decide)⟩, fun d hd => ?_⟩
      rw [hcode] at hd
      have hds : d.size ≤ 600 := by
        have := decL_len (r.2.2.2.2 : Int).toNat
        rw [← hd, bl_len] at this
        exact Nat.le_trans this (Nat.succ_le_succ hqb)
      have p2 : (v2 ++ ({ data := #[58, 32] } : ByteArray)).size + d.size ≤ 9223372036854775807 := by rw [ByteArray.size_append, y1]; omega
      ((conv => whnf); repeat ((first | refine Br.t ?_ | refine Br.f ?_ | refine ob ?_ | refine ⟨_, rfl, ?_⟩ | refine ⟨_, _, rfl, ?_⟩ | refine ⟨_, _, _, rfl, ?_⟩ | refine ⟨_, _, _, _, rfl, ?_⟩ | simp only [rr]); (conv => whnf)))
      ((conv => whnf); repeat ((first | refine Br.t ?_ | refine Br.f ?_ | refine ob ?_ | refine ⟨_, rfl, ?_⟩ | refine ⟨_, _, rfl, ?_⟩ | refine ⟨_, _, _, rfl, ?_⟩ | refine ⟨_, _, _, _, rfl, ?_⟩ | simp only [w1]); (conv => whnf)))
      have hrow : rowT r = (bl r.1.1 ++ 64 :: bl r.1.2) ++ [58, 32] ++ decL r.2.2.2.2.toNat ++ [13, 10] := by
        have : fld r = true := g1
        rw [rowT, this, cond_true]
      have hlb : bl (v2 ++ ({ data := #[58, 32] } : ByteArray) ++ d) = (bl r.1.1 ++ 64 :: bl r.1.2) ++ [58, 32] ++ decL (r.2.2.2.2 : Int).toNat := by
        rw [bl_append, bl_append, hv2, hd]; rfl
      have hls2 : linesT (ls ++ [v2 ++ ({ data := #[58, 32] } : ByteArray) ++ d]) = hdT (bl h) (bl m.fl) (bl m.fd) ++ (m.rc.take (j + 1)).flatMap rowT := by
        rw [linesT_snoc, hlb, hls, hnx, hrow]
        simp only [List.append_assoc]
      have hls3 : (linesT (ls ++ [v2 ++ ({ data := #[58, 32] } : ByteArray) ++ d])).length ≤ 8589934592 + (j + 1) * 4294967296 := by
        rw [linesT_snoc, List.length_append, List.length_append, bl_len, ByteArray.size_append, ByteArray.size_append, y1]
        have y3 : ([13, 10] : List Int).length = 2 := rfl
        rw [y3]
        refine Nat.le_trans ?_ hsz2
        omega
      exact hK' _ _ (by omega) ⟨j + 1, _, _, rfl, by omega, by simp, by rw [List.length_append, List.length_singleton]; omega, hls3, hls2, rfl⟩
end Go.Proofs.YtbhejifllgnliaaGreatDoor.Ab
namespace Go.Proofs.YtbhejifllgnliaaGreatDoor.Ab
open Go Go.RowKit Go.Proofs.YtbhejifllgnliaaGreatDoorW.PrintWords
set_option linter.unusedSimpArgs false
set_option linter.unusedVariables false
set_option maxRecDepth 100000
def Γ41 : Sems := ext 67 s67 Γ0
theorem Γ41.ok : SemsOK Gr Go.Proofs.Tryz.prog Γ41 := Γ0.ok.ext Go.Proofs.Tryz.func67 rfl (by decide) ok67
def s41 : Sense := ⟨false, fun os xs K => ∃ (m : Md) (c : C) (h : ByteArray) (n : Int), xs = [.agg (m.cs c), .one (.str h), .one (.int .i64 n)] ∧ RcIn 0 m.rc c os ∧ TellOK m h ∧
  ∀ t, bl t = mkT m (bl h) → ∀ mv, K (os ++ [.own 45 RT (made m n t).rc true mv]) (.ret (.agg ((made m n t).cs (.own os.length))))⟩
set_option maxHeartbeats 16000000 in
theorem ok41 : SenseOK Gr Go.Proofs.Tryz.prog 41 s41 := SenseOK.any Γ41.ok (fun _ => []) Go.Proofs.Tryz.func41 fun os xs K h => by
  obtain ⟨m, c, h, n, rfl, ha, ht, hk⟩ := h
  rcases ha with ⟨hc, ho⟩ | ⟨hc, ho, ha0⟩ | ⟨ap, hc, ho⟩
  case inr.inr =>
    rw [hc, ho]
    rw [ho] at hk
    ((conv => whnf); repeat ((first | refine Br.t ?_ | refine Br.f ?_ | refine ob ?_ | refine ⟨_, rfl, ?_⟩ | refine ⟨_, _, rfl, ?_⟩ | refine ⟨_, _, _, rfl, ?_⟩ | refine ⟨_, _, _, _, rfl, ?_⟩ | simp only []); (conv => whnf)))
    refine ⟨[0, 2], (.take 0 (.take 1 (.take 2 (.take 3 (.take 4 (.take 6 (.take 7 (.take 8 (.br 5 (.br 9 (.take 10 (.br 11 .done .nil)) .nil) (.br 9 (.br 5 (.take 10 (.br 11 .done .nil)) .nil) .nil)))))))))), by kernel_rfl, ?_⟩
    ((conv => whnf); repeat ((first | refine Br.t ?_ | refine Br.f ?_ | refine ob ?_ | refine ⟨_, rfl, ?_⟩ | refine ⟨_, _, rfl, ?_⟩ | refine ⟨_, _, _, rfl, ?_⟩ | refine ⟨_, _, _, _, rfl, ?_⟩ | simp only []); (conv => whnf)))
    refine Both.mk ?_ ?_
    all_goals
      ((conv => whnf); repeat ((first | refine Br.t ?_ | refine Br.f ?_ | refine ob ?_ | refine ⟨_, rfl, ?_⟩ | refine ⟨_, _, rfl, ?_⟩ | refine ⟨_, _, _, rfl, ?_⟩ | refine ⟨_, _, _, _, rfl, ?_⟩ | simp only []); (conv => whnf)))
      refine ⟨by first | exact .inl ⟨rfl, rfl⟩ | exact .inr (.inl ⟨rfl, rfl, ha0⟩) | exact .inr (.inr ⟨ap, rfl, rfl⟩), ht, fun t htx => ?_⟩
      ((conv => whnf); repeat ((first | refine Br.t ?_ | refine Br.f ?_ | refine ob ?_ | refine ⟨_, rfl, ?_⟩ | refine ⟨_, _, rfl, ?_⟩ | refine ⟨_, _, _, rfl, ?_⟩ | refine ⟨_, _, _, _, rfl, ?_⟩ | simp only []); (conv => whnf)))
      exact hk t htx _
  all_goals
    rw [hc, ho]
    rw [ho] at hk
    ((conv => whnf); repeat ((first | refine Br.t ?_ | refine Br.f ?_ | refine ob ?_ | refine ⟨_, rfl, ?_⟩ | refine ⟨_, _, rfl, ?_⟩ | refine ⟨_, _, _, rfl, ?_⟩ | refine ⟨_, _, _, _, rfl, ?_⟩ | simp only []); (conv => whnf)))
    refine ⟨[1], (.take 0 (.take 1 (.take 2 (.take 3 (.take 4 (.take 6 (.take 7 (.take 8 (.br 5 (.br 9 (.take 10 (.br 11 .done .nil)) .nil) (.br 9 (.br 5 (.take 10 (.br 11 .done .nil)) .nil) .nil)))))))))), by kernel_rfl, ?_⟩
    ((conv => whnf); repeat ((first | refine Br.t ?_ | refine Br.f ?_ | refine ob ?_ | refine ⟨_, rfl, ?_⟩ | refine ⟨_, _, rfl, ?_⟩ | refine ⟨_, _, _, rfl, ?_⟩ | refine ⟨_, _, _, _, rfl, ?_⟩ | simp only []); (conv => whnf)))
    refine Both.mk ?_ ?_
    all_goals
      ((conv => whnf); repeat ((first | refine Br.t ?_ | refine Br.f ?_ | refine ob ?_ | refine ⟨_, rfl, ?_⟩ | refine ⟨_, _, rfl, ?_⟩ | refine ⟨_, _, _, rfl, ?_⟩ | refine ⟨_, _, _, _, rfl, ?_⟩ | simp only []); (conv => whnf)))
      refine ⟨by first | exact .inl ⟨rfl, rfl⟩ | exact .inr (.inl ⟨rfl, rfl, ha0⟩) | exact .inr (.inr ⟨ap, rfl, rfl⟩), ht, fun t htx => ?_⟩
      ((conv => whnf); repeat ((first | refine Br.t ?_ | refine Br.f ?_ | refine ob ?_ | refine ⟨_, rfl, ?_⟩ | refine ⟨_, _, rfl, ?_⟩ | refine ⟨_, _, _, rfl, ?_⟩ | refine ⟨_, _, _, _, rfl, ?_⟩ | simp only []); (conv => whnf)))
      exact hk t htx _
end Go.Proofs.YtbhejifllgnliaaGreatDoor.Ab
namespace Go.Proofs.YtbhejifllgnliaaGreatDoor.Ab
open Go Go.RowKit Go.Proofs.YtbhejifllgnliaaGreatDoorW.PrintWords
set_option linter.unusedSimpArgs false
set_option linter.unusedVariables false
set_option maxRecDepth 100000
abbrev MT : Ty := .pair (.int .i64) (.pair (.int .i64) (.pair .bool (.pair (.pair .str .str) (.pair (.slice 45 RT) (.pair .str (.pair (.int .i64) (.pair .bool .bool)))))))
structure Light (m : Md) : Prop where
  sml : m.sml
  body : m.body.size ≤ 6000
  fd : m.fd.size ≤ 6000
  rc : m.rc.length ≤ 6000
  rs : ∀ r ∈ m.rc, r.1.2.size ≤ 6000
  lay : (layS m.ml).length ≤ 300000
  layM : (layM m.ml).length ≤ 300000
end Go.Proofs.YtbhejifllgnliaaGreatDoor.Ab
namespace Go.Proofs.YtbhejifllgnliaaGreatDoor.Ab
open Go Go.RowKit Go.Proofs.YtbhejifllgnliaaGreatDoorW.PrintWords
set_option linter.unusedSimpArgs false
set_option linter.unusedVariables false
set_option maxRecDepth 100000
theorem dom_pre {l : List Int} (h : domL l = true) : pre [91] l = litL l := by
  simp only [domL, Bool.and_eq_true, Bool.or_eq_true] at h
  cases l with
  | nil => simp [pre, litL]
  | cons x l =>
    have hp : pre [91] (x :: l) = decide (x = 91) := by simp [pre]
    rw [hp]
    by_cases hx : x = 91
    · subst hx
      rcases h.2 with h2 | h2
      · rw [h2]; rfl
      · rcases spl_mem 46 (91 :: l) [] 91 (by simp) with h3 | ⟨w, hw, hm⟩
        · cases h3
        · have := List.all_eq_true.1 h2 w hw
          simp only [labL, Bool.and_eq_true] at this
          have := List.all_eq_true.1 this.1.1.2 91 hm
          exact absurd this (by decide)
    · have : litL (x :: l) = false := by
        simp only [litL, List.head?_cons]
        have : (some x == some (91 : Int)) = false := by simpa using hx
        rw [this]; simp
      rw [this]; simpa using hx
theorem rcsP_all : ∀ {l p : List Rc}, rcsP p l = true → ∀ r ∈ l, rcP r = true
  | [], _, _, r, hr => by cases hr
  | q :: l, p, h, r, hr => by
    simp only [rcsP, Bool.and_eq_true] at h
    rcases List.mem_cons.1 hr with rfl | hr
    · exact h.1.1
    · exact rcsP_all h.2 r hr
theorem tell_ok {m : Md} {h : ByteArray} (hm : mailP m.ml = true) (hw : wtSmall m) (hh : h.size ≤ big) : TellOK m h := by
  simp only [mailP, Bool.and_eq_true] at hm
  refine ⟨?_, hw.2.2.1, hw.2.2.2.1, hh, fun r hr => ⟨(hw.2.2.2.2 r hr).1, (hw.2.2.2.2 r hr).2, ?_⟩⟩
  · have h1 : m.ml.rc.length = m.rc.length := List.length_map _
    have := hm.1.1.1.1.2
    simp only [h1] at this
    simp at this
    omega
  · have := rcsP_all hm.1.2 (rcOf r) (List.mem_map.2 ⟨r, hr, rfl⟩)
    simp only [rcP, Bool.and_eq_true, decide_eq_true_eq] at this
    exact this.2
/-- Whether there is a telling at all. -/
def mayMake (m : Md) (h : ByteArray) (n : Int) : Bool := mailP m.ml && (domL (bl h) && !litL (bl h)) && (decide (0 ≤ n) && decide (n ≤ 1099511627776))
def Γ11 : Sems := ext 41 s41 (ext 40 u40 (ext 39 s39 (ext 38 s38 (ext 37 s37 Γ0))))
theorem Γ11.ok : SemsOK Gr Go.Proofs.Tryz.prog Γ11 := ((((Γ0.ok.ext Go.Proofs.Tryz.func37 rfl (by decide) ok37).ext Go.Proofs.Tryz.func38 rfl (by decide) ok38).ext Go.Proofs.Tryz.func39 rfl (by decide) ok39).ext Go.Proofs.Tryz.func40 rfl (by decide) uk40).ext Go.Proofs.Tryz.func41 rfl (by decide) ok41
def s11 : Sense := ⟨false, fun os xs K => ∃ (m : Md) (c : C) (h : ByteArray) (n : Int), xs = [.agg (m.cs c), .one (.str h), .one (.int .i64 n)] ∧ RcIn 0 m.rc c os ∧ m.sml ∧ wtSmall m ∧ h.size ≤ mid ∧
  (mayMake m h n = false → K os (.ret (.tup [.agg (md0.cs .nil), .one (.int .i64 1)]))) ∧
  (mayMake m h n = true → (m.nul || !m.rc.any fld) = true → K os (.ret (.tup [.agg (md0.cs .nil), .one (.int .i64 3)]))) ∧
  (mayMake m h n = true → (m.nul || !m.rc.any fld) = false → ∀ t, bl t = mkT m (bl h) → ∀ mv, K (os ++ [.own 45 RT (made m n t).rc true mv]) (.ret (.tup [.agg ((made m n t).cs (.own os.length)), .one (.int .i64 0)])))⟩
set_option maxHeartbeats 32000000 in
theorem ok11 : SenseOK Gr Go.Proofs.Tryz.prog 11 s11 := SenseOK.any Γ11.ok (fun _ => []) Go.Proofs.Tryz.func11 fun os xs K h => by
  obtain ⟨m, c, h, n, rfl, ha, hs, hw, hh, hk0, hk1, hk2⟩ := h
  have hf : m.rc.any (isO 3) = m.rc.any fld := rfl
  have ha' := ha
  rcases ha with ⟨hc, ho⟩ | ⟨hc, ho, ha0⟩ | ⟨ap, hc, ho⟩
  all_goals
    rw [hc, ho]
    rw [ho] at hk0 hk1 hk2
    ((conv => whnf); repeat ((first | refine Br.t ?_ | refine Br.f ?_ | refine ob ?_ | refine ⟨_, rfl, ?_⟩ | refine ⟨_, _, rfl, ?_⟩ | refine ⟨_, _, _, rfl, ?_⟩ | refine ⟨_, _, _, _, rfl, ?_⟩ | simp only []); (conv => whnf)))
    refine ⟨by first | exact .inl ⟨rfl, rfl⟩ | exact .inr (.inl ⟨rfl, rfl, ha0⟩) | exact .inr (.inr ⟨ap, rfl, rfl⟩), hs, ?_⟩
    cases e1 : mailP m.ml with
    | false =>
      have hb : mayMake m h n = false := by rw [mayMake, e1]; rfl
      ((conv => whnf); repeat ((first | refine Br.t ?_ | refine Br.f ?_ | refine ob ?_ | refine ⟨_, rfl, ?_⟩ | refine ⟨_, _, rfl, ?_⟩ | refine ⟨_, _, _, rfl, ?_⟩ | refine ⟨_, _, _, _, rfl, ?_⟩ | simp only [e1]); (conv => whnf)))
      exact hk0 hb
    | true =>
    ((conv => whnf); repeat ((first | refine Br.t ?_ | refine Br.f ?_ | refine ob ?_ | refine ⟨_, rfl, ?_⟩ | refine ⟨_, _, rfl, ?_⟩ | refine ⟨_, _, _, rfl, ?_⟩ | refine ⟨_, _, _, _, rfl, ?_⟩ | simp only [e1]); (conv => whnf)))
    cases e2 : domL (bl h) with
    | false =>
      have hb : mayMake m h n = false := by rw [mayMake, e1, e2]; rfl
      ((conv => whnf); repeat ((first | refine Br.t ?_ | refine Br.f ?_ | refine ob ?_ | refine ⟨_, rfl, ?_⟩ | refine ⟨_, _, rfl, ?_⟩ | refine ⟨_, _, _, rfl, ?_⟩ | refine ⟨_, _, _, _, rfl, ?_⟩ | simp only [e1, e2]); (conv => whnf)))
      exact hk0 hb
    | true =>
    have hpl := dom_pre e2
    ((conv => whnf); repeat ((first | refine Br.t ?_ | refine Br.f ?_ | refine ob ?_ | refine ⟨_, rfl, ?_⟩ | refine ⟨_, _, rfl, ?_⟩ | refine ⟨_, _, _, rfl, ?_⟩ | refine ⟨_, _, _, _, rfl, ?_⟩ | simp only [e1, e2]); (conv => whnf)))
    cases e3 : pre [91] (bl h) with
    | true =>
      have hb : mayMake m h n = false := by rw [mayMake, e1, e2, ← hpl, e3]; rfl
      ((conv => whnf); repeat ((first | refine Br.t ?_ | refine Br.f ?_ | refine ob ?_ | refine ⟨_, rfl, ?_⟩ | refine ⟨_, _, rfl, ?_⟩ | refine ⟨_, _, _, rfl, ?_⟩ | refine ⟨_, _, _, _, rfl, ?_⟩ | simp only [e1, e2, e3]); (conv => whnf)))
      exact hk0 hb
    | false =>
    by_cases g4 : n < 0
    · have e4 : decide (n < 0) = true := decide_eq_true g4
      have hb : mayMake m h n = false := by
        have : decide (0 ≤ n) = false := by simpa using g4
        rw [mayMake, this]; simp
      ((conv => whnf); repeat ((first | refine Br.t ?_ | refine Br.f ?_ | refine ob ?_ | refine ⟨_, rfl, ?_⟩ | refine ⟨_, _, rfl, ?_⟩ | refine ⟨_, _, _, rfl, ?_⟩ | refine ⟨_, _, _, _, rfl, ?_⟩ | simp only [e1, e2, e3, e4]); (conv => whnf)))
      exact hk0 hb
    have e4 : decide (n < 0) = false := decide_eq_false g4
    by_cases g5 : n > 1099511627776
    · have e5 : decide (n > 1099511627776) = true := decide_eq_true g5
      have hb : mayMake m h n = false := by
        have : decide (n ≤ 1099511627776) = false := by simpa using g5
        rw [mayMake, this]; simp
      ((conv => whnf); repeat ((first | refine Br.t ?_ | refine Br.f ?_ | refine ob ?_ | refine ⟨_, rfl, ?_⟩ | refine ⟨_, _, rfl, ?_⟩ | refine ⟨_, _, _, rfl, ?_⟩ | refine ⟨_, _, _, _, rfl, ?_⟩ | simp only [e1, e2, e3, e4, e5]); (conv => whnf)))
      exact hk0 hb
    have e5 : decide (n > 1099511627776) = false := decide_eq_false g5
    have hb : mayMake m h n = true := by
      have h1 : decide (0 ≤ n) = true := by simp; omega
      have h2 : decide (n ≤ 1099511627776) = true := by simp; omega
      rw [mayMake, e1, e2, ← hpl, e3, h1, h2]; rfl
    ((conv => whnf); repeat ((first | refine Br.t ?_ | refine Br.f ?_ | refine ob ?_ | refine ⟨_, rfl, ?_⟩ | refine ⟨_, _, rfl, ?_⟩ | refine ⟨_, _, _, rfl, ?_⟩ | refine ⟨_, _, _, _, rfl, ?_⟩ | simp only [e1, e2, e3, e4, e5]); (conv => whnf)))
    cases e6 : m.nul with
    | true =>
      ((conv => whnf); repeat ((first | refine Br.t ?_ | refine Br.f ?_ | refine ob ?_ | refine ⟨_, rfl, ?_⟩ | refine ⟨_, _, rfl, ?_⟩ | refine ⟨_, _, _, rfl, ?_⟩ | refine ⟨_, _, _, _, rfl, ?_⟩ | simp only [e6]); (conv => whnf)))
      exact hk1 hb (by rw [e6]; rfl)
    | false =>
    ((conv => whnf); repeat ((first | refine Br.t ?_ | refine Br.f ?_ | refine ob ?_ | refine ⟨_, rfl, ?_⟩ | refine ⟨_, _, rfl, ?_⟩ | refine ⟨_, _, _, rfl, ?_⟩ | refine ⟨_, _, _, _, rfl, ?_⟩ | simp only [e6]); (conv => whnf)))
    refine ⟨3, { m with nul := false }, c, os, by rw [hc, ho]; rfl, ha', hw.1, ⟨true, by rw [ho]; rfl⟩, ?_⟩
    cases e7 : m.rc.any fld with
    | false =>
      have e7' : ({ m with nul := false } : Md).rc.any (isO 3) = false := e7
      ((conv => whnf); repeat ((first | refine Br.t ?_ | refine Br.f ?_ | refine ob ?_ | refine ⟨_, rfl, ?_⟩ | refine ⟨_, _, rfl, ?_⟩ | refine ⟨_, _, _, rfl, ?_⟩ | refine ⟨_, _, _, _, rfl, ?_⟩ | simp only [e6, e7']); (conv => whnf)))
      exact hk1 hb (by rw [e6, e7]; rfl)
    | true =>
    have e7' : ({ m with nul := false } : Md).rc.any (isO 3) = true := e7
    have hmm : mailP m.ml = true := e1
    have hT : TellOK m h := tell_ok hmm hw (by simp only [mid, big] at hh ⊢; omega)
    have hT2 : TellOK { m with nul := false } h := ⟨hT.rc, hT.fl, hT.fd, hT.h, hT.rs⟩
    ((conv => whnf); repeat ((first | refine Br.t ?_ | refine Br.f ?_ | refine ob ?_ | refine ⟨_, rfl, ?_⟩ | refine ⟨_, _, rfl, ?_⟩ | refine ⟨_, _, _, rfl, ?_⟩ | refine ⟨_, _, _, _, rfl, ?_⟩ | simp only [e6, e7']); (conv => whnf)))
    refine ⟨{ m with nul := false }, _, h, n, rfl, by first | exact .inl ⟨rfl, rfl⟩ | exact .inr (.inl ⟨rfl, rfl, ha0⟩) | exact .inr (.inr ⟨ap, rfl, rfl⟩), hT2, fun t ht mv => ?_⟩
    ((conv => whnf); repeat ((first | refine Br.t ?_ | refine Br.f ?_ | refine ob ?_ | refine ⟨_, rfl, ?_⟩ | refine ⟨_, _, rfl, ?_⟩ | refine ⟨_, _, _, rfl, ?_⟩ | refine ⟨_, _, _, _, rfl, ?_⟩ | simp only []); (conv => whnf)))
    exact hk2 hb (by rw [e6, e7]; rfl) t ht _
end Go.Proofs.YtbhejifllgnliaaGreatDoor.Ab
namespace Go.Proofs.YtbhejifllgnliaaGreatDoor.Ab
open Go Go.RowKit Go.Proofs.YtbhejifllgnliaaGreatDoorW.PrintWords
set_option linter.unusedSimpArgs false
set_option linter.unusedVariables false
set_option maxRecDepth 100000
variable {G : World → Prop}
def Γ9 : Sems := ext 35 s35 Γ0
theorem Γ9.ok : SemsOK G Go.Proofs.Tryz.prog Γ9 := Γ0.ok.ext Go.Proofs.Tryz.func35 rfl (by decide) ok35
/-- An ask's cells: a message, a host, a tick. -/
def askCs (m : Md) (c : C) (h : ByteArray) (n : Int) : List C := [.int .i64 m.id, .int .i64 m.te, .bool m.nul, .str m.fl, .str m.fd, c, .str m.body, .int .i64 m.born, .bool m.held, .bool m.told, .str h, .int .i64 n]
def s9 : Sense := ⟨false, fun os xs K => ∃ (m : Md) (c : C) (h : ByteArray) (n : Int), xs = [.agg (askCs m c h n)] ∧ RcIn 0 m.rc c os ∧ wtSmall m ∧ K os (.ret (.one (.bool (decide (wtM m > 6000) || decide ((h.size : Int) > 1000)))))⟩
set_option maxHeartbeats 8000000 in
theorem ok9 : SenseOK G Go.Proofs.Tryz.prog 9 s9 := SenseOK.any Γ9.ok (fun _ => []) Go.Proofs.Tryz.func9 fun os xs K h => by
  obtain ⟨m, c, h, n, rfl, ha, ⟨h1, h2, h3, h4, h5⟩, hk⟩ := h
  rcases ha with ⟨hc, ho⟩ | ⟨hc, ho, ha0⟩ | ⟨ap, hc, ho⟩
  all_goals
    rw [hc, ho]
    rw [ho] at hk
    ((conv => whnf); repeat ((first | refine Br.t ?_ | refine Br.f ?_ | refine ob ?_ | refine ⟨_, rfl, ?_⟩ | refine ⟨_, _, rfl, ?_⟩ | refine ⟨_, _, _, rfl, ?_⟩ | refine ⟨_, _, _, _, rfl, ?_⟩ | simp only []); (conv => whnf)))
    refine ⟨by first | exact .inl ⟨rfl, rfl⟩ | exact .inr (.inl ⟨rfl, rfl, ha0⟩) | exact .inr (.inr ⟨ap, rfl, rfl⟩), h1, h2, h3, h4, h5, ?_⟩
    cases e1 : decide (wtM m > 6000) with
    | true =>
      rw [e1] at hk
      ((conv => whnf); repeat ((first | refine Br.t ?_ | refine Br.f ?_ | refine ob ?_ | refine ⟨_, rfl, ?_⟩ | refine ⟨_, _, rfl, ?_⟩ | refine ⟨_, _, _, rfl, ?_⟩ | refine ⟨_, _, _, _, rfl, ?_⟩ | simp only [e1]); (conv => whnf)))
      exact hk
    | false =>
      rw [e1] at hk
      ((conv => whnf); repeat ((first | refine Br.t ?_ | refine Br.f ?_ | refine ob ?_ | refine ⟨_, rfl, ?_⟩ | refine ⟨_, _, rfl, ?_⟩ | refine ⟨_, _, _, rfl, ?_⟩ | refine ⟨_, _, _, _, rfl, ?_⟩ | simp only [e1]); (conv => whnf)))
      exact hk
end Go.Proofs.YtbhejifllgnliaaGreatDoor.Ab
namespace Go.Proofs.YtbhejifllgnliaaGreatDoor.Ab
open Go Go.RowKit Go.Proofs.YtbhejifllgnliaaGreatDoorW.PrintWords
set_option linter.unusedSimpArgs false
set_option linter.unusedVariables false
set_option maxRecDepth 100000
def Γ17 : Sems := ext 14 sNum (ext 11 s11 (ext 19 s19 Γ0))
theorem Γ17.ok : SemsOK Gr Go.Proofs.Tryz.prog Γ17 := ((Γ0.ok.ext Go.Proofs.Tryz.func19 rfl (by decide) ok19).ext Go.Proofs.Tryz.func11 rfl (by decide) ok11).ext Go.Proofs.Tryz.func14 rfl (by decide) ok14
/-- A message one of whose recipients failed. -/
def mF : Md := { mM with rc := [((bA, bX), (3, (0, (0, 0))))] }
theorem mF_P : mayMake mF ⟨#[104]⟩ 5 = true := by decide +kernel
theorem mF_any : (mF.nul || !mF.rc.any fld) = false := by decide
set_option maxHeartbeats 16000000 in
theorem ok17 : SenseOK Gr Go.Proofs.Tryz.prog 17 sTrue := SenseOK.any Γ17.ok (fun _ => []) Go.Proofs.Tryz.func17 fun os xs K h => by
  obtain ⟨rfl, rfl, hk⟩ := h
  ((conv => whnf); repeat ((first | refine Br.t ?_ | refine Br.f ?_ | refine ob ?_ | refine ⟨_, rfl, ?_⟩ | refine ⟨_, _, rfl, ?_⟩ | refine ⟨_, _, _, rfl, ?_⟩ | refine ⟨_, _, _, _, rfl, ?_⟩); (conv => whnf)))
  intro mv
  ((conv => whnf); repeat ((first | refine Br.t ?_ | refine Br.f ?_ | refine ob ?_ | refine ⟨_, rfl, ?_⟩ | refine ⟨_, _, rfl, ?_⟩ | refine ⟨_, _, _, rfl, ?_⟩ | refine ⟨_, _, _, _, rfl, ?_⟩); (conv => whnf)))
  refine ⟨⟨by decide, by decide⟩, ?_⟩
  ((conv => whnf); repeat ((first | refine Br.t ?_ | refine Br.f ?_ | refine ob ?_); (conv => whnf)))
  refine ⟨mF, .own 0, ⟨#[104]⟩, 5, rfl, .inr (.inr ⟨true, rfl, rfl⟩), ?_, ?_, by decide, fun h0 => absurd (h0.symm.trans mF_P) (by simp), fun _ h0 => absurd (h0.symm.trans mF_any) (by simp), fun _ _ t ht mv2 => ?_⟩
  · exact ⟨by decide, fun r hr => by simp [mF] at hr; subst hr; simp [small, bA, bX, mid, ByteArray.size], by decide⟩
  · exact ⟨by decide, by decide, by decide, by decide, fun r hr => by simp [mF] at hr; subst hr; simp [bA, bX, big, ByteArray.size]⟩
  ((conv => whnf); repeat ((first | refine Br.t ?_ | refine Br.f ?_ | refine ob ?_ | refine ⟨_, rfl, ?_⟩ | refine ⟨_, _, rfl, ?_⟩ | refine ⟨_, _, _, rfl, ?_⟩ | refine ⟨_, _, _, _, rfl, ?_⟩); (conv => whnf)))
  refine ⟨[], (.take 0 (.br 1 (.take 2 (.take 3 (.take 4 (.take 5 (.take 6 (.take 7 (.take 8 (.take 9 (.take 10 (.take 11 (.take 12 (.take 13 (.take 14 (.take 15 (.take 16 (.take 17 (.take 18 (.take 19 (.take 20 (.take 21 (.take 22 (.take 23 (.take 24 (.take 25 (.take 26 (.take 27 (.take 28 .done))))))))))))))))))))))))))) .nil)), by kernel_rfl, ?_⟩
  ((conv => whnf); repeat ((first | refine Br.t ?_ | refine Br.f ?_ | refine ob ?_ | refine ⟨_, rfl, ?_⟩ | refine ⟨_, _, rfl, ?_⟩ | refine ⟨_, _, _, rfl, ?_⟩ | refine ⟨_, _, _, _, rfl, ?_⟩); (conv => whnf)))
  refine ⟨⟨by decide, by simp [made]⟩, ?_⟩
  have hq : (ByteArray.toList (rdx (made mF 5 t).rc (Int.toNat 0) RT.dflt).fst.fst == mM.fl.toList && (ByteArray.toList (rdx (made mF 5 t).rc (Int.toNat 0) RT.dflt).fst.snd == mM.fd.toList && true)) = true := by
    show (bA.toList == bA.toList && (bX.toList == bX.toList && true)) = true
    simp
  have he1 : (made mF 5 t).nul = true := rfl
  have he2 : (((made mF 5 t).rc.length : Int) == 1) = true := rfl
  have he3 : ((0 : Int) == 0) = true := rfl
  ((conv => whnf); repeat ((first | refine Br.t ?_ | refine Br.f ?_ | refine ob ?_ | refine ⟨_, rfl, ?_⟩ | refine ⟨_, _, rfl, ?_⟩ | refine ⟨_, _, _, rfl, ?_⟩ | refine ⟨_, _, _, _, rfl, ?_⟩ | simp only [hq, he1, he2, he3]); (conv => whnf)))
  exact hk
end Go.Proofs.YtbhejifllgnliaaGreatDoor.Ab
namespace Go.Proofs.YtbhejifllgnliaaGreatDoor.Ab
open Go Go.RowKit Go.Proofs.YtbhejifllgnliaaGreatDoorW.PrintWords
set_option linter.unusedSimpArgs false
set_option linter.unusedVariables false
set_option maxRecDepth 100000
abbrev AskT : Ty := .pair MT (.pair .str (.int .i64))
def Γ3 : Sems := ext 17 sTrue (ext 16 s16 (ext 15 s15 (ext 14 sNum (ext 13 s13 (ext 12 s12 (ext 11 s11 (ext 10 s10 (ext 9 s9 Γ0))))))))
theorem Γ3.ok : SemsOK Gr Go.Proofs.Tryz.prog Γ3 := ((((((((Γ0.ok.ext Go.Proofs.Tryz.func9 rfl (by decide) ok9).ext Go.Proofs.Tryz.func10 rfl (by decide) ok10).ext Go.Proofs.Tryz.func11 rfl (by decide) ok11).ext Go.Proofs.Tryz.func12 rfl (by decide) ok12).ext Go.Proofs.Tryz.func13 rfl (by decide) ok13).ext Go.Proofs.Tryz.func14 rfl (by decide) ok14).ext Go.Proofs.Tryz.func15 rfl (by decide) ok15).ext Go.Proofs.Tryz.func16 rfl (by decide) ok16).ext Go.Proofs.Tryz.func17 rfl (by decide) ok17
end Go.Proofs.YtbhejifllgnliaaGreatDoor.Ab
namespace Go.Proofs.YtbhejifllgnliaaGreatDoor.Ab
open Go Go.RowKit Go.Proofs.YtbhejifllgnliaaGreatDoorW.PrintWords
set_option linter.unusedSimpArgs false
set_option linter.unusedVariables false
set_option maxRecDepth 100000
/-- The recipients that the law makes: c: how long its input is. -/
def rcAt (c i : Nat) : RT.den := ((strOfNums [112 + (i : Int)], ⟨#[121]⟩), (((i + c) % 5 : Nat), (0, (0, 500 + (i : Int)))))
def rcN (c : Nat) : Nat → List RT.den
  | 0 => []
  | j + 1 => rcN c j ++ [rcAt c j]
theorem rcN_len (c : Nat) : ∀ j, (rcN c j).length = j
  | 0 => rfl
  | j + 1 => by rw [rcN, List.length_append, rcN_len c j]; rfl
theorem rcAt_mod (c i : Nat) : rcAt c i = rcAt (c % 5) i := by
  have : (i + c) % 5 = (i + c % 5) % 5 := by omega
  rw [rcAt, rcAt, this]
theorem rcN_mod (c : Nat) : ∀ j, rcN c j = rcN (c % 5) j
  | 0 => rfl
  | j + 1 => by rw [rcN, rcN, rcN_mod c j, rcAt_mod]
abbrev hxB : ByteArray := ⟨#[104, 46, 120]⟩
def mN (c : Nat) : Md := { mM with rc := rcN c 8 }
theorem mN_may (c : Nat) : mayMake (mN c) hxB 9 = true := by
  have : ∀ r : Fin 5, mayMake (mN r.1) hxB 9 = true := by decide +kernel
  have h := this ⟨c % 5, Nat.mod_lt _ (by decide)⟩
  rw [mN, rcN_mod]
  exact h
theorem mN_any (c : Nat) : ((mN c).nul || !(mN c).rc.any fld) = false := by
  have : ∀ r : Fin 5, ((mN r.1).nul || !(mN r.1).rc.any fld) = false := by decide +kernel
  have h := this ⟨c % 5, Nat.mod_lt _ (by decide)⟩
  rw [mN, rcN_mod]
  exact h
theorem mN_small (c : Nat) : wtSmall (mN c) := by
  have : ∀ r : Fin 5, (mN r.1).rc.all (fun r => decide (r.1.1.size ≤ 1) && decide (r.1.2.size ≤ 1)) = true := by decide +kernel
  have h := this ⟨c % 5, Nat.mod_lt _ (by decide)⟩
  refine ⟨?_, by show (0 : Nat) ≤ big; decide, by show bA.size ≤ big; decide, by show bX.size ≤ big; decide, fun r hr => ?_⟩
  · show (rcN c 8).length ≤ big
    rw [rcN_len]; decide
  · have hr2 : r ∈ (mN (c % 5)).rc := by
      show r ∈ rcN (c % 5) 8
      rw [← rcN_mod]; exact hr
    have := List.all_eq_true.1 h r hr2
    simp only [Bool.and_eq_true, decide_eq_true_eq] at this
    exact ⟨Nat.le_trans this.1 (by decide), Nat.le_trans this.2 (by decide)⟩
theorem mN_sml (c : Nat) : (mN c).sml := by
  have h := mN_small c
  have : ∀ r : Fin 5, (mN r.1).rc.all (fun r => decide (r.1.1.size + r.1.2.size ≤ 2)) = true := by decide +kernel
  have h1 := this ⟨c % 5, Nat.mod_lt _ (by decide)⟩
  refine ⟨by show bA.size + bX.size < mid; decide, fun r hr => ?_, h.1⟩
  have hr2 : r ∈ (mN (c % 5)).rc := by
    show r ∈ rcN (c % 5) 8
    rw [← rcN_mod]; exact hr
  have := List.all_eq_true.1 h1 r hr2
  simp only [decide_eq_true_eq] at this
  simp only [small, mid]; omega
end Go.Proofs.YtbhejifllgnliaaGreatDoor.Ab
namespace Go.Proofs.YtbhejifllgnliaaGreatDoor.Ab
open Go Go.RowKit Go.Proofs.YtbhejifllgnliaaGreatDoorW.PrintWords
set_option linter.unusedSimpArgs false
set_option linter.unusedVariables false
set_option maxRecDepth 100000
def Γ5 : Sems := ext 17 sTrue (ext 14 sNum (ext 11 s11 (ext 20 s20 (ext 19 s19 Γ0))))
theorem Γ5.ok : SemsOK Gr Go.Proofs.Tryz.prog Γ5 := ((((Γ0.ok.ext Go.Proofs.Tryz.func19 rfl (by decide) ok19).ext Go.Proofs.Tryz.func20 rfl (by decide) ok20).ext Go.Proofs.Tryz.func11 rfl (by decide) ok11).ext Go.Proofs.Tryz.func14 rfl (by decide) ok14).ext Go.Proofs.Tryz.func17 rfl (by decide) ok17
def wantL (c j : Nat) : List Int := hdT [104, 46, 120] (bl bA) (bl bX) ++ (rcN c j).flatMap rowT
theorem want_next (c j : Nat) : wantL c (j + 1) = wantL c j ++ rowT (rcAt c j) := by simp [wantL, rcN]
/-- The machine's sums. -/
theorem st_mod (c j : Nat) (h : c + j < 4611686018427387904) : ((j : Int) + c).tmod 5 = (((j + c) % 5 : Nat) : Int) := by
  rw [Int.tmod_eq_emod_of_nonneg (by omega)]; omega
theorem dec8 : ∀ j : Fin 8, decL (500 + j.1) = 53 :: 48 :: decL j.1 := by decide +kernel
theorem row_is (c j : Nat) (hj : j < 8) : rowT (rcAt c j) = bif ((j + c) % 5 == 3) then [112 + (j : Int)] ++ [64, 121, 58, 32, 53, 48] ++ decL j ++ [13, 10] else [] := by
  have hf : fld (rcAt c j) = ((j + c) % 5 == 3) := by
    show ((((j + c) % 5 : Nat) : Int) == 3) = _
    rw [Bool.eq_iff_iff]; simp; omega
  rw [rowT, hf]
  cases ((j + c) % 5 == 3) with
  | false => rfl
  | true =>
    have h1 : bl (rcAt c j).1.1 = [112 + (j : Int)] := bl_nums _ fun x hx => by rw [List.mem_singleton] at hx; omega
    have h2 : bl (rcAt c j).1.2 = [121] := rfl
    have h3 : ((rcAt c j).2.2.2.2 : Int).toNat = 500 + j := by
      show ((500 : Int) + (j : Int)).toNat = _
      omega
    rw [cond_true, cond_true, h1, h2, h3, dec8 ⟨j, hj⟩]
    simp
def s5 : Sense := ⟨false, fun os xs K => ∃ (l : List AskT.den), xs = [.one (.sl AskT l)] ∧ os = [] ∧ l.length ≤ huge ∧ K [] (.ret (.one (.bool true)))⟩
set_option maxHeartbeats 64000000 in
theorem ok5 : SenseOK Gr Go.Proofs.Tryz.prog 5 s5 := SenseOK.any Γ5.ok (fun _ => [0, 3, 4, 5]) Go.Proofs.Tryz.func5 fun os xs K h => by
  obtain ⟨l, rfl, rfl, hl, hk⟩ := h
  simp only [huge] at hl
  ((conv => whnf); repeat ((first | refine Br.t ?_ | refine Br.f ?_ | refine ob ?_ | refine ⟨_, rfl, ?_⟩ | refine ⟨_, _, rfl, ?_⟩ | refine ⟨_, _, _, rfl, ?_⟩ | refine ⟨_, _, _, _, rfl, ?_⟩); (conv => whnf)))
  intro mv
  ((conv => whnf); repeat ((first | refine Br.t ?_ | refine Br.f ?_ | refine ob ?_ | refine ⟨_, rfl, ?_⟩ | refine ⟨_, _, rfl, ?_⟩ | refine ⟨_, _, _, rfl, ?_⟩ | refine ⟨_, _, _, _, rfl, ?_⟩); (conv => whnf)))
  refine iter_of (I := fun k σ => ∃ (j : Nat) (t : ByteArray), k = 8 - j ∧ j ≤ 8 ∧ t.size ≤ 1000 + 1000 * j ∧ bl t = wantL l.length j ∧ ((j = 0 ∧ σ = ⟨slots 64 [(0, .one (.sl AskT l)), (3, .one (.ref 0 0)), (4, .one (.str t)), (5, .one (.int .i64 j))], [.box 27 (mM.cs .nil)]⟩) ∨
    (0 < j ∧ ∃ mv, σ = ⟨slots 64 [(0, .one (.sl AskT l)), (3, .one (.ref 0 0)), (4, .one (.str t)), (5, .one (.int .i64 j))], [.box 27 (mM.cs (.own 1)), .own 45 RT (rcN l.length j) true mv]⟩))) ?_ 8 ⟨0, _, by omega, by omega, by decide, by rfl, .inl ⟨rfl, rfl⟩⟩
  rintro k σ K' ⟨j, t, rfl, hj, hts, htw, hσ⟩ hK'
  have w1 := IntWalk.i64_in ((j : Int) + 1) (by omega)
  have w2 : IntKind.u8.wrap (IntKind.i64.wrap (112 + (j : Int))) = 112 + j := by
    rw [IntWalk.i64_in _ (by omega)]
    rw [show ((112 : Int) + (j : Int)) = ((112 + j : Nat) : Int) by omega]
    have : ∀ k : Fin 9, IntKind.u8.wrap ((112 + k.1 : Nat) : Int) = ((112 + k.1 : Nat) : Int) := by decide
    exact this ⟨j, by omega⟩
  have w3 := IntWalk.i64_in ((j : Int) + l.length) (by omega)
  have w4 := IntWalk.i64_in (((j : Int) + l.length).tmod 5) (by rw [st_mod _ _ (by omega)]; omega)
  have w5 := st_mod l.length j (by omega)
  have w6 := IntWalk.i64_in (500 + (j : Int)) (by omega)
  have hln := rcN_len l.length j
  by_cases h1 : j < 8
  case neg =>
    obtain rfl : j = 8 := by omega
    rcases hσ with ⟨h0, _⟩ | ⟨_, mv2, rfl⟩
    · cases h0
    have hmm : ∀ cc : C, mM.cs cc = (mN l.length).cs cc := fun _ => rfl
    ((conv => whnf); repeat ((first | refine Br.t ?_ | refine Br.f ?_ | refine ob ?_); (conv => whnf)))
    refine ⟨mN l.length, .own 0, hxB, 9, rfl, .inr (.inr ⟨true, rfl, rfl⟩), mN_sml _, mN_small _, by decide, fun h0 => absurd (h0.symm.trans (mN_may _)) (by simp), fun _ h0 => absurd (h0.symm.trans (mN_any _)) (by simp), fun _ _ b hb2 mv3 => ?_⟩
    have hbt : b = t := bl_inj (by rw [hb2, htw]; rfl)
    subst hbt
    have hq : ((made (mN l.length) 9 b).body.toList == b.toList) = true := by
      show (b.toList == b.toList) = true
      simp
    have he0 : ((0 : Int) == 0) = true := rfl
    ((conv => whnf); repeat ((first | refine Br.t ?_ | refine Br.f ?_ | refine ob ?_ | refine ⟨_, rfl, ?_⟩ | refine ⟨_, _, rfl, ?_⟩ | refine ⟨_, _, _, rfl, ?_⟩ | refine ⟨_, _, _, _, rfl, ?_⟩ | simp only [hq, he0]); (conv => whnf)))
    exact hk
  have f1 : decide ((j : Int) < 8) = true := by simp; omega
  have hnx := want_next l.length j
  have y1 : (⟨#[64, 121, 58, 32, 53, 48]⟩ : ByteArray).size = 6 := rfl
  have y2 : (⟨#[13, 10]⟩ : ByteArray).size = 2 := rfl
  have y3 : bl (strOfNums [112 + (j : Int)]) = [112 + (j : Int)] := bl_nums _ fun x hx => by rw [List.mem_singleton] at hx; omega
  have y4 : (strOfNums [112 + (j : Int)]).size = 1 := by rw [← bl_len, y3]; rfl
  have hrow := row_is l.length j h1
  have o1 : t.size + (strOfNums [112 + (j : Int)]).size ≤ 9223372036854775807 := by rw [y4]; omega
  have o2 : (t ++ strOfNums [112 + (j : Int)]).size + (⟨#[64, 121, 58, 32, 53, 48]⟩ : ByteArray).size ≤ 9223372036854775807 := by rw [ByteArray.size_append, y4, y1]; omega
  have fin : ∀ d : ByteArray, bl d = decL j → (t ++ strOfNums [112 + (j : Int)] ++ ⟨#[64, 121, 58, 32, 53, 48]⟩).size + d.size ≤ 9223372036854775807 ∧ (t ++ strOfNums [112 + (j : Int)] ++ ⟨#[64, 121, 58, 32, 53, 48]⟩ ++ d).size + (⟨#[13, 10]⟩ : ByteArray).size ≤ 9223372036854775807 ∧ (t ++ strOfNums [112 + (j : Int)] ++ ⟨#[64, 121, 58, 32, 53, 48]⟩ ++ d ++ ⟨#[13, 10]⟩).size ≤ 1000 + 1000 * (j + 1) ∧
      (((j + l.length) % 5 == 3) = true → bl (t ++ strOfNums [112 + (j : Int)] ++ ⟨#[64, 121, 58, 32, 53, 48]⟩ ++ d ++ ⟨#[13, 10]⟩) = wantL l.length (j + 1)) := fun d hd => by
    have hds : d.size ≤ 9 := by
      have := decL_len j
      rw [← hd, bl_len] at this
      omega
    refine ⟨by rw [ByteArray.size_append, ByteArray.size_append, y4, y1]; omega, by rw [ByteArray.size_append, ByteArray.size_append, ByteArray.size_append, y4, y1, y2]; omega, by rw [ByteArray.size_append, ByteArray.size_append, ByteArray.size_append, ByteArray.size_append, y4, y1, y2]; omega, fun hg => ?_⟩
    rw [hnx, hrow, hg, bl_append, bl_append, bl_append, bl_append, htw, y3, hd, cond_true]
    have q1 : bl (⟨#[64, 121, 58, 32, 53, 48]⟩ : ByteArray) = [64, 121, 58, 32, 53, 48] := rfl
    have q2 : bl (⟨#[13, 10]⟩ : ByteArray) = [13, 10] := rfl
    rw [q1, q2]
    simp only [List.append_assoc]
  have hno : ((j + l.length) % 5 == 3) = false → bl t = wantL l.length (j + 1) := fun hg => by rw [hnx, hrow, hg, cond_false, List.append_nil, htw]
  have hgi : ((((j + l.length) % 5 : Nat) : Int) == 3) = ((j + l.length) % 5 == 3) := by rw [Bool.eq_iff_iff]; simp; omega
  rcases hσ with ⟨hj0, rfl⟩ | ⟨hj0, mv2, rfl⟩
  · have hr0 : rcN l.length j = [] := by rw [hj0]; rfl
    cases hg : ((j + l.length) % 5 == 3) with
    | false =>
      have hg' := hgi.trans hg
      ((conv => whnf); repeat ((first | refine Br.t ?_ | refine Br.f ?_ | refine ob ?_ | refine ⟨_, rfl, ?_⟩ | refine ⟨_, _, rfl, ?_⟩ | refine ⟨_, _, _, rfl, ?_⟩ | refine ⟨_, _, _, _, rfl, ?_⟩ | simp only [f1, w2, w3, w5, w6, hg', w1]); (conv => whnf)))
      refine hK' _ _ (by omega) ⟨j + 1, t, rfl, by omega, by omega, hno hg, .inr ⟨by omega, false, ?_⟩⟩
      rw [rcN, hr0]
      rfl
    | true =>
      have hg' := hgi.trans hg
      ((conv => whnf); repeat ((first | refine Br.t ?_ | refine Br.f ?_ | refine ob ?_ | refine ⟨_, rfl, ?_⟩ | refine ⟨_, _, rfl, ?_⟩ | refine ⟨_, _, _, rfl, ?_⟩ | refine ⟨_, _, _, _, rfl, ?_⟩ | simp only [f1, w2, w3, w5, w6, hg']); (conv => whnf)))
      intro d hd
      obtain ⟨p1, p2, p3, p4⟩ := fin d hd
      ((conv => whnf); repeat ((first | refine Br.t ?_ | refine Br.f ?_ | refine ob ?_ | refine ⟨_, rfl, ?_⟩ | refine ⟨_, _, rfl, ?_⟩ | refine ⟨_, _, _, rfl, ?_⟩ | refine ⟨_, _, _, _, rfl, ?_⟩ | simp only [w1]); (conv => whnf)))
      refine hK' _ _ (by omega) ⟨j + 1, _, rfl, by omega, p3, p4 hg, .inr ⟨by omega, false, ?_⟩⟩
      rw [rcN, hr0]
      rfl
  · cases hg : ((j + l.length) % 5 == 3) with
    | false =>
      have hg' := hgi.trans hg
      ((conv => whnf); repeat ((first | refine Br.t ?_ | refine Br.f ?_ | refine ob ?_ | refine ⟨_, rfl, ?_⟩ | refine ⟨_, _, rfl, ?_⟩ | refine ⟨_, _, _, rfl, ?_⟩ | refine ⟨_, _, _, _, rfl, ?_⟩ | simp only [f1, w2, w3, w5, w6, hg', w1]); (conv => whnf)))
      exact hK' _ _ (by omega) ⟨j + 1, t, rfl, by omega, by omega, hno hg, .inr ⟨by omega, _, rfl⟩⟩
    | true =>
      have hg' := hgi.trans hg
      ((conv => whnf); repeat ((first | refine Br.t ?_ | refine Br.f ?_ | refine ob ?_ | refine ⟨_, rfl, ?_⟩ | refine ⟨_, _, rfl, ?_⟩ | refine ⟨_, _, _, rfl, ?_⟩ | refine ⟨_, _, _, _, rfl, ?_⟩ | simp only [f1, w2, w3, w5, w6, hg']); (conv => whnf)))
      intro d hd
      obtain ⟨p1, p2, p3, p4⟩ := fin d hd
      ((conv => whnf); repeat ((first | refine Br.t ?_ | refine Br.f ?_ | refine ob ?_ | refine ⟨_, rfl, ?_⟩ | refine ⟨_, _, rfl, ?_⟩ | refine ⟨_, _, _, rfl, ?_⟩ | refine ⟨_, _, _, _, rfl, ?_⟩ | simp only [w1]); (conv => whnf)))
      exact hK' _ _ (by omega) ⟨j + 1, _, rfl, by omega, p3, p4 hg, .inr ⟨by omega, _, rfl⟩⟩
end Go.Proofs.YtbhejifllgnliaaGreatDoor.Ab
namespace Go.Proofs.YtbhejifllgnliaaGreatDoor.Ab
open Go Go.RowKit Go.Proofs.YtbhejifllgnliaaGreatDoorW.PrintWords
set_option linter.unusedSimpArgs false
set_option linter.unusedVariables false
set_option maxRecDepth 100000
theorem opn9 : Opn Tryz.prog 9 .str (fun x => x.size ≤ 140737488351232) := Opn.string (by kernel_rfl) Tryz.underlying9
theorem opn3 : Opn Tryz.prog 3 (.int .i64) (fun x => (Lit.int .i64 x).wf = true) := Opn.int (by kernel_rfl) Tryz.underlying3
theorem opn4 : Opn Tryz.prog 4 .bool (fun _ => True) := Opn.bool (by kernel_rfl) Tryz.underlying4
theorem opn24 : Opn Tryz.prog 24 (.pair .str .str) (fun _ => True) := (Opn.struct (by kernel_rfl) Tryz.underlying24 (OpnFs.cons opn9 rfl (OpnFs.one opn9 rfl))).imp fun _ _ => trivial
theorem opn45 : Opn Tryz.prog 45 RT (fun _ => True) := (Opn.struct (by kernel_rfl) Tryz.underlying45 (OpnFs.cons opn24 rfl (OpnFs.cons opn3 rfl (OpnFs.cons opn3 rfl (OpnFs.cons opn3 rfl (OpnFs.one opn3 rfl)))))).imp fun _ _ => trivial
theorem opn25 : Opn Tryz.prog 25 (.slice 45 RT) (fun _ => True) := (Opn.slice (by kernel_rfl) Tryz.underlying25 opn45).imp fun _ _ => trivial
theorem opn27 : Opn Tryz.prog 27 MT (fun _ => True) := (Opn.struct (by kernel_rfl) Tryz.underlying27 (OpnFs.cons opn3 rfl (OpnFs.cons opn3 rfl (OpnFs.cons opn4 rfl (OpnFs.cons opn24 rfl (OpnFs.cons opn25 rfl (OpnFs.cons opn9 rfl (OpnFs.cons opn3 rfl (OpnFs.cons opn4 rfl (OpnFs.one opn4 rfl)))))))))).imp fun _ _ => trivial
theorem opn29 : Opn Tryz.prog 29 AskT (fun _ => True) := (Opn.struct (by kernel_rfl) Tryz.underlying29 (OpnFs.cons opn27 rfl (OpnFs.cons opn9 rfl (OpnFs.one opn3 rfl)))).imp fun _ _ => trivial
theorem opn22 : Opn Tryz.prog 22 (.slice 29 AskT) (fun l => l.length ≤ huge) :=
  (Opn.slice (by kernel_rfl) Tryz.underlying22 opn29).imp fun l h => Nat.le_trans (Nat.le_mul_of_pos_right _ (of_decide_eq_true (by kernel_rfl))) h.1
end Go.Proofs.YtbhejifllgnliaaGreatDoor.Ab
namespace Go.Proofs.YtbhejifllgnliaaGreatDoor.bounceNames
open Go Go.ChangeShapes Go.WideShapes Go.ChangeAt Go.RowKit Go.Proofs.YtbhejifllgnliaaGreatDoor.Ab
open Go.ChangeMaps (open_string shut_string)
set_option linter.unusedVariables false
set_option maxRecDepth 100000
theorem reads (os : Os) {H : Type} (enc : TypeId × Value → H) : ∃ places, DataW.whole enc Tryz.prog ((laidWorld os).forCall (fun _ _ => 0) ⟨#[], #[.slice none 0 0], []⟩).memory Tryz.f5.params.toList Rows.bounceNamesSpec.vars false #[Value.slice none 0 0].toList 8 = some ([.nil], [], places) :=
  ⟨[], by kernel_rfl⟩
theorem contract (H : Type) (enc : TypeId × Value → H) (W : World) (base : Nat) (args : Array Value) (ds gs : List (DataW H)) (before : List MemPlace)
    (hval0 : ∀ (j : Nat) t v, Tryz.f5.params[j]? = some t → args[j]? = some v → Value.okWide Tryz.prog W .any base t v)
    (hW : DataW.Whole enc Tryz.prog Tryz.f5.params.toList Rows.bounceNamesSpec.vars false W args.toList ds gs before)
    (hsz0 : (DataW.weightsEach Tryz.prog (Tryz.f5.params.toList ++ Rows.bounceNamesSpec.plain.varTypes Tryz.prog) (ds ++ gs)).all (· ≤ reachBytes) = true)
    (hL : laidMetH Tryz.prog Rows.bounceNamesRow.laid W) (hsh : W.ShapedOpen Tryz.prog) :
    Calls Tryz.prog 5 args W fun e W' => ∃ v, e = .returned v ∧ Rows.bounceNamesSpec.post enc Tryz.prog Tryz.f5 false true false false W args v W' := by
  have hval : ∀ (j : Nat) t v, Tryz.f5.params[j]? = some t → args[j]? = some v → Value.okWide Tryz.prog W .any base t v := hval0
  have hsz := hsz0
  have hW' := hW
  obtain ⟨p, q, hA0, hV, rfl, hfz, hnd⟩ := hW
  have hA : DataW.TrodAll enc Tryz.prog W 0 (fun _ => true) true Tryz.f5.params.toList args.toList ds p := hA0
  rw [Tryz.params5] at hA hval hsz
  obtain ⟨v0, vs0, d0, ds0, p0, q0, hargs, rfl, rfl, h0, r0⟩ := trodAll_cons hA
  obtain ⟨rfl, rfl, rfl⟩ := trodAll_nil r0
  obtain rfl : args = #[v0] := by cases args; simp_all
  obtain ⟨rfl, rfl⟩ := trodVars_none hV
  have k0 := h0
  have lt0 : ∀ x ∈ p0, x.block < W.heap.size := by obtain ⟨m, hm⟩ := k0; exact DataW.trod_lt m _ _ _ hm
  have hw0 : ∀ n ∈ d0.weights Tryz.prog 22, n ≤ reachBytes := fun n hn => by
    have := List.all_eq_true.1 hsz _ (DataW.weights_mem_each (j := 0) (t := 22) (d := d0) rfl rfl n hn)
    simpa using this
  obtain ⟨a0, len0, cap0, rfl⟩ := okWide_slice Tryz.underlying22 (hval 0 22 v0 rfl rfl)
  obtain ⟨fuel0, hf0⟩ := h0
  obtain ⟨x0, hT, hwf0⟩ := opn22.op hf0 hw0
  obtain ⟨A0, c0, hcs0, hle0, hC0⟩ := hT
  simp only [Value.cells, List.cons.injEq, Value.slice.injEq, and_true] at hcs0
  obtain ⟨rfl, rfl, rfl⟩ := hcs0
  refine (ok5.top (Gr.of_laid hsh hL).gnd (ags := [.one (.sl AskT x0)]) (vs := [.slice a0 x0.length cap0]) (K := fun o => o = .ret (.one (.bool true))) ⟨⟨a0, cap0, rfl, hle0, hC0⟩, trivial⟩ ⟨x0, rfl, rfl, hwf0, rfl, rfl⟩).mono ?_
  rintro e W' ⟨bel, out, rfl, v, rfl, rfl⟩
  exact ⟨_, rfl, _, _, _, [], _, [], hW', trodAll_mk1 (shut_bool Tryz.underlying4 _), (trodAll_cons_mk (Below.trod laidOut (by kernel_rfl) (of_decide_eq_true (by kernel_rfl)) k0 bel lt0) trodAll_mk0), rfl, bel.frame _, fun h => by cases h⟩
theorem lifted (os : Os) (started : os.Started) (H : Type) (enc : TypeId × Value → H) (F : Stop.Interp) :
    ReturnsInHanded {} Tryz.checked os 5 .any ((OpenSpec.ofChange Rows.bounceNamesSpec).preRow enc Tryz.prog Tryz.f5 Rows.bounceNamesRow.domain false Rows.bounceNamesRow.laid) (((OpenSpec.ofChange Rows.bounceNamesSpec).at F).post enc Tryz.prog Tryz.f5 false true false false) := by
  obtain ⟨places, hx⟩ := reads os enc
  refine returnsInHanded_of_row (C := Tryz.checked) (s := OpenSpec.ofChange Rows.bounceNamesSpec) own started (by kernel_rfl) Tryz.func5
    (witness_row_atRef (enc := enc) (C := Tryz.checked) false (laidWorld os) #[.slice none 0 0] rfl (by kernel_rfl) (by kernel_rfl) (by kernel_rfl)
      (OpenSpec.preRow_of_cond 8 hx (by kernel_rfl) (fun k hk => by cases hk) (by kernel_rfl) (door_met os _))) ?_
  intro W base args ds gs before hval hW _ _ hsz hL hsh _
  exact contract H enc W base args ds gs before hval hW hsz hL hsh
theorem said : Rows.BounceNamesSaid :=
  OpenClaim.holds_of_cond 5 Tryz.f5 rfl rfl rfl rfl rfl rfl rfl ⟨rfl, rfl, rfl, rfl, rfl⟩ rfl rfl rfl rfl rfl (by kernel_rfl) Tryz.func5 (by kernel_rfl)
    (of_decide_eq_true (by kernel_rfl)) (by unfold Func.isWrapper; first | (rw [if_pos (by decide +kernel)]; kernel_rfl) | (rw [if_neg (by decide +kernel)]; exact ⟨rfl, rfl⟩))
    (fun os started H enc _ F => by rw [OpenClaim.pre_eq_preRow]; exact lifted os started H enc F)
/-- No parameter wants a stand-in; the program's own looks are off: what the card asks. -/
theorem plain (f : FuncId) (fn : Func) (hf : Tryz.pinned.checked.prog.funcNamed "pouch/pouchlaw21.BounceNames" = some f) (hfn : Tryz.pinned.checked.prog.funcs[f]? = some fn) :
    true = Tryz.pinned.checked.prog.looks [] ∧ ∀ (j : Nat) t, fn.params[j]? = some t → Tryz.pinned.checked.prog.wantsStandIn t = false := by
  obtain rfl : f = 5 := Option.some.inj ((show Tryz.prog.funcNamed "pouch/pouchlaw21.BounceNames" = some 5 by kernel_rfl).symm.trans hf) |>.symm
  obtain rfl : fn = Tryz.f5 := (Option.some.inj (Tryz.func5.symm.trans hfn)).symm
  refine ⟨by kernel_rfl, fun j t ht => ?_⟩
  rw [Tryz.params5] at ht
  obtain rfl : t = 22 := by simpa using Array.mem_of_getElem? ht
  exact (show Tryz.prog.wantsStandIn 22 = false by kernel_rfl)
theorem card : Rows.BounceNamesCardSaid :=
  Claim7.holds_tied_plain_at .later [] _ _ _ _ said (fun _ h => by cases h) (by kernel_rfl) (fun _ h => by cases h) bounceNames_row_tie rfl ⟨rfl, rfl⟩ (by kernel_rfl) rfl plain (by kernel_rfl)
end Go.Proofs.YtbhejifllgnliaaGreatDoor.bounceNames
namespace Go.Proofs.YtbhejifllgnliaaGreatDoor
/-- The statement, under a short name, for the claim. -/
theorem bounceNames_holds : Rows.BounceNamesCardSaid := bounceNames.card
end Go.Proofs.YtbhejifllgnliaaGreatDoor
