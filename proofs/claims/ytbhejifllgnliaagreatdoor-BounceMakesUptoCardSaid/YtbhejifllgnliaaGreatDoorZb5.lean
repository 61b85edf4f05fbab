/- Part 5 of 5 of the proof of bounceMakes_holds: texts put together by a program; no condition. -/
import Derived.Test.YtbhejifllgnliaaGreatDoorZb4
namespace Go.Proofs.YtbhejifllgnliaaGreatDoor.Ab
open Go Go.RowKit Go.Proofs.YtbhejifllgnliaaGreatDoorW.PrintWords
set_option linter.unusedSimpArgs false
set_option linter.unusedVariables false
set_option maxRecDepth 100000
def Γ67 : Sems := ext 93 s93 (ext 87 s87 (ext 83 s83 Γ0))
theorem Γ67.ok : SemsOK Gr Go.Proofs.Tryz.prog Γ67 := ((Γ0.ok.ext Go.Proofs.Tryz.func83 rfl (by decide) ok83).ext Go.Proofs.Tryz.func87 rfl (by decide) ok87).ext Go.Proofs.Tryz.func93 rfl (by decide) ok93
abbrev fromB : ByteArray := ⟨#[70, 114, 111, 109, 58, 32, 60, 112, 111, 115, 116, 109, 97, 115, 116, 101, 114, 64]⟩
abbrev gtB : ByteArray := ⟨#[62]⟩
abbrev toB : ByteArray := ⟨#[84, 111, 58, 32, 60]⟩
abbrev ls0 (h v : ByteArray) : List ByteArray := [fromB ++ h ++ gtB, toB ++ v ++ gtB, ⟨#[83, 117, 98, 106, 101, 99, 116, 58, 32, 110, 111, 116, 32, 100, 101, 108, 105, 118, 101, 114, 101, 100]⟩, ⟨#[]⟩]
/-- What is asked of a message that is told of. -/
structure TellOK (m : Md) (h : ByteArray) : Prop where
  rc : m.rc.length ≤ 8
  fl : m.fl.size ≤ big
  fd : m.fd.size ≤ big
  h : h.size ≤ big
  rs : ∀ r ∈ m.rc, r.1.1.size ≤ big ∧ r.1.2.size ≤ big ∧ 0 ≤ r.2.2.2.2 ∧ r.2.2.2.2 ≤ 599
def s67 : Sense := ⟨false, fun os xs K => ∃ (m : Md) (c : C) (h : ByteArray), xs = [.agg (m.cs c), .one (.str h)] ∧ RcIn 0 m.rc c os ∧ TellOK m h ∧ ∀ t, bl t = mkT m (bl h) → K os (.ret (.one (.str t)))⟩
set_option maxHeartbeats 16000000 in
theorem ok67 : SenseOK Gr Go.Proofs.Tryz.prog 67 s67 := SenseOK.any Γ67.ok (fun _ => [5, 18, 19, 20]) Go.Proofs.Tryz.func67 fun os xs K h => by
  obtain ⟨m, c, h, rfl, ha, ⟨hb, hfl, hfd, hh, hrs⟩, hk⟩ := h
  simp only [big] at hh hfl hfd
  have z1 : fromB.size = 18 := rfl
  have z2 : gtB.size = 1 := rfl
  have z3 : toB.size = 5 := rfl
  have o1 : fromB.size + h.size ≤ 9223372036854775807 := by rw [z1]; omega
  have o2 : (fromB ++ h).size + gtB.size ≤ 9223372036854775807 := by rw [ByteArray.size_append, z1, z2]; omega
  rcases ha with ⟨hc, ho⟩ | ⟨hc, ho, ha0⟩ | ⟨ap, hc, ho⟩
  all_goals
    rw [hc, ho]
    rw [ho] at hk
    ((conv => whnf); repeat ((first | refine Br.t ?_ | refine Br.f ?_ | refine ob ?_ | refine ⟨_, rfl, ?_⟩ | refine ⟨_, _, rfl, ?_⟩ | refine ⟨_, _, _, rfl, ?_⟩ | refine ⟨_, _, _, _, rfl, ?_⟩ | simp only []); (conv => whnf)))
    intro v hv
    have hvs : v.size = m.fl.size + m.fd.size + 1 := by
      rw [← bl_len, hv, List.length_append, List.length_cons, bl_len, bl_len]; omega
    have o3 : toB.size + v.size ≤ 9223372036854775807 := by rw [z3]; omega
    have o4 : (toB ++ v).size + gtB.size ≤ 9223372036854775807 := by rw [ByteArray.size_append, z2, z3]; omega
    ((conv => whnf); repeat ((first | refine Br.t ?_ | refine Br.f ?_ | refine ob ?_ | refine ⟨_, rfl, ?_⟩ | refine ⟨_, _, rfl, ?_⟩ | refine ⟨_, _, _, rfl, ?_⟩ | refine ⟨_, _, _, _, rfl, ?_⟩ | simp only []); (conv => whnf)))
    have hstart : linesT (ls0 h v) = hdT (bl h) (bl m.fl) (bl m.fd) := by
      simp only [linesT, List.flatMap_cons, List.flatMap_nil, bl_append, hv, hdT, List.append_nil]
      have q1 : bl fromB = [70, 114, 111, 109, 58, 32, 60, 112, 111, 115, 116, 109, 97, 115, 116, 101, 114, 64] := rfl
      have q2 : bl gtB = [62] := rfl
      have q3 : bl toB = [84, 111, 58, 32, 60] := rfl
      rw [q1, q2, q3]
      simp [bl]
    have hlen0 : (hdT (bl h) (bl m.fl) (bl m.fd)).length ≤ 8589934592 := by
      simp only [hdT, List.length_append, List.length_cons, List.length_nil, bl_len]; omega
    refine iter_of (I := fun k σ => ∃ (j : Nat) (ls : List ByteArray) (mv : Bool), k = m.rc.length - j ∧ j ≤ m.rc.length ∧ ls ≠ [] ∧ ls.length ≤ 4 + j ∧ (linesT ls).length ≤ 8589934592 + j * 4294967296 ∧ linesT ls = hdT (bl h) (bl m.fl) (bl m.fd) ++ (m.rc.take j).flatMap rowT ∧ σ = ⟨slots 42 [(5, .one (.own os.length)), (18, .one c), (19, .one (.int .i64 m.rc.length)), (20, .one (.int .i64 j))], os ++ [.own 9 .str ls true mv]⟩) ?_ m.rc.length ⟨0, ls0 h v, false, by omega, by omega, by simp, by simp, by rw [hstart]; omega, by rw [hstart]; simp, by rw [ho, hc]; first | rfl | (rw [ha0]; rfl)⟩
    rintro k σ K' ⟨j, ls, mv, rfl, hj, hne, hll, hsz, hls, rfl⟩ hK'
    rw [ho, hc] at hK' ⊢
    have w1 := IntWalk.i64_in ((j : Int) + 1) (by omega)
    by_cases h1 : j < m.rc.length
    case neg =>
      have f1 : decide ((j : Int) < m.rc.length) = false := by simp; omega
      obtain rfl : j = m.rc.length := by omega
      rw [List.take_length] at hls
      ((conv => whnf); repeat ((first | refine Br.t ?_ | refine Br.f ?_ | refine ob ?_ | refine ⟨_, rfl, ?_⟩ | refine ⟨_, _, rfl, ?_⟩ | refine ⟨_, _, _, rfl, ?_⟩ | refine ⟨_, _, _, _, rfl, ?_⟩ | simp only [f1]); (conv => whnf)))
      have hj8 : m.rc.length * 4294967296 ≤ 8 * 4294967296 := Nat.mul_le_mul_right _ hb
      have hjl := linesT_len ls
      refine ⟨ls, crlfB, true, rfl, rfl, by simp only [big]; omega, by omega, fun r hr => ?_⟩
      have hr2 : nums r.data.toList ++ [13, 10] = linesT ls := by rw [hr]; exact join_lines ls hne
      have hrs2 : r.size ≤ 140737488355328 := by
        have : r.size = (joinT ls crlfB).length := by rw [← hr, Array.length_toList]; rfl
        omega
      have q5 : crlfB.size = 2 := rfl
      have o5 : r.size + crlfB.size ≤ 9223372036854775807 := by rw [q5]; omega
      ((conv => whnf); repeat ((first | refine Br.t ?_ | refine Br.f ?_ | refine ob ?_ | refine ⟨_, rfl, ?_⟩ | refine ⟨_, _, rfl, ?_⟩ | refine ⟨_, _, _, rfl, ?_⟩ | refine ⟨_, _, _, _, rfl, ?_⟩ | simp only []); (conv => whnf)))
      refine hk _ ?_
      rw [bl_append, mkT, ← hls, ← hr2]
      rfl
    first | (rw [ha0] at h1; exact absurd h1 (by simp)) | skip
  all_goals
    have f1 : decide ((j : Int) < m.rc.length) = true := by simpa using h1
    obtain ⟨r, hr⟩ : ∃ r, m.rc[j]? = some r := ⟨_, List.getElem?_eq_getElem h1⟩
    have rr := nth_of hr RT.dflt
    have hnx : (m.rc.take (j + 1)).flatMap rowT = (m.rc.take j).flatMap rowT ++ rowT r := flat_next hr
    have hsz2 : (linesT ls).length + 4294967296 ≤ 8589934592 + (j + 1) * 4294967296 := by
      rw [Nat.succ_mul]
      generalize j * 4294967296 = q at hsz
      omega
    cases g1 : (r.2.1 == 3) with
    | false =>
      have hrow : rowT r = [] := by
        have : fld r = false := g1
        rw [rowT, this, cond_false]
      ((conv => whnf); repeat ((first | refine Br.t ?_ | refine Br.f ?_ | refine ob ?_ | refine ⟨_, rfl, ?_⟩ | refine ⟨_, _, rfl, ?_⟩ | refine ⟨_, _, _, rfl, ?_⟩ | refine ⟨_, _, _, _, rfl, ?_⟩ | simp only [f1, rr, g1, w1]); (conv => whnf)))
      exact hK' _ _ (by omega) ⟨j + 1, ls, _, rfl, by omega, hne, by omega, Nat.le_trans (Nat.le_add_right _ _) hsz2, by rw [hnx, hrow, List.append_nil, hls], rfl⟩
    | true =>
      have hrb := hrs r (List.mem_of_getElem? hr)
      simp only [big] at hrb
      ((conv => whnf); repeat ((first | refine Br.t ?_ | refine Br.f ?_ | refine ob ?_ | refine ⟨_, rfl, ?_⟩ | refine ⟨_, _, rfl, ?_⟩ | refine ⟨_, _, _, rfl, ?_⟩ | refine ⟨_, _, _, _, rfl, ?_⟩ | simp only [f1, rr, g1]); (conv => whnf)))
      refine ⟨[os.length], (.take 0 (.take 1 (.take 2 (.take 5 (.take 6 (.br 3 (.take 4 (.br 7 (.take 8 (.br 9 (.br 10 (.take 11 .done) .nil) .nil)) .nil)) .nil)))))), by kernel_rfl, ?_⟩
      rw [ho]
      ((conv => whnf); repeat ((first | refine Br.t ?_ | refine Br.f ?_ | refine ob ?_ | refine ⟨_, rfl, ?_⟩ | refine ⟨_, _, rfl, ?_⟩ | refine ⟨_, _, _, rfl, ?_⟩ | refine ⟨_, _, _, _, rfl, ?_⟩ | simp only [rr]); (conv => whnf)))
      refine ⟨hrb.1, hrb.2.1, fun v2 hv2 => ?_⟩
      have hv2s : v2.size = r.1.1.size + r.1.2.size + 1 := by
        rw [← bl_len, hv2, List.length_append, List.length_cons, bl_len, bl_len]; omega
      have y1 : ({ data := #[58, 32] } : ByteArray).size = 2 := rfl
      have p1 : v2.size + ({ data := #[58, 32] } : ByteArray).size ≤ 9223372036854775807 := by rw [y1]; omega
      ((conv => whnf); repeat ((first | refine Br.t ?_ | refine Br.f ?_ | refine ob ?_ | refine ⟨_, rfl, ?_⟩ | refine ⟨_, _, rfl, ?_⟩ | refine ⟨_, _, _, rfl, ?_⟩ | refine ⟨_, _, _, _, rfl, ?_⟩ | simp only [rr]); (conv => whnf)))
      have hqb : (r.2.2.2.2 : Int).toNat ≤ 599 := Int.toNat_le.2 hrb.2.2.2
      have hcode : nums (Lib.itoa r.2.2.2.2) = decL (r.2.2.2.2 : Int).toNat := by
        rw [← itoa_decL _ (Nat.lt_of_le_of_lt hqb (by decide)), Int.toNat_of_nonneg hrb.2.2.1]
      refine ⟨⟨Int.le_trans (by decide) hrb.2.2.1, Int.le_trans hrb.2.2.2 (by decide)⟩, fun d hd => ?_⟩
      rw [hcode] at hd
      have hds : d.size ≤ 600 := by
        have := decL_len (r.2.2.2.2 : Int).toNat
        rw [← hd, bl_len] at this
        exact Nat.le_trans this (Nat.succ_le_succ hqb)
      have p2 : (v2 ++ ({ data := #[58, 32] } : ByteArray)).size + d.size ≤ 9223372036854775807 := by rw [ByteArray.size_append, y1]; omega
      ((conv => whnf); repeat ((first | refine Br.t ?_ | refine Br.f ?_ | refine ob ?_ | refine ⟨_, rfl, ?_⟩ | refine ⟨_, _, rfl, ?_⟩ | refine ⟨_, _, _, rfl, ?_⟩ | refine ⟨_, _, _, _, rfl, ?_⟩ | simp only [rr]); (conv => whnf)))
      ((conv => whnf); repeat ((first | refine Br.t ?_ | refine Br.f ?_ | refine ob ?_ | refine ⟨_, rfl, ?_⟩ | refine ⟨_, _, rfl, ?_⟩ | refine ⟨_, _, _, rfl, ?_⟩ | refine ⟨_, _, _, _, rfl, ?_⟩ | simp only [w1]); (conv => whnf)))
      have hrow : rowT r = (bl r.1.1 ++ 64 :: bl r.1.2) ++ [58, 32] ++ decL r.2.2.2.2.toNat ++ [13, 10] := by
        have : fld r = true := g1
        rw [rowT, this, cond_true]
      have hlb : bl (v2 ++ ({ data := #[58, 32] } : ByteArray) ++ d) = (bl r.1.1 ++ 64 :: bl r.1.2) ++ [58, 32] ++ decL (r.2.2.2.2 : Int).toNat := by
        rw [bl_append, bl_append, hv2, hd]; rfl
      have hls2 : linesT (ls ++ [v2 ++ ({ data := #[58, 32] } : ByteArray) ++ d]) = hdT (bl h) (bl m.fl) (bl m.fd) ++ (m.rc.take (j + 1)).flatMap rowT := by
        rw [linesT_snoc, hlb, hls, hnx, hrow]
        simp only [List.append_assoc]
      have hls3 : (linesT (ls ++ [v2 ++ ({ data := #[58, 32] } : ByteArray) ++ d])).length ≤ 8589934592 + (j + 1) * 4294967296 := by
        rw [linesT_snoc, List.length_append, List.length_append, bl_len, ByteArray.size_append, ByteArray.size_append, y1]
        have y3 : ([13, 10] : List Int).length = 2 := rfl
        rw [y3]
        refine Nat.le_trans ?_ hsz2
        omega
      exact hK' _ _ (by omega) ⟨j + 1, _, _, rfl, by omega, by simp, by rw [List.length_append, List.length_singleton]; omega, hls3, hls2, rfl⟩
end Go.Proofs.YtbhejifllgnliaaGreatDoor.Ab
namespace Go.Proofs.YtbhejifllgnliaaGreatDoor.Ab
open Go Go.RowKit Go.Proofs.YtbhejifllgnliaaGreatDoorW.PrintWords
set_option linter.unusedSimpArgs false
set_option linter.unusedVariables false
set_option maxRecDepth 100000
def Γ41 : Sems := ext 67 s67 Γ0
theorem Γ41.ok : SemsOK Gr Go.Proofs.Tryz.prog Γ41 := Γ0.ok.ext Go.Proofs.Tryz.func67 rfl (by decide) ok67
def s41 : Sense := ⟨false, fun os xs K => ∃ (m : Md) (c : C) (h : ByteArray) (n : Int), xs = [.agg (m.cs c), .one (.str h), .one (.int .i64 n)] ∧ RcIn 0 m.rc c os ∧ TellOK m h ∧
  ∀ t, bl t = mkT m (bl h) → ∀ mv, K (os ++ [.own 45 RT (made m n t).rc true mv]) (.ret (.agg ((made m n t).cs (.own os.length))))⟩
set_option maxHeartbeats 16000000 in
theorem ok41 : SenseOK Gr Go.Proofs.Tryz.prog 41 s41 := SenseOK.any Γ41.ok (fun _ => []) Go.Proofs.Tryz.func41 fun os xs K h => by
  obtain ⟨m, c, h, n, rfl, ha, ht, hk⟩ := h
  rcases ha with ⟨hc, ho⟩ | ⟨hc, ho, ha0⟩ | ⟨ap, hc, ho⟩
  case inr.inr =>
    rw [hc, ho]
    rw [ho] at hk
    ((conv => whnf); repeat ((first | refine Br.t ?_ | refine Br.f ?_ | refine ob ?_ | refine ⟨_, rfl, ?_⟩ | refine ⟨_, _, rfl, ?_⟩ | refine ⟨_, _, _, rfl, ?_⟩ | refine ⟨_, _, _, _, rfl, ?_⟩ | simp only []); (conv => whnf)))
    refine ⟨[0, 2], (.take 0 (.take 1 (.take 2 (.take 3 (.take 4 (.take 6 (.take 7 (.take 8 (.br 5 (.br 9 (.take 10 (.br 11 .done .nil)) .nil) (.br 9 (.br 5 (.take 10 (.br 11 .done .nil)) .nil) .nil)))))))))), by kernel_rfl, ?_⟩
    ((conv => whnf); repeat ((first | refine Br.t ?_ | refine Br.f ?_ | refine ob ?_ | refine ⟨_, rfl, ?_⟩ | refine ⟨_, _, rfl, ?_⟩ | refine ⟨_, _, _, rfl, ?_⟩ | refine ⟨_, _, _, _, rfl, ?_⟩ | simp only []); (conv => whnf)))
    refine Both.mk ?_ ?_
    all_goals
      ((conv => whnf); repeat ((first | refine Br.t ?_ | refine Br.f ?_ | refine ob ?_ | refine ⟨_, rfl, ?_⟩ | refine ⟨_, _, rfl, ?_⟩ | refine ⟨_, _, _, rfl, ?_⟩ | refine ⟨_, _, _, _, rfl, ?_⟩ | simp only []); (conv => whnf)))
      refine ⟨by first | exact .inl ⟨rfl, rfl⟩ | exact .inr (.inl ⟨rfl, rfl, ha0⟩) | exact .inr (.inr ⟨ap, rfl, rfl⟩), ht, fun t htx => ?_⟩
      ((conv => whnf); repeat ((first | refine Br.t ?_ | refine Br.f ?_ | refine ob ?_ | refine ⟨_, rfl, ?_⟩ | refine ⟨_, _, rfl, ?_⟩ | refine ⟨_, _, _, rfl, ?_⟩ | refine ⟨_, _, _, _, rfl, ?_⟩ | simp only []); (conv => whnf)))
      exact hk t htx _
  all_goals
    rw [hc, ho]
    rw [ho] at hk
    ((conv => whnf); repeat ((first | refine Br.t ?_ | refine Br.f ?_ | refine ob ?_ | refine ⟨_, rfl, ?_⟩ | refine ⟨_, _, rfl, ?_⟩ | refine ⟨_, _, _, rfl, ?_⟩ | refine ⟨_, _, _, _, rfl, ?_⟩ | simp only []); (conv => whnf)))
    refine ⟨[1], (.take 0 (.take 1 (.take 2 (.take 3 (.take 4 (.take 6 (.take 7 (.take 8 (.br 5 (.br 9 (.take 10 (.br 11 .done .nil)) .nil) (.br 9 (.br 5 (.take 10 (.br 11 .done .nil)) .nil) .nil)))))))))), by kernel_rfl, ?_⟩
    ((conv => whnf); repeat ((first | refine Br.t ?_ | refine Br.f ?_ | refine ob ?_ | refine ⟨_, rfl, ?_⟩ | refine ⟨_, _, rfl, ?_⟩ | refine ⟨_, _, _, rfl, ?_⟩ | refine ⟨_, _, _, _, rfl, ?_⟩ | simp only []); (conv => whnf)))
    refine Both.mk ?_ ?_
    all_goals
      ((conv => whnf); repeat ((first | refine Br.t ?_ | refine Br.f ?_ | refine ob ?_ | refine ⟨_, rfl, ?_⟩ | refine ⟨_, _, rfl, ?_⟩ | refine ⟨_, _, _, rfl, ?_⟩ | refine ⟨_, _, _, _, rfl, ?_⟩ | simp only []); (conv => whnf)))
      refine ⟨by first | exact .inl ⟨rfl, rfl⟩ | exact .inr (.inl ⟨rfl, rfl, ha0⟩) | exact .inr (.inr ⟨ap, rfl, rfl⟩), ht, fun t htx => ?_⟩
      ((conv => whnf); repeat ((first | refine Br.t ?_ | refine Br.f ?_ | refine ob ?_ | refine ⟨_, rfl, ?_⟩ | refine ⟨_, _, rfl, ?_⟩ | refine ⟨_, _, _, rfl, ?_⟩ | refine ⟨_, _, _, _, rfl, ?_⟩ | simp only []); (conv => whnf)))
      exact hk t htx _
end Go.Proofs.YtbhejifllgnliaaGreatDoor.Ab
namespace Go.Proofs.YtbhejifllgnliaaGreatDoor.Ab
open Go Go.RowKit Go.Proofs.YtbhejifllgnliaaGreatDoorW.PrintWords
set_option linter.unusedSimpArgs false
set_option linter.unusedVariables false
set_option maxRecDepth 100000
theorem dom_pre {l : List Int} (h : domL l = true) : pre [91] l = litL l := by
  simp only [domL, Bool.and_eq_true, Bool.or_eq_true] at h
  cases l with
  | nil => simp [pre, litL]
  | cons x l =>
    have hp : pre [91] (x :: l) = decide (x = 91) := by simp [pre]
    rw [hp]
    by_cases hx : x = 91
    · subst hx
      rcases h.2 with h2 | h2
      · rw [h2]; rfl
      · rcases spl_mem 46 (91 :: l) [] 91 (by simp) with h3 | ⟨w, hw, hm⟩
        · cases h3
        · have := List.all_eq_true.1 h2 w hw
          simp only [labL, Bool.and_eq_true] at this
          have := List.all_eq_true.1 this.1.1.2 91 hm
          exact absurd this (by decide)
    · have : litL (x :: l) = false := by
        simp only [litL, List.head?_cons]
        have : (some x == some (91 : Int)) = false := by simpa using hx
        rw [this]; simp
      rw [this]; simpa using hx
theorem rcsP_all : ∀ {l p : List Rc}, rcsP p l = true → ∀ r ∈ l, rcP r = true
  | [], _, _, r, hr => by cases hr
  | q :: l, p, h, r, hr => by
    simp only [rcsP, Bool.and_eq_true] at h
    rcases List.mem_cons.1 hr with rfl | hr
    · exact h.1.1
    · exact rcsP_all h.2 r hr
theorem tell_ok {m : Md} {h : ByteArray} (hm : mailP m.ml = true) (hw : wtSmall m) (hh : h.size ≤ big) : TellOK m h := by
  simp only [mailP, Bool.and_eq_true] at hm
  refine ⟨?_, hw.2.2.1, hw.2.2.2.1, hh, fun r hr => ⟨(hw.2.2.2.2 r hr).1, (hw.2.2.2.2 r hr).2, ?_⟩⟩
  · have h1 : m.ml.rc.length = m.rc.length := List.length_map _
    have := hm.1.1.1.1.2
    simp only [h1] at this
    simp at this
    omega
  · have := rcsP_all hm.1.2 (rcOf r) (List.mem_map.2 ⟨r, hr, rfl⟩)
    simp only [rcP, Bool.and_eq_true, decide_eq_true_eq] at this
    exact this.2
/-- Whether there is a telling at all. -/
def mayMake (m : Md) (h : ByteArray) (n : Int) : Bool := mailP m.ml && (domL (bl h) && !litL (bl h)) && (decide (0 ≤ n) && decide (n ≤ 1099511627776))
def Γ11 : Sems := ext 41 s41 (ext 40 u40 (ext 39 s39 (ext 38 s38 (ext 37 s37 Γ0))))
theorem Γ11.ok : SemsOK Gr Go.Proofs.Tryz.prog Γ11 := ((((Γ0.ok.ext Go.Proofs.Tryz.func37 rfl (by decide) ok37).ext Go.Proofs.Tryz.func38 rfl (by decide) ok38).ext Go.Proofs.Tryz.func39 rfl (by decide) ok39).ext Go.Proofs.Tryz.func40 rfl (by decide) uk40).ext Go.Proofs.Tryz.func41 rfl (by decide) ok41
def s11 : Sense := ⟨false, fun os xs K => ∃ (m : Md) (c : C) (h : ByteArray) (n : Int), xs = [.agg (m.cs c), .one (.str h), .one (.int .i64 n)] ∧ RcIn 0 m.rc c os ∧ m.sml ∧ wtSmall m ∧ h.size ≤ mid ∧
  (mayMake m h n = false → K os (.ret (.tup [.agg (md0.cs .nil), .one (.int .i64 1)]))) ∧
  (mayMake m h n = true → (m.nul || !m.rc.any fld) = true → K os (.ret (.tup [.agg (md0.cs .nil), .one (.int .i64 3)]))) ∧
  (mayMake m h n = true → (m.nul || !m.rc.any fld) = false → ∀ t, bl t = mkT m (bl h) → ∀ mv, K (os ++ [.own 45 RT (made m n t).rc true mv]) (.ret (.tup [.agg ((made m n t).cs (.own os.length)), .one (.int .i64 0)])))⟩
set_option maxHeartbeats 32000000 in
theorem ok11 : SenseOK Gr Go.Proofs.Tryz.prog 11 s11 := SenseOK.any Γ11.ok (fun _ => []) Go.Proofs.Tryz.func11 fun os xs K h => by
  obtain ⟨m, c, h, n, rfl, ha, hs, hw, hh, hk0, hk1, hk2⟩ := h
  have hf : m.rc.any (isO 3) = m.rc.any fld := rfl
  have ha' := ha
  rcases ha with ⟨hc, ho⟩ | ⟨hc, ho, ha0⟩ | ⟨ap, hc, ho⟩
  all_goals
    rw [hc, ho]
    rw [ho] at hk0 hk1 hk2
    ((conv => whnf); repeat ((first | refine Br.t ?_ | refine Br.f ?_ | refine ob ?_ | refine ⟨_, rfl, ?_⟩ | refine ⟨_, _, rfl, ?_⟩ | refine ⟨_, _, _, rfl, ?_⟩ | refine ⟨_, _, _, _, rfl, ?_⟩ | simp only []); (conv => whnf)))
    refine ⟨by first | exact .inl ⟨rfl, rfl⟩ | exact .inr (.inl ⟨rfl, rfl, ha0⟩) | exact .inr (.inr ⟨ap, rfl, rfl⟩), hs, ?_⟩
    cases e1 : mailP m.ml with
    | false =>
      have hb : mayMake m h n = false := by rw [mayMake, e1]; rfl
      ((conv => whnf); repeat ((first | refine Br.t ?_ | refine Br.f ?_ | refine ob ?_ | refine ⟨_, rfl, ?_⟩ | refine ⟨_, _, rfl, ?_⟩ | refine ⟨_, _, _, rfl, ?_⟩ | refine ⟨_, _, _, _, rfl, ?_⟩ | simp only [e1]); (conv => whnf)))
      exact hk0 hb
    | true =>
    ((conv => whnf); repeat ((first | refine Br.t ?_ | refine Br.f ?_ | refine ob ?_ | refine ⟨_, rfl, ?_⟩ | refine ⟨_, _, rfl, ?_⟩ | refine ⟨_, _, _, rfl, ?_⟩ | refine ⟨_, _, _, _, rfl, ?_⟩ | simp only [e1]); (conv => whnf)))
    cases e2 : domL (bl h) with
    | false =>
      have hb : mayMake m h n = false := by rw [mayMake, e1, e2]; rfl
      ((conv => whnf); repeat ((first | refine Br.t ?_ | refine Br.f ?_ | refine ob ?_ | refine ⟨_, rfl, ?_⟩ | refine ⟨_, _, rfl, ?_⟩ | refine ⟨_, _, _, rfl, ?_⟩ | refine ⟨_, _, _, _, rfl, ?_⟩ | simp only [e1, e2]); (conv => whnf)))
      exact hk0 hb
    | true =>
    have hpl := dom_pre e2
    ((conv => whnf); repeat ((first | refine Br.t ?_ | refine Br.f ?_ | refine ob ?_ | refine ⟨_, rfl, ?_⟩ | refine ⟨_, _, rfl, ?_⟩ | refine ⟨_, _, _, rfl, ?_⟩ | refine ⟨_, _, _, _, rfl, ?_⟩ | simp only [e1, e2]); (conv => whnf)))
    cases e3 : pre [91] (bl h) with
    | true =>
      have hb : mayMake m h n = false := by rw [mayMake, e1, e2, ← hpl, e3]; rfl
      ((conv => whnf); repeat ((first | refine Br.t ?_ | refine Br.f ?_ | refine ob ?_ | refine ⟨_, rfl, ?_⟩ | refine ⟨_, _, rfl, ?_⟩ | refine ⟨_, _, _, rfl, ?_⟩ | refine ⟨_, _, _, _, rfl, ?_⟩ | simp only [e1, e2, e3]); (conv => whnf)))
      exact hk0 hb
    | false =>
    by_cases g4 : n < 0
    · have e4 : decide (n < 0) = true := decide_eq_true g4
      have hb : mayMake m h n = false := by
        have : decide (0 ≤ n) = false := by simpa using g4
        rw [mayMake, this]; simp
      ((conv => whnf); repeat ((first | refine Br.t ?_ | refine Br.f ?_ | refine ob ?_ | refine ⟨_, rfl, ?_⟩ | refine ⟨_, _, rfl, ?_⟩ | refine ⟨_, _, _, rfl, ?_⟩ | refine ⟨_, _, _, _, rfl, ?_⟩ | simp only [e1, e2, e3, e4]); (conv => whnf)))
      exact hk0 hb
    have e4 : decide (n < 0) = false := decide_eq_false g4
    by_cases g5 : n > 1099511627776
    · have e5 : decide (n > 1099511627776) = true := decide_eq_true g5
      have hb : mayMake m h n = false := by
        have : decide (n ≤ 1099511627776) = false := by simpa using g5
        rw [mayMake, this]; simp
      ((conv => whnf); repeat ((first | refine Br.t ?_ | refine Br.f ?_ | refine ob ?_ | refine ⟨_, rfl, ?_⟩ | refine ⟨_, _, rfl, ?_⟩ | refine ⟨_, _, _, rfl, ?_⟩ | refine ⟨_, _, _, _, rfl, ?_⟩ | simp only [e1, e2, e3, e4, e5]); (conv => whnf)))
      exact hk0 hb
    have e5 : decide (n > 1099511627776) = false := decide_eq_false g5
    have hb : mayMake m h n = true := by
      have h1 : decide (0 ≤ n) = true := by simp; omega
      have h2 : decide (n ≤ 1099511627776) = true := by simp; omega
      rw [mayMake, e1, e2, ← hpl, e3, h1, h2]; rfl
    ((conv => whnf); repeat ((first | refine Br.t ?_ | refine Br.f ?_ | refine ob ?_ | refine ⟨_, rfl, ?_⟩ | refine ⟨_, _, rfl, ?_⟩ | refine ⟨_, _, _, rfl, ?_⟩ | refine ⟨_, _, _, _, rfl, ?_⟩ | simp only [e1, e2, e3, e4, e5]); (conv => whnf)))
    cases e6 : m.nul with
    | true =>
      ((conv => whnf); repeat ((first | refine Br.t ?_ | refine Br.f ?_ | refine ob ?_ | refine ⟨_, rfl, ?_⟩ | refine ⟨_, _, rfl, ?_⟩ | refine ⟨_, _, _, rfl, ?_⟩ | refine ⟨_, _, _, _, rfl, ?_⟩ | simp only [e6]); (conv => whnf)))
      exact hk1 hb (by rw [e6]; rfl)
    | false =>
    ((conv => whnf); repeat ((first | refine Br.t ?_ | refine Br.f ?_ | refine ob ?_ | refine ⟨_, rfl, ?_⟩ | refine ⟨_, _, rfl, ?_⟩ | refine ⟨_, _, _, rfl, ?_⟩ | refine ⟨_, _, _, _, rfl, ?_⟩ | simp only [e6]); (conv => whnf)))
    refine ⟨3, { m with nul := false }, c, os, by rw [hc, ho]; rfl, ha', hw.1, ⟨true, by rw [ho]; rfl⟩, ?_⟩
    cases e7 : m.rc.any fld with
    | false =>
      have e7' : ({ m with nul := false } : Md).rc.any (isO 3) = false := e7
      ((conv => whnf); repeat ((first | refine Br.t ?_ | refine Br.f ?_ | refine ob ?_ | refine ⟨_, rfl, ?_⟩ | refine ⟨_, _, rfl, ?_⟩ | refine ⟨_, _, _, rfl, ?_⟩ | refine ⟨_, _, _, _, rfl, ?_⟩ | simp only [e6, e7']); (conv => whnf)))
      exact hk1 hb (by rw [e6, e7]; rfl)
    | true =>
    have e7' : ({ m with nul := false } : Md).rc.any (isO 3) = true := e7
    have hmm : mailP m.ml = true := e1
    have hT : TellOK m h := tell_ok hmm hw (by simp only [mid, big] at hh ⊢; omega)
    have hT2 : TellOK { m with nul := false } h := ⟨hT.rc, hT.fl, hT.fd, hT.h, hT.rs⟩
    ((conv => whnf); repeat ((first | refine Br.t ?_ | refine Br.f ?_ | refine ob ?_ | refine ⟨_, rfl, ?_⟩ | refine ⟨_, _, rfl, ?_⟩ | refine ⟨_, _, _, rfl, ?_⟩ | refine ⟨_, _, _, _, rfl, ?_⟩ | simp only [e6, e7']); (conv => whnf)))
    refine ⟨{ m with nul := false }, _, h, n, rfl, by first | exact .inl ⟨rfl, rfl⟩ | exact .inr (.inl ⟨rfl, rfl, ha0⟩) | exact .inr (.inr ⟨ap, rfl, rfl⟩), hT2, fun t ht mv => ?_⟩
    ((conv => whnf); repeat ((first | refine Br.t ?_ | refine Br.f ?_ | refine ob ?_ | refine ⟨_, rfl, ?_⟩ | refine ⟨_, _, rfl, ?_⟩ | refine ⟨_, _, _, rfl, ?_⟩ | refine ⟨_, _, _, _, rfl, ?_⟩ | simp only []); (conv => whnf)))
    exact hk2 hb (by rw [e6, e7]; rfl) t ht _
end Go.Proofs.YtbhejifllgnliaaGreatDoor.Ab
namespace Go.Proofs.YtbhejifllgnliaaGreatDoor.Ab
open Go Go.RowKit Go.Proofs.YtbhejifllgnliaaGreatDoorW.PrintWords
set_option linter.unusedSimpArgs false
set_option linter.unusedVariables false
set_option maxRecDepth 100000
variable {G : World → Prop}
def Γ9 : Sems := ext 35 s35 Γ0
theorem Γ9.ok : SemsOK G Go.Proofs.Tryz.prog Γ9 := Γ0.ok.ext Go.Proofs.Tryz.func35 rfl (by decide) ok35
/-- An ask's cells: a message, a host, a tick. -/
def askCs (m : Md) (c : C) (h : ByteArray) (n : Int) : List C := [.int .i64 m.id, .int .i64 m.te, .bool m.nul, .str m.fl, .str m.fd, c, .str m.body, .int .i64 m.born, .bool m.held, .bool m.told, .str h, .int .i64 n]
def s9 : Sense := ⟨false, fun os xs K => ∃ (m : Md) (c : C) (h : ByteArray) (n : Int), xs = [.agg (askCs m c h n)] ∧ RcIn 0 m.rc c os ∧ wtSmall m ∧ K os (.ret (.one (.bool (decide (wtM m > 6000) || decide ((h.size : Int) > 1000)))))⟩
set_option maxHeartbeats 8000000 in
theorem ok9 : SenseOK G Go.Proofs.Tryz.prog 9 s9 := SenseOK.any Γ9.ok (fun _ => []) Go.Proofs.Tryz.func9 fun os xs K h => by
  obtain ⟨m, c, h, n, rfl, ha, ⟨h1, h2, h3, h4, h5⟩, hk⟩ := h
  rcases ha with ⟨hc, ho⟩ | ⟨hc, ho, ha0⟩ | ⟨ap, hc, ho⟩
  all_goals
    rw [hc, ho]
    rw [ho] at hk
    ((conv => whnf); repeat ((first | refine Br.t ?_ | refine Br.f ?_ | refine ob ?_ | refine ⟨_, rfl, ?_⟩ | refine ⟨_, _, rfl, ?_⟩ | refine ⟨_, _, _, rfl, ?_⟩ | refine ⟨_, _, _, _, rfl, ?_⟩ | simp only []); (conv => whnf)))
    refine ⟨by first | exact .inl ⟨rfl, rfl⟩ | exact .inr (.inl ⟨rfl, rfl, ha0⟩) | exact .inr (.inr ⟨ap, rfl, rfl⟩), h1, h2, h3, h4, h5, ?_⟩
    cases e1 : decide (wtM m > 6000) with
    | true =>
      rw [e1] at hk
      ((conv => whnf); repeat ((first | refine Br.t ?_ | refine Br.f ?_ | refine ob ?_ | refine ⟨_, rfl, ?_⟩ | refine ⟨_, _, rfl, ?_⟩ | refine ⟨_, _, _, rfl, ?_⟩ | refine ⟨_, _, _, _, rfl, ?_⟩ | simp only [e1]); (conv => whnf)))
      exact hk
    | false =>
      rw [e1] at hk
      ((conv => whnf); repeat ((first | refine Br.t ?_ | refine Br.f ?_ | refine ob ?_ | refine ⟨_, rfl, ?_⟩ | refine ⟨_, _, rfl, ?_⟩ | refine ⟨_, _, _, rfl, ?_⟩ | refine ⟨_, _, _, _, rfl, ?_⟩ | simp only [e1]); (conv => whnf)))
      exact hk
end Go.Proofs.YtbhejifllgnliaaGreatDoor.Ab
namespace Go.Proofs.YtbhejifllgnliaaGreatDoor.Ab
open Go Go.RowKit Go.Proofs.YtbhejifllgnliaaGreatDoorW.PrintWords
set_option linter.unusedSimpArgs false
set_option linter.unusedVariables false
set_option maxRecDepth 100000
def Γ17 : Sems := ext 14 sNum (ext 11 s11 (ext 19 s19 Γ0))
theorem Γ17.ok : SemsOK Gr Go.Proofs.Tryz.prog Γ17 := ((Γ0.ok.ext Go.Proofs.Tryz.func19 rfl (by decide) ok19).ext Go.Proofs.Tryz.func11 rfl (by decide) ok11).ext Go.Proofs.Tryz.func14 rfl (by decide) ok14
/-- A message one of whose recipients failed. -/
def mF : Md := { mM with rc := [((bA, bX), (3, (0, (0, 0))))] }
theorem mF_P : mayMake mF ⟨#[104]⟩ 5 = true := by decide +kernel
theorem mF_any : (mF.nul || !mF.rc.any fld) = false := by decide
set_option maxHeartbeats 16000000 in
theorem ok17 : SenseOK Gr Go.Proofs.Tryz.prog 17 sTrue := SenseOK.any Γ17.ok (fun _ => []) Go.Proofs.Tryz.func17 fun os xs K h => by
  obtain ⟨rfl, rfl, hk⟩ := h
  ((conv => whnf); repeat ((first | refine Br.t ?_ | refine Br.f ?_ | refine ob ?_ | refine ⟨_, rfl, ?_⟩ | refine ⟨_, _, rfl, ?_⟩ | refine ⟨_, _, _, rfl, ?_⟩ | refine ⟨_, _, _, _, rfl, ?_⟩); (conv => whnf)))
  intro mv
  ((conv => whnf); repeat ((first | refine Br.t ?_ | refine Br.f ?_ | refine ob ?_ | refine ⟨_, rfl, ?_⟩ | refine ⟨_, _, rfl, ?_⟩ | refine ⟨_, _, _, rfl, ?_⟩ | refine ⟨_, _, _, _, rfl, ?_⟩); (conv => whnf)))
  refine ⟨⟨by decide, by decide⟩, ?_⟩
  ((conv => whnf); repeat ((first | refine Br.t ?_ | refine Br.f ?_ | refine ob ?_); (conv => whnf)))
  refine ⟨mF, .own 0, ⟨#[104]⟩, 5, rfl, .inr (.inr ⟨true, rfl, rfl⟩), ?_, ?_, by decide, fun h0 => absurd (h0.symm.trans mF_P) (by simp), fun _ h0 => absurd (h0.symm.trans mF_any) (by simp), fun _ _ t ht mv2 => ?_⟩
  · exact ⟨by decide, fun r hr => by simp [mF] at hr; subst hr; simp [small, bA, bX, mid, ByteArray.size], by decide⟩
  · exact ⟨by decide, by decide, by decide, by decide, fun r hr => by simp [mF] at hr; subst hr; simp [bA, bX, big, ByteArray.size]⟩
  ((conv => whnf); repeat ((first | refine Br.t ?_ | refine Br.f ?_ | refine ob ?_ | refine ⟨_, rfl, ?_⟩ | refine ⟨_, _, rfl, ?_⟩ | refine ⟨_, _, _, rfl, ?_⟩ | refine ⟨_, _, _, _, rfl, ?_⟩); (conv => whnf)))
  refine ⟨[], (.take 0 (.br 1 (.take 2 (.take 3 (.take 4 (.take 5 (.take 6 (.take 7 (.take 8 (.take 9 (.take 10 (.take 11 (.take 12 (.take 13 (.take 14 (.take 15 (.take 16 (.take 17 (.take 18 (.take 19 (.take 20 (.take 21 (.take 22 (.take 23 (.take 24 (.take 25 (.take 26 (.take 27 (.take 28 .done))))))))))))))))))))))))))) .nil)), by kernel_rfl, ?_⟩
  ((conv => whnf); repeat ((first | refine Br.t ?_ | refine Br.f ?_ | refine ob ?_ | refine ⟨_, rfl, ?_⟩ | refine ⟨_, _, rfl, ?_⟩ | refine ⟨_, _, _, rfl, ?_⟩ | refine ⟨_, _, _, _, rfl, ?_⟩); (conv => whnf)))
  refine ⟨⟨by decide, by simp [made]⟩, ?_⟩
  have hq : (ByteArray.toList (rdx (made mF 5 t).rc (Int.toNat 0) RT.dflt).fst.fst == mM.fl.toList && (ByteArray.toList (rdx (made mF 5 t).rc (Int.toNat 0) RT.dflt).fst.snd == mM.fd.toList && true)) = true := by
    show (bA.toList == bA.toList && (bX.toList == bX.toList && true)) = true
    simp
  have he1 : (made mF 5 t).nul = true := rfl
  have he2 : (((made mF 5 t).rc.length : Int) == 1) = true := rfl
  have he3 : ((0 : Int) == 0) = true := rfl
  ((conv => whnf); repeat ((first | refine Br.t ?_ | refine Br.f ?_ | refine ob ?_ | refine ⟨_, rfl, ?_⟩ | refine ⟨_, _, rfl, ?_⟩ | refine ⟨_, _, _, rfl, ?_⟩ | refine ⟨_, _, _, _, rfl, ?_⟩ | simp only [hq, he1, he2, he3]); (conv => whnf)))
  exact hk
end Go.Proofs.YtbhejifllgnliaaGreatDoor.Ab
namespace Go.Proofs.YtbhejifllgnliaaGreatDoor.Ab
open Go Go.RowKit Go.Proofs.YtbhejifllgnliaaGreatDoorW.PrintWords
set_option linter.unusedSimpArgs false
set_option linter.unusedVariables false
set_option maxRecDepth 100000
abbrev AskT : Ty := .pair MT (.pair .str (.int .i64))
def askOf (m : Md) (h : ByteArray) (n : Int) : AskT.den := (mtOf m, (h, n))
theorem ask_of (x : AskT.den) : x = askOf (mdOf x.1) x.2.1 x.2.2 := rfl
def askSmall (x : AskT.den) : Prop := wtSmall (mdOf x.1) ∧ x.2.1.size ≤ big
def Γ3 : Sems := ext 17 sTrue (ext 16 s16 (ext 15 s15 (ext 14 sNum (ext 13 s13 (ext 12 s12 (ext 11 s11 (ext 10 s10 (ext 9 s9 Γ0))))))))
theorem Γ3.ok : SemsOK Gr Go.Proofs.Tryz.prog Γ3 := ((((((((Γ0.ok.ext Go.Proofs.Tryz.func9 rfl (by decide) ok9).ext Go.Proofs.Tryz.func10 rfl (by decide) ok10).ext Go.Proofs.Tryz.func11 rfl (by decide) ok11).ext Go.Proofs.Tryz.func12 rfl (by decide) ok12).ext Go.Proofs.Tryz.func13 rfl (by decide) ok13).ext Go.Proofs.Tryz.func14 rfl (by decide) ok14).ext Go.Proofs.Tryz.func15 rfl (by decide) ok15).ext Go.Proofs.Tryz.func16 rfl (by decide) ok16).ext Go.Proofs.Tryz.func17 rfl (by decide) ok17
theorem made_ml {m : Md} {n : Int} {t t' : ByteArray} (h : bl t = bl t') : (made m n t).ml = (made m n t').ml := by simp [made, Md.ml, h]
def s3 : Sense := ⟨false, fun os xs K => ∃ (l : List AskT.den), xs = [.one (.sl AskT l)] ∧ os = [] ∧ l.length ≤ big ∧ (∀ x ∈ l, askSmall x) ∧ K [] (.ret (.one (.bool true)))⟩
set_option maxHeartbeats 64000000 in
theorem ok3 : SenseOK Gr Go.Proofs.Tryz.prog 3 s3 := SenseOK.any Γ3.ok (fun _ => [0, 3]) Go.Proofs.Tryz.func3 fun os xs K h => by
  obtain ⟨l, rfl, rfl, hl, hb, hk⟩ := h
  simp only [big] at hl
  ((conv => whnf); repeat ((first | refine Br.t ?_ | refine Br.f ?_ | refine ob ?_ | refine ⟨_, rfl, ?_⟩ | refine ⟨_, _, rfl, ?_⟩ | refine ⟨_, _, _, rfl, ?_⟩ | refine ⟨_, _, _, _, rfl, ?_⟩); (conv => whnf)))
  refine iter_of (I := fun k σ => ∃ j : Nat, k = l.length - j ∧ j ≤ l.length ∧ σ = ⟨slots 85 [(0, .one (.sl AskT l)), (3, .one (.int .i64 j))], []⟩) ?_ l.length ⟨0, by omega, by omega, rfl⟩
  rintro k σ K' ⟨j, rfl, hj, rfl⟩ hK'
  have w1 := IntWalk.i64_in ((j : Int) + 1) (by omega)
  by_cases h1 : j < l.length
  case neg =>
    have f1 : decide ((j : Int) < l.length) = false := by simp; omega
    ((conv => whnf); repeat ((first | refine Br.t ?_ | refine Br.f ?_ | refine ob ?_ | refine ⟨_, rfl, ?_⟩ | refine ⟨_, _, rfl, ?_⟩ | refine ⟨_, _, _, rfl, ?_⟩ | refine ⟨_, _, _, _, rfl, ?_⟩ | simp only [f1]); (conv => whnf)))
    exact hk
  have f1 : decide ((j : Int) < l.length) = true := by simpa using h1
  by_cases h2 : j < 8
  case neg =>
    have f2 : decide ((j : Int) < 8) = false := by simp; omega
    ((conv => whnf); repeat ((first | refine Br.t ?_ | refine Br.f ?_ | refine ob ?_ | refine ⟨_, rfl, ?_⟩ | refine ⟨_, _, rfl, ?_⟩ | refine ⟨_, _, _, rfl, ?_⟩ | refine ⟨_, _, _, _, rfl, ?_⟩ | simp only [f1, f2]); (conv => whnf)))
    exact hk
  have f2 : decide ((j : Int) < 8) = true := by simp; omega
  obtain ⟨x, hr0⟩ : ∃ x, l[j]? = some x := ⟨_, List.getElem?_eq_getElem h1⟩
  have hws := hb x (List.mem_of_getElem? hr0)
  obtain ⟨m, h, n, rfl⟩ : ∃ m h n, x = askOf m h n := ⟨_, _, _, ask_of x⟩
  have hw : wtSmall m := hws.1
  have hhb : h.size ≤ big := hws.2
  have rr := nth_of hr0 AskT.dflt
  have a1 : (askOf m h n).snd.fst = h := rfl
  have a2 : (askOf m h n).snd.snd = n := rfl
  ((conv => whnf); repeat ((first | refine Br.t ?_ | refine Br.f ?_ | refine ob ?_ | refine ⟨_, rfl, ?_⟩ | refine ⟨_, _, rfl, ?_⟩ | refine ⟨_, _, _, rfl, ?_⟩ | refine ⟨_, _, _, _, rfl, ?_⟩ | simp only [f1, f2, rr]); (conv => whnf)))
  simp only [a1, a2]
  refine ⟨.inl ⟨rfl, rfl⟩, hw, ?_⟩
  by_cases g3 : wtM m > 6000
  · have f3 : decide (wtM m > 6000) = true := decide_eq_true g3
    ((conv => whnf); repeat ((first | refine Br.t ?_ | refine Br.f ?_ | refine ob ?_ | refine ⟨_, rfl, ?_⟩ | refine ⟨_, _, rfl, ?_⟩ | refine ⟨_, _, _, rfl, ?_⟩ | refine ⟨_, _, _, _, rfl, ?_⟩ | simp only [f3]); (conv => whnf)))
    exact hk
  have f3 : decide (wtM m > 6000) = false := decide_eq_false g3
  by_cases g4 : (h.size : Int) > 1000
  · have f4 : decide ((h.size : Int) > 1000) = true := decide_eq_true g4
    ((conv => whnf); repeat ((first | refine Br.t ?_ | refine Br.f ?_ | refine ob ?_ | refine ⟨_, rfl, ?_⟩ | refine ⟨_, _, rfl, ?_⟩ | refine ⟨_, _, _, rfl, ?_⟩ | refine ⟨_, _, _, _, rfl, ?_⟩ | simp only [f3, f4]); (conv => whnf)))
    exact hk
  have f4 : decide ((h.size : Int) > 1000) = false := decide_eq_false g4
  have hL := light_of g3
  have hhm : h.size ≤ mid := by simp only [mid]; omega
  have hrs : ∀ r ∈ m.rc, r.1.2.size ≤ big := fun r hr => (hw.2.2.2.2 r hr).2
  have q0 : decide (md0.ml = md0.ml) = true := decide_eq_true rfl
  have q1 : decide (m.ml = m.ml) = true := decide_eq_true rfl
  ((conv => whnf); repeat ((first | refine Br.t ?_ | refine Br.f ?_ | refine ob ?_ | refine ⟨_, rfl, ?_⟩ | refine ⟨_, _, rfl, ?_⟩ | refine ⟨_, _, _, rfl, ?_⟩ | refine ⟨_, _, _, _, rfl, ?_⟩ | simp only [f3, f4]); (conv => whnf)))
  refine ⟨.inl ⟨rfl, rfl⟩, hw.1, fun hz => ?_, fun hz mv => ?_⟩
  · have e0 : mayMake m h n = false := by
      cases hh : mailP m.ml with
      | false => rw [mayMake, hh]; rfl
      | true => exact absurd hz (mailP_ne hh)
    ((conv => whnf); repeat ((first | refine Br.t ?_ | refine Br.f ?_ | refine ob ?_ | refine ⟨_, rfl, ?_⟩ | refine ⟨_, _, rfl, ?_⟩ | refine ⟨_, _, _, rfl, ?_⟩ | refine ⟨_, _, _, _, rfl, ?_⟩ | simp only []); (conv => whnf)))
    refine ⟨.inr (.inl ⟨rfl, rfl, hz⟩), hL.sml, hw, hhm, fun _ => ?_, fun h0 => absurd (h0.symm.trans e0) (by simp), fun h0 => absurd (h0.symm.trans e0) (by simp)⟩
    ((conv => whnf); repeat ((first | refine Br.t ?_ | refine Br.f ?_ | refine ob ?_ | refine ⟨_, rfl, ?_⟩ | refine ⟨_, _, rfl, ?_⟩ | refine ⟨_, _, _, rfl, ?_⟩ | refine ⟨_, _, _, _, rfl, ?_⟩ | simp only []); (conv => whnf)))
    refine ⟨.inl ⟨rfl, rfl⟩, hw.2.1, hw.2.2.2.1, hrs, hhb, ?_⟩
    have e0' : (mailP m.ml && (domL (bl h) && !litL (bl h)) && (decide (0 ≤ n) && decide (n ≤ 1099511627776))) = false := e0
    ((conv => whnf); repeat ((first | refine Br.t ?_ | refine Br.f ?_ | refine ob ?_ | refine ⟨_, rfl, ?_⟩ | refine ⟨_, _, rfl, ?_⟩ | refine ⟨_, _, _, rfl, ?_⟩ | refine ⟨_, _, _, _, rfl, ?_⟩ | simp only [e0']); (conv => whnf)))
    refine ⟨md0, md0, .nil, .nil, [], [], rfl, .inr (.inl ⟨rfl, rfl, rfl⟩), .inr (.inl ⟨rfl, rfl, rfl⟩), rfl, by decide, by decide, ?_⟩
    ((conv => whnf); repeat ((first | refine Br.t ?_ | refine Br.f ?_ | refine ob ?_ | refine ⟨_, rfl, ?_⟩ | refine ⟨_, _, rfl, ?_⟩ | refine ⟨_, _, _, rfl, ?_⟩ | refine ⟨_, _, _, _, rfl, ?_⟩ | simp only [q0]); (conv => whnf)))
    refine ⟨m, m, .nil, .sl RT m.rc, [], [], rfl, .inr (.inl ⟨rfl, rfl, hz⟩), .inl ⟨rfl, rfl⟩, rfl, hw.1, hw.1, ?_⟩
    ((conv => whnf); repeat ((first | refine Br.t ?_ | refine Br.f ?_ | refine ob ?_ | refine ⟨_, rfl, ?_⟩ | refine ⟨_, _, rfl, ?_⟩ | refine ⟨_, _, _, rfl, ?_⟩ | refine ⟨_, _, _, _, rfl, ?_⟩ | simp only [q1]); (conv => whnf)))
    refine ⟨by decide, .inl ⟨trivial, trivial, rfl, ?_⟩⟩
    ((conv => whnf); repeat ((first | refine Br.t ?_ | refine Br.f ?_ | refine ob ?_ | refine ⟨_, rfl, ?_⟩ | refine ⟨_, _, rfl, ?_⟩ | refine ⟨_, _, _, rfl, ?_⟩ | refine ⟨_, _, _, _, rfl, ?_⟩ | simp only []); (conv => whnf)))
    refine ⟨m, m, .nil, .sl RT m.rc, [], [], rfl, .inr (.inl ⟨rfl, rfl, hz⟩), .inl ⟨rfl, rfl⟩, rfl, hw.1, hw.1, ?_⟩
    ((conv => whnf); repeat ((first | refine Br.t ?_ | refine Br.f ?_ | refine ob ?_ | refine ⟨_, rfl, ?_⟩ | refine ⟨_, _, rfl, ?_⟩ | refine ⟨_, _, _, rfl, ?_⟩ | refine ⟨_, _, _, _, rfl, ?_⟩ | simp only [q1, w1]); (conv => whnf)))
    exact hK' _ _ (by omega) ⟨j + 1, rfl, by omega, rfl⟩
  · ((conv => whnf); repeat ((first | refine Br.t ?_ | refine Br.f ?_ | refine ob ?_ | refine ⟨_, rfl, ?_⟩ | refine ⟨_, _, rfl, ?_⟩ | refine ⟨_, _, _, rfl, ?_⟩ | refine ⟨_, _, _, _, rfl, ?_⟩ | simp only []); (conv => whnf)))
    refine ⟨.inr (.inr ⟨true, rfl, rfl⟩), hL.sml, hw, hhm, fun e0 => ?_, fun e0 e1 => ?_, fun e0 e1 t ht mv2 => ?_⟩
    · have e0' : (mailP m.ml && (domL (bl h) && !litL (bl h)) && (decide (0 ≤ n) && decide (n ≤ 1099511627776))) = false := e0
      ((conv => whnf); repeat ((first | refine Br.t ?_ | refine Br.f ?_ | refine ob ?_ | refine ⟨_, rfl, ?_⟩ | refine ⟨_, _, rfl, ?_⟩ | refine ⟨_, _, _, rfl, ?_⟩ | refine ⟨_, _, _, _, rfl, ?_⟩ | simp only []); (conv => whnf)))
      refine ⟨.inl ⟨rfl, rfl⟩, hw.2.1, hw.2.2.2.1, hrs, hhb, ?_⟩
      ((conv => whnf); repeat ((first | refine Br.t ?_ | refine Br.f ?_ | refine ob ?_ | refine ⟨_, rfl, ?_⟩ | refine ⟨_, _, rfl, ?_⟩ | refine ⟨_, _, _, rfl, ?_⟩ | refine ⟨_, _, _, _, rfl, ?_⟩ | simp only [e0']); (conv => whnf)))
      refine ⟨md0, md0, .nil, .nil, [], [], rfl, .inr (.inl ⟨rfl, rfl, rfl⟩), .inr (.inl ⟨rfl, rfl, rfl⟩), rfl, by decide, by decide, ?_⟩
      ((conv => whnf); repeat ((first | refine Br.t ?_ | refine Br.f ?_ | refine ob ?_ | refine ⟨_, rfl, ?_⟩ | refine ⟨_, _, rfl, ?_⟩ | refine ⟨_, _, _, rfl, ?_⟩ | refine ⟨_, _, _, _, rfl, ?_⟩ | simp only [q0]); (conv => whnf)))
      refine ⟨m, m, .own 0, .sl RT m.rc, [.own 45 RT m.rc true false], [], rfl, .inr (.inr ⟨true, rfl, rfl⟩), .inl ⟨rfl, rfl⟩, rfl, hw.1, hw.1, ?_⟩
      ((conv => whnf); repeat ((first | refine Br.t ?_ | refine Br.f ?_ | refine ob ?_ | refine ⟨_, rfl, ?_⟩ | refine ⟨_, _, rfl, ?_⟩ | refine ⟨_, _, _, rfl, ?_⟩ | refine ⟨_, _, _, _, rfl, ?_⟩ | simp only [q1]); (conv => whnf)))
      refine ⟨by decide, .inl ⟨trivial, trivial, rfl, ?_⟩⟩
      ((conv => whnf); repeat ((first | refine Br.t ?_ | refine Br.f ?_ | refine ob ?_ | refine ⟨_, rfl, ?_⟩ | refine ⟨_, _, rfl, ?_⟩ | refine ⟨_, _, _, rfl, ?_⟩ | refine ⟨_, _, _, _, rfl, ?_⟩ | simp only []); (conv => whnf)))
      refine ⟨m, m, .own 0, .sl RT m.rc, [.own 45 RT m.rc true false], [], rfl, .inr (.inr ⟨true, rfl, rfl⟩), .inl ⟨rfl, rfl⟩, rfl, hw.1, hw.1, ?_⟩
      ((conv => whnf); repeat ((first | refine Br.t ?_ | refine Br.f ?_ | refine ob ?_ | refine ⟨_, rfl, ?_⟩ | refine ⟨_, _, rfl, ?_⟩ | refine ⟨_, _, _, rfl, ?_⟩ | refine ⟨_, _, _, _, rfl, ?_⟩ | simp only [q1, w1]); (conv => whnf)))
      exact hK' _ _ (by omega) ⟨j + 1, rfl, by omega, rfl⟩
    · have hT : TellOK m h := tell_ok (by simp only [mayMake, Bool.and_eq_true] at e0; exact e0.1.1) hw hhb
      have e0' : (mailP m.ml && (domL (bl h) && !litL (bl h)) && (decide (0 ≤ n) && decide (n ≤ 1099511627776))) = true := e0
      ((conv => whnf); repeat ((first | refine Br.t ?_ | refine Br.f ?_ | refine ob ?_ | refine ⟨_, rfl, ?_⟩ | refine ⟨_, _, rfl, ?_⟩ | refine ⟨_, _, _, rfl, ?_⟩ | refine ⟨_, _, _, _, rfl, ?_⟩ | simp only []); (conv => whnf)))
      refine ⟨.inl ⟨rfl, rfl⟩, hw.2.1, hw.2.2.2.1, hrs, hhb, ?_⟩
      ((conv => whnf); repeat ((first | refine Br.t ?_ | refine Br.f ?_ | refine ob ?_ | refine ⟨_, rfl, ?_⟩ | refine ⟨_, _, rfl, ?_⟩ | refine ⟨_, _, _, rfl, ?_⟩ | refine ⟨_, _, _, _, rfl, ?_⟩ | simp only [e0']); (conv => whnf)))
      refine ⟨.inl ⟨rfl, rfl⟩, hT.rc, hT.fl, hT.fd, hT.h, hT.rs, fun _ => ?_, fun h0 => absurd (h0.symm.trans e1) (by simp)⟩
      ((conv => whnf); repeat ((first | refine Br.t ?_ | refine Br.f ?_ | refine ob ?_ | refine ⟨_, rfl, ?_⟩ | refine ⟨_, _, rfl, ?_⟩ | refine ⟨_, _, _, rfl, ?_⟩ | refine ⟨_, _, _, _, rfl, ?_⟩ | simp only []); (conv => whnf)))
      refine ⟨md0, md0, .nil, .nil, [], [], rfl, .inr (.inl ⟨rfl, rfl, rfl⟩), .inr (.inl ⟨rfl, rfl, rfl⟩), rfl, by decide, by decide, ?_⟩
      ((conv => whnf); repeat ((first | refine Br.t ?_ | refine Br.f ?_ | refine ob ?_ | refine ⟨_, rfl, ?_⟩ | refine ⟨_, _, rfl, ?_⟩ | refine ⟨_, _, _, rfl, ?_⟩ | refine ⟨_, _, _, _, rfl, ?_⟩ | simp only [q0]); (conv => whnf)))
      refine ⟨m, m, .own 0, .sl RT m.rc, [.own 45 RT m.rc true false], [], rfl, .inr (.inr ⟨true, rfl, rfl⟩), .inl ⟨rfl, rfl⟩, rfl, hw.1, hw.1, ?_⟩
      ((conv => whnf); repeat ((first | refine Br.t ?_ | refine Br.f ?_ | refine ob ?_ | refine ⟨_, rfl, ?_⟩ | refine ⟨_, _, rfl, ?_⟩ | refine ⟨_, _, _, rfl, ?_⟩ | refine ⟨_, _, _, _, rfl, ?_⟩ | simp only [q1]); (conv => whnf)))
      refine ⟨by decide, .inl ⟨trivial, trivial, rfl, ?_⟩⟩
      ((conv => whnf); repeat ((first | refine Br.t ?_ | refine Br.f ?_ | refine ob ?_ | refine ⟨_, rfl, ?_⟩ | refine ⟨_, _, rfl, ?_⟩ | refine ⟨_, _, _, rfl, ?_⟩ | refine ⟨_, _, _, _, rfl, ?_⟩ | simp only []); (conv => whnf)))
      refine ⟨m, m, .own 0, .sl RT m.rc, [.own 45 RT m.rc true false], [], rfl, .inr (.inr ⟨true, rfl, rfl⟩), .inl ⟨rfl, rfl⟩, rfl, hw.1, hw.1, ?_⟩
      ((conv => whnf); repeat ((first | refine Br.t ?_ | refine Br.f ?_ | refine ob ?_ | refine ⟨_, rfl, ?_⟩ | refine ⟨_, _, rfl, ?_⟩ | refine ⟨_, _, _, rfl, ?_⟩ | refine ⟨_, _, _, _, rfl, ?_⟩ | simp only [q1, w1]); (conv => whnf)))
      exact hK' _ _ (by omega) ⟨j + 1, rfl, by omega, rfl⟩
    · have hT : TellOK m h := tell_ok (by simp only [mayMake, Bool.and_eq_true] at e0; exact e0.1.1) hw hhb
      have e0' : (mailP m.ml && (domL (bl h) && !litL (bl h)) && (decide (0 ≤ n) && decide (n ≤ 1099511627776))) = true := e0
      ((conv => whnf); repeat ((first | refine Br.t ?_ | refine Br.f ?_ | refine ob ?_ | refine ⟨_, rfl, ?_⟩ | refine ⟨_, _, rfl, ?_⟩ | refine ⟨_, _, _, rfl, ?_⟩ | refine ⟨_, _, _, _, rfl, ?_⟩ | simp only []); (conv => whnf)))
      refine ⟨.inl ⟨rfl, rfl⟩, hw.2.1, hw.2.2.2.1, hrs, hhb, ?_⟩
      ((conv => whnf); repeat ((first | refine Br.t ?_ | refine Br.f ?_ | refine ob ?_ | refine ⟨_, rfl, ?_⟩ | refine ⟨_, _, rfl, ?_⟩ | refine ⟨_, _, _, rfl, ?_⟩ | refine ⟨_, _, _, _, rfl, ?_⟩ | simp only [e0']); (conv => whnf)))
      refine ⟨.inl ⟨rfl, rfl⟩, hT.rc, hT.fl, hT.fd, hT.h, hT.rs, fun h0 => absurd (h0.symm.trans e1) (by simp), fun _ t2 ht2 mv3 => ?_⟩
      have q5 : decide ((made m n t).ml = (made m n t2).ml) = true := decide_eq_true (made_ml (ht.trans ht2.symm))
      have l1 : (made m n t).rc.length ≤ big := by simp [made, big]
      have l2 : (made m n t2).rc.length ≤ big := by simp [made, big]
      ((conv => whnf); repeat ((first | refine Br.t ?_ | refine Br.f ?_ | refine ob ?_ | refine ⟨_, rfl, ?_⟩ | refine ⟨_, _, rfl, ?_⟩ | refine ⟨_, _, _, rfl, ?_⟩ | refine ⟨_, _, _, _, rfl, ?_⟩ | simp only []); (conv => whnf)))
      refine ⟨[5, 6], (.take 0 (.take 1 (.br 2 .done .nil))), by kernel_rfl, ?_⟩
      ((conv => whnf); repeat ((first | refine Br.t ?_ | refine Br.f ?_ | refine ob ?_ | refine ⟨_, rfl, ?_⟩ | refine ⟨_, _, rfl, ?_⟩ | refine ⟨_, _, _, rfl, ?_⟩ | refine ⟨_, _, _, _, rfl, ?_⟩ | simp only []); (conv => whnf)))
      refine ⟨made m n t, made m n t2, .own 0, .own 1, [.own 45 RT (made m n t).rc true false], [.own 45 RT (made m n t2).rc true false], rfl, .inr (.inr ⟨true, rfl, rfl⟩), .inr (.inr ⟨true, rfl, rfl⟩), rfl, l1, l2, ?_⟩
      ((conv => whnf); repeat ((first | refine Br.t ?_ | refine Br.f ?_ | refine ob ?_ | refine ⟨_, rfl, ?_⟩ | refine ⟨_, _, rfl, ?_⟩ | refine ⟨_, _, _, rfl, ?_⟩ | refine ⟨_, _, _, _, rfl, ?_⟩ | simp only [q5]); (conv => whnf)))
      refine ⟨m, m, .own 0, .sl RT m.rc, [.own 45 RT m.rc true false], [], rfl, .inr (.inr ⟨true, rfl, rfl⟩), .inl ⟨rfl, rfl⟩, rfl, hw.1, hw.1, ?_⟩
      ((conv => whnf); repeat ((first | refine Br.t ?_ | refine Br.f ?_ | refine ob ?_ | refine ⟨_, rfl, ?_⟩ | refine ⟨_, _, rfl, ?_⟩ | refine ⟨_, _, _, rfl, ?_⟩ | refine ⟨_, _, _, _, rfl, ?_⟩ | simp only [q1]); (conv => whnf)))
      refine .inr ⟨true, trivial, rfl, ?_⟩
      ((conv => whnf); repeat ((first | refine Br.t ?_ | refine Br.f ?_ | refine ob ?_ | refine ⟨_, rfl, ?_⟩ | refine ⟨_, _, rfl, ?_⟩ | refine ⟨_, _, _, rfl, ?_⟩ | refine ⟨_, _, _, _, rfl, ?_⟩ | simp only []); (conv => whnf)))
      refine ⟨m, m, .own 0, .sl RT m.rc, [.own 45 RT m.rc true false], [], rfl, .inr (.inr ⟨true, rfl, rfl⟩), .inl ⟨rfl, rfl⟩, rfl, hw.1, hw.1, ?_⟩
      ((conv => whnf); repeat ((first | refine Br.t ?_ | refine Br.f ?_ | refine ob ?_ | refine ⟨_, rfl, ?_⟩ | refine ⟨_, _, rfl, ?_⟩ | refine ⟨_, _, _, rfl, ?_⟩ | refine ⟨_, _, _, _, rfl, ?_⟩ | simp only [q1, w1]); (conv => whnf)))
      exact hK' _ _ (by omega) ⟨j + 1, rfl, by omega, rfl⟩
end Go.Proofs.YtbhejifllgnliaaGreatDoor.Ab
namespace Go.Proofs.YtbhejifllgnliaaGreatDoor.Ab
open Go Go.RowKit Go.Proofs.YtbhejifllgnliaaGreatDoorW.PrintWords
set_option linter.unusedSimpArgs false
set_option linter.unusedVariables false
set_option maxRecDepth 100000
theorem opb29 : OpnB Tryz.prog bulkB 29 AskT askSmall :=
  (OpnB.struct (by kernel_rfl) Tryz.underlying29 (OpnBs.cons opb27 rfl (OpnBs.cons opb9 rfl (OpnBs.one opb3 rfl)))).imp fun x h => ⟨h.1, Nat.le_trans h.2.1 (by decide)⟩
theorem opb22 : OpnB Tryz.prog bulkB 22 (.slice 29 AskT) (fun l => l.length ≤ bulkB ∧ ∀ x ∈ l, askSmall x) := OpnB.slice (by kernel_rfl) Tryz.underlying22 opb29
end Go.Proofs.YtbhejifllgnliaaGreatDoor.Ab
namespace Go.Proofs.YtbhejifllgnliaaGreatDoor.bounceMakes
open Go Go.ChangeShapes Go.WideShapes Go.ChangeAt Go.RowKit Go.Proofs.YtbhejifllgnliaaGreatDoor.Ab
open Go.ChangeMaps (open_string shut_string)
set_option linter.unusedVariables false
set_option maxRecDepth 100000
theorem reads (os : Os) {H : Type} (enc : TypeId × Value → H) : ∃ places, DataW.whole enc Tryz.prog ((laidWorld os).forCall (fun _ _ => 0) ⟨#[], #[.slice none 0 0], []⟩).memory Tryz.f3.params.toList Rows.bounceMakesSpec.vars false #[Value.slice none 0 0].toList 8 = some ([.nil], [], places) :=
  ⟨[], by kernel_rfl⟩
theorem contract (H : Type) (enc : TypeId × Value → H) (W : World) (base : Nat) (args : Array Value) (ds gs : List (DataW H)) (before : List MemPlace)
    (hval0 : ∀ (j : Nat) t v, Tryz.f3.params[j]? = some t → args[j]? = some v → Value.okWide Tryz.prog W .any base t v)
    (hW : DataW.Whole enc Tryz.prog Tryz.f3.params.toList Rows.bounceMakesSpec.vars false W args.toList ds gs before) (hbk : Rows.uptoSmall H (ds ++ gs) = true)
    (hsz0 : (DataW.weightsEach Tryz.prog (Tryz.f3.params.toList ++ Rows.bounceMakesSpec.plain.varTypes Tryz.prog) (ds ++ gs)).all (· ≤ reachBytes) = true)
    (hL : laidMetH Tryz.prog Rows.bounceMakesUptoRow.laid W) (hsh : W.ShapedOpen Tryz.prog) :
    Calls Tryz.prog 3 args W fun e W' => ∃ v, e = .returned v ∧ Rows.bounceMakesSpec.post enc Tryz.prog Tryz.f3 false true false false W args v W' := by
  have hval : ∀ (j : Nat) t v, Tryz.f3.params[j]? = some t → args[j]? = some v → Value.okWide Tryz.prog W .any base t v := hval0
  have hsz := hsz0
  have hW' := hW
  have hbound : Rows.uptoBulkAll (ds ++ gs) ≤ 1048576 := of_decide_eq_true hbk
  obtain ⟨p, q, hA0, hV, rfl, hfz, hnd⟩ := hW
  have hA : DataW.TrodAll enc Tryz.prog W 0 (fun _ => true) true Tryz.f3.params.toList args.toList ds p := hA0
  rw [Tryz.params3] at hA hval hsz
  obtain ⟨v0, vs0, d0, ds0, p0, q0, hargs, rfl, rfl, h0, r0⟩ := trodAll_cons hA
  obtain ⟨rfl, rfl, rfl⟩ := trodAll_nil r0
  obtain rfl : args = #[v0] := by cases args; simp_all
  obtain ⟨rfl, rfl⟩ := trodVars_none hV
  have k0 := h0
  have lt0 : ∀ x ∈ p0, x.block < W.heap.size := by obtain ⟨m, hm⟩ := k0; exact DataW.trod_lt m _ _ _ hm
  have hw0 : ∀ n ∈ d0.weights Tryz.prog 22, n ≤ reachBytes := fun n hn => by
    have := List.all_eq_true.1 hsz _ (DataW.weights_mem_each (j := 0) (t := 22) (d := d0) rfl rfl n hn)
    simpa using this
  have hb0 : Rows.uptoBulk d0 ≤ bulkB := Nat.le_trans (bulk_part (by simp)) hbound
  obtain ⟨a0, len0, cap0, rfl⟩ := okWide_slice Tryz.underlying22 (hval 0 22 v0 rfl rfl)
  obtain ⟨fuel0, hf0⟩ := h0
  obtain ⟨x0, hT, hwf0⟩ := opb22.op hf0 hw0 hb0
  obtain ⟨A0, c0, hcs0, hle0, hC0⟩ := hT
  simp only [Value.cells, List.cons.injEq, Value.slice.injEq, and_true] at hcs0
  obtain ⟨rfl, rfl, rfl⟩ := hcs0
  refine (ok3.top (Gr.of_laid hsh hL).gnd (ags := [.one (.sl AskT x0)]) (vs := [.slice a0 x0.length cap0]) (K := fun o => o = .ret (.one (.bool true))) ⟨⟨a0, cap0, rfl, hle0, hC0⟩, trivial⟩ ⟨x0, rfl, rfl, Nat.le_trans hwf0.1 (by decide), hwf0.2, rfl, rfl⟩).mono ?_
  rintro e W' ⟨bel, out, rfl, v, rfl, rfl⟩
  exact ⟨_, rfl, _, _, _, [], _, [], hW', trodAll_mk1 (shut_bool Tryz.underlying4 _), (trodAll_cons_mk (Below.trod laidOut (by kernel_rfl) (of_decide_eq_true (by kernel_rfl)) k0 bel lt0) trodAll_mk0), rfl, bel.frame _, fun h => by cases h⟩
theorem lifted (os : Os) (started : os.Started) (H : Type) (enc : TypeId × Value → H) (F : Stop.Interp) :
    ReturnsInHanded {} Tryz.checked os 3 .any ((Rows.OpenSpec.upto Rows.bounceMakesSpec).preRow enc Tryz.prog Tryz.f3 Rows.bounceMakesUptoRow.domain false Rows.bounceMakesUptoRow.laid) (((Rows.OpenSpec.upto Rows.bounceMakesSpec).at F).post enc Tryz.prog Tryz.f3 false true false false) := by
  obtain ⟨places, hx⟩ := reads os enc
  refine returnsInHanded_of_row (C := Tryz.checked) (s := Rows.OpenSpec.upto Rows.bounceMakesSpec) own started (by kernel_rfl) Tryz.func3
    (witness_row_atRef (enc := enc) (C := Tryz.checked) false (laidWorld os) #[.slice none 0 0] rfl (by kernel_rfl) (by kernel_rfl) (by kernel_rfl)
      (OpenSpec.preRow_of_cond 8 hx (by kernel_rfl) (fun k hk => by cases hk; kernel_rfl) (by kernel_rfl) (door_met os _))) ?_
  intro W base args ds gs before hval hW _ hcond hsz hL hsh _
  exact contract H enc W base args ds gs before hval hW (hcond _ rfl) hsz hL hsh
theorem said : Rows.BounceMakesUptoSaid :=
  OpenClaim.holds_of_cond 3 Tryz.f3 rfl rfl rfl rfl rfl rfl rfl ⟨rfl, rfl, rfl, rfl, rfl⟩ rfl rfl rfl rfl rfl (by kernel_rfl) Tryz.func3 (by kernel_rfl)
    (of_decide_eq_true (by kernel_rfl)) (by unfold Func.isWrapper; first | (rw [if_pos (by decide +kernel)]; kernel_rfl) | (rw [if_neg (by decide +kernel)]; exact ⟨rfl, rfl⟩))
    (fun os started H enc _ F => by rw [OpenClaim.pre_eq_preRow]; exact lifted os started H enc F)
/-- No parameter wants a stand-in; the program's own looks are off: what the card asks. -/
theorem plain (f : FuncId) (fn : Func) (hf : Tryz.pinned.checked.prog.funcNamed "pouch/pouchlaw21.BounceMakes" = some f) (hfn : Tryz.pinned.checked.prog.funcs[f]? = some fn) :
    true = Tryz.pinned.checked.prog.looks [] ∧ ∀ (j : Nat) t, fn.params[j]? = some t → Tryz.pinned.checked.prog.wantsStandIn t = false := by
  obtain rfl : f = 3 := Option.some.inj ((show Tryz.prog.funcNamed "pouch/pouchlaw21.BounceMakes" = some 3 by kernel_rfl).symm.trans hf) |>.symm
  obtain rfl : fn = Tryz.f3 := (Option.some.inj (Tryz.func3.symm.trans hfn)).symm
  refine ⟨by kernel_rfl, fun j t ht => ?_⟩
  rw [Tryz.params3] at ht
  obtain rfl : t = 22 := by simpa using Array.mem_of_getElem? ht
  exact (show Tryz.prog.wantsStandIn 22 = false by kernel_rfl)
theorem card : Rows.BounceMakesUptoCardSaid :=
  Claim7.holds_tied_plain_at .later [] _ _ _ _ said (fun _ h => by cases h) (by kernel_rfl) (fun _ h => by cases h) bounceMakesUpto_row_tie rfl ⟨rfl, rfl⟩ (by kernel_rfl) rfl plain (by kernel_rfl)
end Go.Proofs.YtbhejifllgnliaaGreatDoor.bounceMakes
namespace Go.Proofs.YtbhejifllgnliaaGreatDoor
/-- The statement, under a short name, for the claim. -/
theorem bounceMakes_holds : Rows.BounceMakesUptoCardSaid := bounceMakes.card
end Go.Proofs.YtbhejifllgnliaaGreatDoor
