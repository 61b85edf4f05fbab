/- Part 3 of 5 of the proof of mailTurned_holds: texts put together by a program; no condition. -/
import Derived.Test.YtbhejifllgnliaaGreatDoorZf2
import Derived.Shelf.Strings.Builder1
import Derived.TacticsInMore
import Derived.Shelf.Strconv.Itoa3
import Derived.Lib.AppendIntMem
import Derived.Shelf.Strconv.AtoiAll
import Derived.Shelf.Strings.Split
import Derived.Test.YtbhejifllgnliaaGreatDoorZf1
import Derived.Deep.Slices
import Derived.SizedLaws
import Derived.Test.YtbhejifllgnliaaGreatDoorRows
import Derived.Stop.LaidErr
import Derived.Lib.LaidTab
import Derived.Lib.LaidIn
import Derived.LaidMore
import Derived.HandedShaped
import Derived.MakeChecks
import Derived.Test.YtbhejifllgnliaaGreatDoorTie
import Derived.Test.YtbhejifllgnliaaGreatDoorCards
import Derived.Deep.DeepHandedRow
import Derived.Deep.DeepWitnessRowRef
import Derived.WalkKit
import Derived.ProofKit
import Derived.OpenShut
import Derived.ShutString
import Derived.ChangeOld
import Derived.Below
namespace Go.Proofs.YtbhejifllgnliaaGreatDoor.Ab
open Go Go.RowKit Go.Proofs.YtbhejifllgnliaaGreatDoorW.PrintWords
set_option linter.unusedSimpArgs false
set_option linter.unusedVariables false
set_option maxRecDepth 100000
variable {G : World → Prop}
def bl (s : ByteArray) : List Int := s.data.toList.map fun b => (b.toNat : Int)
theorem bl_length (s : ByteArray) : (bl s).length = s.size := by unfold bl; rw [List.length_map, Array.length_toList]; rfl
theorem bl_inj {s t : ByteArray} (h : bl s = bl t) : s = t := by
  obtain ⟨a⟩ := s; obtain ⟨b⟩ := t
  simp only [bl] at h
  congr 1
  apply Array.toList_inj.1
  have key : ∀ (l m : List UInt8), l.map (fun b => (b.toNat : Int)) = m.map (fun b => (b.toNat : Int)) → l = m := by
    intro l
    induction l with
    | nil => intro m h; cases m with
      | nil => rfl
      | cons y m => cases h
    | cons x l ih => intro m h; cases m with
      | nil => cases h
      | cons y m =>
        simp only [List.map_cons, List.cons.injEq] at h
        rw [ih m h.2]
        have : x.toNat = y.toNat := by omega
        rw [UInt8.toNat_inj.1 this]
  exact key _ _ h
theorem bl_append (s t : ByteArray) : bl (s ++ t) = bl s ++ bl t := by
  unfold bl; rw [ByteArray.data_append, Array.toList_append, List.map_append]
theorem bl_extract (s : ByteArray) (a b : Nat) : bl (s.extract a b) = ((bl s).take b).drop a := by
  unfold bl; rw [ByteArray.data_extract, Array.toList_extract, List.extract_eq_drop_take', List.map_drop, List.map_take]
theorem bl_get {s : ByteArray} {j : Nat} (h : j < s.size) : (bl s)[j]? = some (bt s j) := by
  have h' : j < s.data.toList.length := by rw [Array.length_toList]; exact h
  unfold bl
  rw [List.getElem?_map, List.getElem?_eq_getElem h', Option.map_some]
  unfold bt
  rw [dif_pos (show (j : Int).toNat < s.size from h)]
  rfl
theorem bl_drop {s : ByteArray} {j : Nat} (h : j < s.size) : (bl s).drop j = bt s j :: (bl s).drop (j + 1) := by
  have h' : j < (bl s).length := by rw [bl_length]; exact h
  rw [List.drop_eq_getElem_cons h']
  congr 1
  have := bl_get h
  rw [List.getElem?_eq_getElem h'] at this
  exact Option.some.inj this
theorem bl_range {s : ByteArray} {c : Int} (h : c ∈ bl s) : 0 ≤ c ∧ c ≤ 255 := by
  simp only [bl, List.mem_map] at h
  obtain ⟨b, _, rfl⟩ := h
  have := b.toNat_lt
  omega
theorem str_beq (a b : ByteArray) : (a.toList == b.toList) = decide (bl a = bl b) := by
  rw [Bool.eq_iff_iff, beq_iff_eq, decide_eq_true_iff, ByteArray.toList_eq, ByteArray.toList_eq]
  exact ⟨fun h => by unfold bl; rw [h], fun h => by rw [bl_inj h]⟩
def pre (p l : List Int) : Bool := decide (l.take p.length = p)
def suf (p l : List Int) : Bool := decide (p.length ≤ l.length) && decide (l.drop (l.length - p.length) = p)
def s90 : Sense := pureS fun xs K => ∃ s p, xs = [.one (.str s), .one (.str p)] ∧ K (.ret (.one (.bool (pre (bl p) (bl s)))))
theorem ok90 : SenseOK G Go.Proofs.Tryz.prog 90 s90 := SenseOK.pure Γ0.ok (fun _ => []) Go.Proofs.Tryz.func90 fun xs K h => by
  obtain ⟨s, p, rfl, hk⟩ := h
  ((conv => whnf); repeat ((first | refine Br.t ?_ | refine Br.f ?_ | refine ob ?_ | refine ⟨_, rfl, ?_⟩ | refine ⟨_, _, rfl, ?_⟩ | refine ⟨_, _, _, rfl, ?_⟩ | refine ⟨_, _, _, _, rfl, ?_⟩); (conv => whnf)))
  refine Br.mk (fun h1 => ?_) (fun h1 => ?_)
  · rw [h1]
    simp only [ge_iff_le, decide_eq_true_eq, Int.ofNat_le] at h1
    ((conv => whnf); repeat ((first | refine Br.t ?_ | refine Br.f ?_ | refine ob ?_ | refine ⟨_, rfl, ?_⟩ | refine ⟨_, _, rfl, ?_⟩ | refine ⟨_, _, _, rfl, ?_⟩ | refine ⟨_, _, _, _, rfl, ?_⟩); (conv => whnf)))
    exact retB hk (by rw [cond_true, str_beq, bl_extract, pre, bl_length]; rfl)
  · rw [h1]
    simp only [ge_iff_le, decide_eq_false_iff_not, Int.ofNat_le] at h1
    ((conv => whnf); repeat ((first | refine Br.t ?_ | refine Br.f ?_ | refine ob ?_ | refine ⟨_, rfl, ?_⟩ | refine ⟨_, _, rfl, ?_⟩ | refine ⟨_, _, _, rfl, ?_⟩ | refine ⟨_, _, _, _, rfl, ?_⟩); (conv => whnf)))
    refine retB hk (Eq.symm ?_)
    simp only [cond_false, pre, decide_eq_false_iff_not]
    intro h
    have := congrArg List.length h
    rw [List.length_take, bl_length, bl_length] at this
    omega
theorem Γ90.ok : SemsOK G Go.Proofs.Tryz.prog (ext 90 s90 Γ0) := Γ0.ok.ext Go.Proofs.Tryz.func90 rfl (by decide) ok90
theorem ok63 : SenseOK G Go.Proofs.Tryz.prog 63 s90 := SenseOK.pure Γ90.ok (fun _ => []) Go.Proofs.Tryz.func63 fun xs K h => by
  obtain ⟨s, p, rfl, hk⟩ := h
  ((conv => whnf); repeat ((first | refine Br.t ?_ | refine Br.f ?_ | refine ob ?_ | refine ⟨_, rfl, ?_⟩ | refine ⟨_, _, rfl, ?_⟩ | refine ⟨_, _, _, rfl, ?_⟩ | refine ⟨_, _, _, _, rfl, ?_⟩); (conv => whnf)))
  exact hk
theorem Γ63.ok : SemsOK G Go.Proofs.Tryz.prog (ext 63 s90 Γ0) := Γ0.ok.ext Go.Proofs.Tryz.func63 rfl (by decide) ok63
def s39 : Sense := pureS fun xs K => ∃ s, xs = [.one (.str s)] ∧ K (.ret (.one (.bool (pre [91] (bl s)))))
theorem ok39 : SenseOK G Go.Proofs.Tryz.prog 39 s39 := SenseOK.pure Γ63.ok (fun _ => []) Go.Proofs.Tryz.func39 fun xs K h => by
  obtain ⟨s, rfl, hk⟩ := h
  ((conv => whnf); repeat ((first | refine Br.t ?_ | refine Br.f ?_ | refine ob ?_ | refine ⟨_, rfl, ?_⟩ | refine ⟨_, _, rfl, ?_⟩ | refine ⟨_, _, _, rfl, ?_⟩ | refine ⟨_, _, _, _, rfl, ?_⟩); (conv => whnf)))
  exact hk
def s84 : Sense := pureS fun xs K => ∃ s p, xs = [.one (.str s), .one (.str p)] ∧ s.size ≤ big ∧ K (.ret (.one (.bool (suf (bl p) (bl s)))))
theorem ok84 : SenseOK G Go.Proofs.Tryz.prog 84 s84 := SenseOK.pure Γ0.ok (fun _ => []) Go.Proofs.Tryz.func84 fun xs K h => by
  obtain ⟨s, p, rfl, hb, hk⟩ := h
  simp only [big] at hb
  ((conv => whnf); repeat ((first | refine Br.t ?_ | refine Br.f ?_ | refine ob ?_ | refine ⟨_, rfl, ?_⟩ | refine ⟨_, _, rfl, ?_⟩ | refine ⟨_, _, _, rfl, ?_⟩ | refine ⟨_, _, _, _, rfl, ?_⟩); (conv => whnf)))
  refine Br.mk (fun h1 => ?_) (fun h1 => ?_)
  · rw [h1]
    simp only [ge_iff_le, decide_eq_true_eq, Int.ofNat_le] at h1
    ((conv => whnf); repeat ((first | refine Br.t ?_ | refine Br.f ?_ | refine ob ?_ | refine ⟨_, rfl, ?_⟩ | refine ⟨_, _, rfl, ?_⟩ | refine ⟨_, _, _, rfl, ?_⟩ | refine ⟨_, _, _, _, rfl, ?_⟩); (conv => whnf)))
    rw [IntWalk.i64_in (↑s.size - ↑p.size) (by omega)]
    ((conv => whnf); repeat ((first | refine Br.t ?_ | refine Br.f ?_ | refine ob ?_ | refine ⟨_, rfl, ?_⟩ | refine ⟨_, _, rfl, ?_⟩ | refine ⟨_, _, _, rfl, ?_⟩ | refine ⟨_, _, _, _, rfl, ?_⟩); (conv => whnf)))
    refine retB hk ?_
    rw [cond_true, str_beq, bl_extract, suf, bl_length, bl_length]
    have e1 : ((s.size : Int) - p.size).toNat = s.size - p.size := by omega
    have e2 : (bl s).take s.size = bl s := List.take_of_length_le (by rw [bl_length]; exact Nat.le_refl _)
    rw [e1, e2]
    simp [h1]
  · rw [h1]
    simp only [ge_iff_le, decide_eq_false_iff_not, Int.ofNat_le] at h1
    ((conv => whnf); repeat ((first | refine Br.t ?_ | refine Br.f ?_ | refine ob ?_ | refine ⟨_, rfl, ?_⟩ | refine ⟨_, _, rfl, ?_⟩ | refine ⟨_, _, _, rfl, ?_⟩ | refine ⟨_, _, _, _, rfl, ?_⟩); (conv => whnf)))
    refine retB hk (Eq.symm ?_)
    simp [suf, bl_length, h1]
theorem Γ84.ok : SemsOK G Go.Proofs.Tryz.prog (ext 84 s84 Γ0) := Γ0.ok.ext Go.Proofs.Tryz.func84 rfl (by decide) ok84
theorem ok59 : SenseOK G Go.Proofs.Tryz.prog 59 s84 := SenseOK.pure Γ84.ok (fun _ => []) Go.Proofs.Tryz.func59 fun xs K h => by
  obtain ⟨s, p, rfl, hb, hk⟩ := h
  ((conv => whnf); repeat ((first | refine Br.t ?_ | refine Br.f ?_ | refine ob ?_ | refine ⟨_, rfl, ?_⟩ | refine ⟨_, _, rfl, ?_⟩ | refine ⟨_, _, _, rfl, ?_⟩ | refine ⟨_, _, _, _, rfl, ?_⟩); (conv => whnf)))
  exact hk
def idx (l : List Int) (c : Int) : Int := match l with
  | [] => -1
  | x :: l => if x = c then 0 else if idx l c = -1 then -1 else idx l c + 1
def s147 : Sense := pureS fun xs K => ∃ s c, xs = [.one (.str s), .one (.int .u8 c)] ∧ 0 ≤ c ∧ c ≤ 255 ∧ K (.ret (.one (.int .i64 (idx (bl s) c))))
theorem ok147 : SenseOK G Go.Proofs.Tryz.prog 147 s147 := SenseOK.lib fun xs K h => by
  obtain ⟨s, c, rfl, h0, h1, hk⟩ := h
  have key : ∀ (l : List UInt8), Lib.indexByte l c.toNat.toUInt8 = idx (l.map fun b => (b.toNat : Int)) c := by
    intro l
    induction l with
    | nil => rfl
    | cons x l ih =>
      have hc : (c.toNat.toUInt8).toNat = c.toNat := by
        rw [Nat.toUInt8, UInt8.toNat_ofNat']; omega
      have hx : (x == c.toNat.toUInt8) = decide ((x.toNat : Int) = c) := by
        rw [Bool.eq_iff_iff, beq_iff_eq, decide_eq_true_iff, ← UInt8.toNat_inj, hc]; omega
      simp only [Lib.indexByte, List.map_cons, idx, hx, ih, decide_eq_true_eq, beq_iff_eq]
  refine ⟨[.string s, .int .u8 c], fun w I lk vs hv => ?_, .ret (.one (.int .i64 (idx (bl s) c))), .returned (.int .i64 (idx (bl s) c)), hk, fun w I lk => ⟨_, rfl, rfl⟩, fun w hw => (Go.Proofs.Tryz.strings_IndexByte s c w).mono ?_⟩
  · obtain ⟨v1, m1, rfl, h1, h2⟩ := hv.cons_inv
    obtain ⟨v2, m2, rfl, h3, h4⟩ := h2.cons_inv
    obtain rfl := h4.nil_inv
    rw [show v1 = .string s from h1, show v2 = .int .u8 c from h3]
  · rintro e w' ⟨rfl, rfl⟩
    exact ⟨by rw [key]; rfl, Below.refl _ _⟩
def s124 : Sense := pureS fun xs K => ∃ b, xs = [.one (.bool b)] ∧ Br b (K (.ret (.tup []))) (K (.pan (.ifa 139 .i64 8)))
theorem ok124 : SenseOK G Go.Proofs.Tryz.prog 124 s124 := SenseOK.pure Γ0.ok (fun _ => []) Go.Proofs.Tryz.func124 fun xs K h => by
  obtain ⟨b, rfl, hk⟩ := h
  have hk' := Br_iff.1 hk
  ((conv => whnf); repeat ((first | refine Br.t ?_ | refine Br.f ?_ | refine ob ?_ | refine ⟨_, rfl, ?_⟩ | refine ⟨_, _, rfl, ?_⟩ | refine ⟨_, _, _, rfl, ?_⟩ | refine ⟨_, _, _, _, rfl, ?_⟩); (conv => whnf)))
  refine Br.mk (fun h1 => ?_) (fun h1 => ?_)
  · ((conv => whnf); repeat ((first | refine Br.t ?_ | refine Br.f ?_ | refine ob ?_ | refine ⟨_, rfl, ?_⟩ | refine ⟨_, _, rfl, ?_⟩ | refine ⟨_, _, _, rfl, ?_⟩ | refine ⟨_, _, _, _, rfl, ?_⟩); (conv => whnf)))
    exact hk'.2 (by simpa using h1)
  · ((conv => whnf); repeat ((first | refine Br.t ?_ | refine Br.f ?_ | refine ob ?_ | refine ⟨_, rfl, ?_⟩ | refine ⟨_, _, rfl, ?_⟩ | refine ⟨_, _, _, rfl, ?_⟩ | refine ⟨_, _, _, _, rfl, ?_⟩); (conv => whnf)))
    exact hk'.1 (by simpa using h1)
def isAtom (c : Int) : Bool := isSign c || (decide (65 ≤ c) && decide (c ≤ 90)) || [33, 35, 36, 37, 38, 39, 42, 43, 45, 47, 61, 63, 94, 95, 96, 123, 124, 125, 126].contains c
theorem idx_nonneg : ∀ (l : List Int) (c : Int), decide (idx l c ≥ 0) = l.contains c ∧ idx l c ≥ -1
  | [], c => by simp [idx]
  | x :: l, c => by
    have ih := idx_nonneg l c
    by_cases h : x = c
    · subst h; simp [idx]
    · by_cases h2 : idx l c = -1
      · have : l.contains c = false := by rw [← ih.1, h2]; rfl
        simp only [idx, if_neg h, if_pos h2]
        simp [this]
        simp at this
        exact ⟨fun e => h e.symm, this⟩
      · have h3 : idx l c ≥ 0 := by omega
        have : l.contains c = true := by rw [← ih.1]; simpa using h3
        simp only [idx, if_neg h, if_neg h2]
        simp at this
        refine ⟨?_, by omega⟩
        rw [Bool.eq_iff_iff]
        simp [this]
        omega
def Γat : Sems := ext 147 s147 (ext 89 s89 Γ0)
theorem Γat.ok : SemsOK G Go.Proofs.Tryz.prog Γat := (Γ1.ok).ext Go.Proofs.Tryz.func147 rfl (by decide) ok147
def s164 : Sense := pureS fun xs K => ∃ c, xs = [.one (.int .u8 c)] ∧ 0 ≤ c ∧ c ≤ 255 ∧ K (.ret (.one (.bool (isAtom c))))
theorem ok164 : SenseOK G Go.Proofs.Tryz.prog 164 s164 := SenseOK.pure Γat.ok (fun _ => []) Go.Proofs.Tryz.func164 fun xs K h => by
  obtain ⟨c, rfl, h0, h1, hk⟩ := h
  ((conv => whnf); repeat ((first | refine Br.t ?_ | refine Br.f ?_ | refine ob ?_ | refine ⟨_, rfl, ?_⟩ | refine ⟨_, _, rfl, ?_⟩ | refine ⟨_, _, _, rfl, ?_⟩ | refine ⟨_, _, _, _, rfl, ?_⟩); (conv => whnf)))
  have hi := idx_nonneg (bl ⟨#[33, 35, 36, 37, 38, 39, 42, 43, 45, 47, 61, 63, 94, 95, 96, 123, 124, 125, 126]⟩) c
  have hbl : bl ⟨#[33, 35, 36, 37, 38, 39, 42, 43, 45, 47, 61, 63, 94, 95, 96, 123, 124, 125, 126]⟩ = [33, 35, 36, 37, 38, 39, 42, 43, 45, 47, 61, 63, 94, 95, 96, 123, 124, 125, 126] := rfl
  rw [hbl] at hi
  have ha : isAtom c = ((bif isSign c then true else bif decide (c ≥ 65) then decide (c ≤ 90) else false) || [33, 35, 36, 37, 38, 39, 42, 43, 45, 47, 61, 63, 94, 95, 96, 123, 124, 125, 126].contains c) := by
    unfold isAtom; cases isSign c <;> simp [Bool.cond_eq_ite]
  generalize hg : (bif isSign c then true else bif decide (c ≥ 65) then decide (c ≤ 90) else false) = g at ha ⊢
  cases g with
  | true =>
    ((conv => whnf); repeat ((first | refine Br.t ?_ | refine Br.f ?_ | refine ob ?_ | refine ⟨_, rfl, ?_⟩ | refine ⟨_, _, rfl, ?_⟩ | refine ⟨_, _, _, rfl, ?_⟩ | refine ⟨_, _, _, _, rfl, ?_⟩); (conv => whnf)))
    exact retB hk (by rw [ha]; rfl)
  | false =>
    ((conv => whnf); repeat ((first | refine Br.t ?_ | refine Br.f ?_ | refine ob ?_ | refine ⟨_, rfl, ?_⟩ | refine ⟨_, _, rfl, ?_⟩ | refine ⟨_, _, _, rfl, ?_⟩ | refine ⟨_, _, _, _, rfl, ?_⟩); (conv => whnf)))
    refine retB hk ?_
    rw [ha, cond_false, Bool.false_or, hbl, hi.1]
theorem Γ164.ok : SemsOK G Go.Proofs.Tryz.prog (ext 164 s164 Γ0) := Γ0.ok.ext Go.Proofs.Tryz.func164 rfl (by decide) ok164
def plainL : List Int → Int → Bool
  | [], w => decide (w > 0)
  | c :: l, w => if (c = 46 ∧ w = 0) ∨ (c ≠ 46 ∧ isAtom c = false) then false else plainL l (if c = 46 then 0 else w + 1)
def isPlain (s : ByteArray) : Bool := plainL (bl s) 0
def s148 : Sense := pureS fun xs K => ∃ s, xs = [.one (.str s)] ∧ s.size ≤ big ∧ K (.ret (.one (.bool (isPlain s))))
theorem ok148 : SenseOK G Go.Proofs.Tryz.prog 148 s148 := SenseOK.pure Γ164.ok (fun _ => [0, 3, 6, 7]) Go.Proofs.Tryz.func148 fun xs K h => by
  obtain ⟨s, rfl, hb, hk⟩ := h
  simp only [big] at hb
  ((conv => whnf); repeat ((first | refine Br.t ?_ | refine Br.f ?_ | refine ob ?_ | refine ⟨_, rfl, ?_⟩ | refine ⟨_, _, rfl, ?_⟩ | refine ⟨_, _, _, rfl, ?_⟩ | refine ⟨_, _, _, _, rfl, ?_⟩); (conv => whnf)))
  refine iter_of (I := fun k σ => ∃ (j : Nat) (w : Int), k = s.size - j ∧ j ≤ s.size ∧ 0 ≤ w ∧ w ≤ j ∧ isPlain s = plainL ((bl s).drop j) w ∧ σ = ⟨slots 40 [(0, .one (.str s)), (3, .one (.int .i64 w)), (6, .one (.int .i64 s.size)), (7, .one (.int .i64 j))], []⟩) ?_ s.size ⟨0, 0, by omega, by omega, by omega, by omega, rfl, rfl⟩
  rintro k σ K' ⟨j, w, rfl, hj, hw0, hw, hp, rfl⟩ hK'
  ((conv => whnf); repeat ((first | refine Br.t ?_ | refine Br.f ?_ | refine ob ?_ | refine ⟨_, rfl, ?_⟩ | refine ⟨_, _, rfl, ?_⟩ | refine ⟨_, _, _, rfl, ?_⟩ | refine ⟨_, _, _, _, rfl, ?_⟩); (conv => whnf)))
  refine Br.mk (fun h1 => ?_) (fun h1 => ?_)
  · have h1' : j < s.size := by simpa using h1
    have hd := bl_drop h1'
    have hr : 0 ≤ bt s j ∧ bt s j ≤ 255 := bl_range (List.mem_of_getElem? (bl_get h1'))
    have g1 := IntWalk.i64_in (w + 1) (by omega)
    have g2 := IntWalk.i64_in (↑j + 1) (by omega)
    by_cases hc : bt s j = 46
    · have f1 : (bt s j == 46) = true := by simpa using hc
      have f2 : (bt s j != 46) = false := by simpa using hc
      by_cases hw' : w = 0
      · have f3 : (w == 0) = true := by simpa using hw'
        ((conv => whnf); repeat ((first | refine Br.t ?_ | refine Br.f ?_ | refine ob ?_ | refine ⟨_, rfl, ?_⟩ | refine ⟨_, _, rfl, ?_⟩ | refine ⟨_, _, _, rfl, ?_⟩ | refine ⟨_, _, _, _, rfl, ?_⟩ | simp only [f1, f2, f3]); (conv => whnf)))
        exact retB hk (by rw [hp, hd, plainL, if_pos (.inl ⟨hc, hw'⟩)])
      · have f3 : (w == 0) = false := by simpa using hw'
        ((conv => whnf); repeat ((first | refine Br.t ?_ | refine Br.f ?_ | refine ob ?_ | refine ⟨_, rfl, ?_⟩ | refine ⟨_, _, rfl, ?_⟩ | refine ⟨_, _, _, rfl, ?_⟩ | refine ⟨_, _, _, _, rfl, ?_⟩ | simp only [f1, f2, f3, g1, g2]); (conv => whnf)))
        exact hK' _ _ (by omega) ⟨j + 1, 0, rfl, by omega, by omega, by omega, by rw [hp, hd, plainL, if_neg (by simp [hc, hw']), if_pos hc], rfl⟩
    · have f1 : (bt s j == 46) = false := by simpa using hc
      have f2 : (bt s j != 46) = true := by simpa using hc
      cases ha : isAtom (bt s j) with
      | false =>
        ((conv => whnf); repeat ((first | refine Br.t ?_ | refine Br.f ?_ | refine ob ?_ | refine ⟨_, rfl, ?_⟩ | refine ⟨_, _, rfl, ?_⟩ | refine ⟨_, _, _, rfl, ?_⟩ | refine ⟨_, _, _, _, rfl, ?_⟩ | simp only [f1, f2, ha]); (conv => whnf)))
        exact retB hk (by rw [hp, hd, plainL, if_pos (.inr ⟨hc, ha⟩)])
      | true =>
        ((conv => whnf); repeat ((first | refine Br.t ?_ | refine Br.f ?_ | refine ob ?_ | refine ⟨_, rfl, ?_⟩ | refine ⟨_, _, rfl, ?_⟩ | refine ⟨_, _, _, rfl, ?_⟩ | refine ⟨_, _, _, _, rfl, ?_⟩ | simp only [f1, f2, ha, g1, g2]); (conv => whnf)))
        exact hK' _ _ (by omega) ⟨j + 1, w + 1, rfl, by omega, by omega, by omega, by rw [hp, hd, plainL, if_neg (by simp [hc, ha]), if_neg hc], rfl⟩
  · have h1' : j = s.size := by simp at h1; omega
    subst h1'
    ((conv => whnf); repeat ((first | refine Br.t ?_ | refine Br.f ?_ | refine ob ?_ | refine ⟨_, rfl, ?_⟩ | refine ⟨_, _, rfl, ?_⟩ | refine ⟨_, _, _, rfl, ?_⟩ | refine ⟨_, _, _, _, rfl, ?_⟩); (conv => whnf)))
    refine retB hk ?_
    rw [hp, List.drop_of_length_le (by rw [bl_length]; exact Nat.le_refl _)]
    rfl
end Go.Proofs.YtbhejifllgnliaaGreatDoor.Ab
namespace Go.Proofs.YtbhejifllgnliaaGreatDoor.Ab
open Go Go.RowKit Go.Proofs.YtbhejifllgnliaaGreatDoorW.PrintWords
set_option linter.unusedSimpArgs false
set_option linter.unusedVariables false
set_option maxRecDepth 100000
variable {G : World → Prop}
theorem bl_nums (xs : List Int) (h : ∀ c ∈ xs, 0 ≤ c ∧ c ≤ 255) : bl (strOfNums xs) = xs := by
  unfold bl strOfNums
  simp only [List.map_map]
  have : ∀ (l : List Int), (∀ c ∈ l, 0 ≤ c ∧ c ≤ 255) → l.map ((fun b : UInt8 => (b.toNat : Int)) ∘ fun n => UInt8.ofNat n.toNat) = l := by
    intro l hl
    induction l with
    | nil => rfl
    | cons x l ih =>
      rw [List.map_cons, ih fun c hc => hl c (by simp [hc])]
      have := hl x (by simp)
      simp only [Function.comp, UInt8.toNat_ofNat', List.cons.injEq, and_true]
      omega
  exact this xs h
def small1 (c : Int) : Int := if 65 ≤ c ∧ c ≤ 90 then c + 32 else c
def s125 : Sense := pureS fun xs K => ∃ s, xs = [.one (.str s)] ∧ s.size ≤ big ∧ ∀ r, bl r = (bl s).map small1 → K (.ret (.one (.str r)))
theorem ok125 : SenseOK G Go.Proofs.Tryz.prog 125 s125 := SenseOK.pure Γ0.ok (fun _ => [3, 8, 9, 10]) Go.Proofs.Tryz.func125 fun xs K h => by
  obtain ⟨s, rfl, hb, hk⟩ := h
  simp only [big] at hb
  ((conv => whnf); repeat ((first | refine Br.t ?_ | refine Br.f ?_ | refine ob ?_ | refine ⟨_, rfl, ?_⟩ | refine ⟨_, _, rfl, ?_⟩ | refine ⟨_, _, _, rfl, ?_⟩ | refine ⟨_, _, _, _, rfl, ?_⟩); (conv => whnf)))
  refine iter_of (I := fun k σ => ∃ (j : Nat) (zs : List Int), k = s.size - j ∧ j ≤ s.size ∧ zs = ((bl s).take j).map small1 ++ (bl s).drop j ∧ σ = ⟨slots 30 [(3, .one (.own 0)), (8, .one (.own 0)), (9, .one (.int .i64 s.size)), (10, .one (.int .i64 j))], [.own 5 (.int .u8) zs false false]⟩) ?_ s.size ⟨0, bl s, by omega, by omega, by simp, ?_⟩
  · rintro k σ K' ⟨j, zs, rfl, hj, hzs, rfl⟩ hK'
    have hl : zs.length = s.size := by rw [hzs]; simp [bl_length]; omega
    ((conv => whnf); repeat ((first | refine Br.t ?_ | refine Br.f ?_ | refine ob ?_ | refine ⟨_, rfl, ?_⟩ | refine ⟨_, _, rfl, ?_⟩ | refine ⟨_, _, _, rfl, ?_⟩ | refine ⟨_, _, _, _, rfl, ?_⟩); (conv => whnf)))
    refine Br.mk (fun h1 => ?_) (fun h1 => ?_)
    · have h1' : j < s.size := by simpa using h1
      have hd := bl_drop h1'
      have hz : rdx zs (↑j : Int).toNat (Ty.int IntKind.u8).dflt = bt s j := by
        rw [hzs]
        have hlen : (((bl s).take j).map small1).length = j := by simp [bl_length]; omega
        show (List.map small1 (List.take j (bl s)) ++ List.drop j (bl s)).getD j 0 = _
        rw [hd]
        simp only [List.getD, List.getElem?_append_right (Nat.le_of_eq hlen), hlen, Nat.sub_self]
        rfl
      have g2 := IntWalk.i64_in (↑j + 1) (by omega)
      by_cases hc : 65 ≤ bt s j ∧ bt s j ≤ 90
      · have f1 : (bif decide (bt s j ≥ 65) then decide (bt s j ≤ 90) else false) = true := by simp [hc]
        have f3 := IntWalk.u8_in (bt s j + 97) (by omega)
        have f4 := IntWalk.u8_in (bt s j + 97 - 65) (by omega)
        ((conv => whnf); repeat ((first | refine Br.t ?_ | refine Br.f ?_ | refine ob ?_ | refine ⟨_, rfl, ?_⟩ | refine ⟨_, _, rfl, ?_⟩ | refine ⟨_, _, _, rfl, ?_⟩ | refine ⟨_, _, _, _, rfl, ?_⟩ | simp only [hz, f1, g2, f3, f4]); (conv => whnf)))
        refine hK' _ _ (by omega) ⟨j + 1, zs.set j (bt s j + 97 - 65), rfl, by omega, ?_, rfl⟩
        have hlen : (((bl s).take j).map small1).length = j := by simp [bl_length]; omega
        rw [hzs, hd, List.set_append_right _ _ (Nat.le_of_eq hlen), hlen, Nat.sub_self, List.set_cons_zero, List.take_add_one, bl_get h1']
        have : bt s ↑j + 97 - 65 = bt s ↑j + 32 := by omega
        simp [small1, hc, this]
      · have f1 : (bif decide (bt s j ≥ 65) then decide (bt s j ≤ 90) else false) = false := by
          rw [Bool.eq_false_iff]; simp; omega
        ((conv => whnf); repeat ((first | refine Br.t ?_ | refine Br.f ?_ | refine ob ?_ | refine ⟨_, rfl, ?_⟩ | refine ⟨_, _, rfl, ?_⟩ | refine ⟨_, _, _, rfl, ?_⟩ | refine ⟨_, _, _, _, rfl, ?_⟩ | simp only [hz, f1, g2]); (conv => whnf)))
        refine hK' _ _ (by omega) ⟨j + 1, zs, rfl, by omega, ?_, rfl⟩
        rw [hzs, hd, List.take_add_one, bl_get h1']
        simp [small1, hc]
    · have h1' : j = s.size := by simp at h1; omega
      subst h1'
      ((conv => whnf); repeat ((first | refine Br.t ?_ | refine Br.f ?_ | refine ob ?_ | refine ⟨_, rfl, ?_⟩ | refine ⟨_, _, rfl, ?_⟩ | refine ⟨_, _, _, rfl, ?_⟩ | refine ⟨_, _, _, _, rfl, ?_⟩); (conv => whnf)))
      refine hk _ ?_
      show bl (strOfNums zs) = _
      rw [List.take_of_length_le (by rw [bl_length]; exact Nat.le_refl _), List.drop_of_length_le (by rw [bl_length]; exact Nat.le_refl _), List.append_nil] at hzs
      rw [hzs]
      refine bl_nums _ fun c hc => ?_
      obtain ⟨b, hb', rfl⟩ := List.mem_map.1 hc
      have := bl_range hb'
      unfold small1; split <;> omega
  · show St.mk _ _ = St.mk _ _
    have : (bytesOf s).length = s.size := bl_length s
    rw [← this]
    rfl
def isDigit (c : Int) : Bool := decide (48 ≤ c) && decide (c ≤ 57)
def isLetter (c : Int) : Bool := decide (97 ≤ c) && decide (c ≤ 122) || decide (65 ≤ c) && decide (c ≤ 90)
def signs : List Int := [33, 35, 36, 37, 38, 39, 42, 43, 45, 47, 61, 63, 94, 95, 96, 123, 124, 125, 126]
def s95 : Sense := pureS fun xs K => ∃ c, xs = [.one (.int .u8 c)] ∧ K (.ret (.one (.bool (isDigit c))))
theorem ok95 : SenseOK G Go.Proofs.Tryz.prog 95 s95 := SenseOK.pure Γ0.ok (fun _ => []) Go.Proofs.Tryz.func95 fun xs K h => by
  obtain ⟨c, rfl, hk⟩ := h
  ((conv => whnf); repeat ((first | refine Br.t ?_ | refine Br.f ?_ | refine ob ?_ | refine ⟨_, rfl, ?_⟩ | refine ⟨_, _, rfl, ?_⟩ | refine ⟨_, _, _, rfl, ?_⟩ | refine ⟨_, _, _, _, rfl, ?_⟩); (conv => whnf)))
  exact retB hk (by rw [Bool.eq_iff_iff]; simp [isDigit])
def s118 : Sense := pureS fun xs K => ∃ c, xs = [.one (.int .u8 c)] ∧ K (.ret (.one (.bool (isLetter c))))
theorem ok118 : SenseOK G Go.Proofs.Tryz.prog 118 s118 := SenseOK.pure Γ0.ok (fun _ => []) Go.Proofs.Tryz.func118 fun xs K h => by
  obtain ⟨c, rfl, hk⟩ := h
  ((conv => whnf); repeat ((first | refine Br.t ?_ | refine Br.f ?_ | refine ob ?_ | refine ⟨_, rfl, ?_⟩ | refine ⟨_, _, rfl, ?_⟩ | refine ⟨_, _, _, rfl, ?_⟩ | refine ⟨_, _, _, _, rfl, ?_⟩); (conv => whnf)))
  exact retB hk (by rw [Bool.eq_iff_iff]; simp [isLetter])
def s119 : Sense := pureS fun xs K => ∃ c, xs = [.one (.int .u8 c)] ∧ K (.ret (.one (.bool (signs.contains c))))
theorem ok119 : SenseOK G Go.Proofs.Tryz.prog 119 s119 := SenseOK.pure Γ0.ok (fun _ => [0, 3, 4]) Go.Proofs.Tryz.func119 fun xs K h => by
  obtain ⟨c, rfl, hk⟩ := h
  let s : ByteArray := ⟨#[33, 35, 36, 37, 38, 39, 42, 43, 45, 47, 61, 63, 94, 95, 96, 123, 124, 125, 126]⟩
  have hs : s.size = 19 := rfl
  have hbl : bl s = signs := rfl
  ((conv => whnf); repeat ((first | refine Br.t ?_ | refine Br.f ?_ | refine ob ?_ | refine ⟨_, rfl, ?_⟩ | refine ⟨_, _, rfl, ?_⟩ | refine ⟨_, _, _, rfl, ?_⟩ | refine ⟨_, _, _, _, rfl, ?_⟩); (conv => whnf)))
  refine iter_of (I := fun k σ => ∃ j : Nat, k = s.size - j ∧ j ≤ s.size ∧ signs.contains c = ((bl s).drop j).contains c ∧ σ = ⟨slots 16 [(0, .one (.int .u8 c)), (3, .one (.str s)), (4, .one (.int .i64 j))], []⟩) ?_ s.size ⟨0, by omega, by omega, rfl, rfl⟩
  rintro k σ K' ⟨j, rfl, hj, hc, rfl⟩ hK'
  generalize s = s at *
  ((conv => whnf); repeat ((first | refine Br.t ?_ | refine Br.f ?_ | refine ob ?_ | refine ⟨_, rfl, ?_⟩ | refine ⟨_, _, rfl, ?_⟩ | refine ⟨_, _, _, rfl, ?_⟩ | refine ⟨_, _, _, _, rfl, ?_⟩); (conv => whnf)))
  refine Br.mk (fun h1 => ?_) (fun h1 => ?_)
  · have h1' : j < s.size := by simpa using h1
    have hd := bl_drop h1'
    have g2 := IntWalk.i64_in (↑j + 1) (by omega)
    ((conv => whnf); repeat ((first | refine Br.t ?_ | refine Br.f ?_ | refine ob ?_ | refine ⟨_, rfl, ?_⟩ | refine ⟨_, _, rfl, ?_⟩ | refine ⟨_, _, _, rfl, ?_⟩ | refine ⟨_, _, _, _, rfl, ?_⟩); (conv => whnf)))
    by_cases hx : bt s j = c
    · have f1 : (bt s j == c) = true := by simpa using hx
      ((conv => whnf); repeat ((first | refine Br.t ?_ | refine Br.f ?_ | refine ob ?_ | refine ⟨_, rfl, ?_⟩ | refine ⟨_, _, rfl, ?_⟩ | refine ⟨_, _, _, rfl, ?_⟩ | refine ⟨_, _, _, _, rfl, ?_⟩ | simp only [f1]); (conv => whnf)))
      exact retB hk (by rw [hc, hd]; simp [hx])
    · have f1 : (bt s j == c) = false := by simpa using hx
      ((conv => whnf); repeat ((first | refine Br.t ?_ | refine Br.f ?_ | refine ob ?_ | refine ⟨_, rfl, ?_⟩ | refine ⟨_, _, rfl, ?_⟩ | refine ⟨_, _, _, rfl, ?_⟩ | refine ⟨_, _, _, _, rfl, ?_⟩ | simp only [f1, g2]); (conv => whnf)))
      refine hK' _ _ (by omega) ⟨j + 1, rfl, by omega, ?_, rfl⟩
      rw [hc, hd, List.contains_cons]
      have : (c == bt s j) = false := by simpa using fun e => hx e.symm
      rw [this, Bool.false_or]
  · have h1' : j = s.size := by simp at h1; omega
    subst h1'
    ((conv => whnf); repeat ((first | refine Br.t ?_ | refine Br.f ?_ | refine ob ?_ | refine ⟨_, rfl, ?_⟩ | refine ⟨_, _, rfl, ?_⟩ | refine ⟨_, _, _, rfl, ?_⟩ | refine ⟨_, _, _, _, rfl, ?_⟩); (conv => whnf)))
    exact retB hk (by rw [hc, List.drop_of_length_le (by rw [bl_length]; exact Nat.le_refl _)]; rfl)
def s83 : Sense := pureS fun xs K => ∃ a b, xs = [.agg [.str a, .str b]] ∧ a.size ≤ big ∧ b.size ≤ big ∧ ∀ r, bl r = bl a ++ 64 :: bl b → K (.ret (.one (.str r)))
theorem ok83 : SenseOK G Go.Proofs.Tryz.prog 83 s83 := SenseOK.pure Γ0.ok (fun _ => []) Go.Proofs.Tryz.func83 fun xs K h => by
  obtain ⟨a, b, rfl, ha, hb, hk⟩ := h
  simp only [big] at ha hb
  have h1 : (⟨#[64]⟩ : ByteArray).size = 1 := rfl
  have h2 : (a ++ (⟨#[64]⟩ : ByteArray)).size = a.size + 1 := by rw [ByteArray.size_append, h1]
  ((conv => whnf); repeat ((first | refine Br.t ?_ | refine Br.f ?_ | refine ob ?_ | refine ⟨_, rfl, ?_⟩ | refine ⟨_, _, rfl, ?_⟩ | refine ⟨_, _, _, rfl, ?_⟩ | refine ⟨_, _, _, _, rfl, ?_⟩); (conv => whnf)))
  refine hk _ ?_
  rw [bl_append, bl_append]
  show bl a ++ [64] ++ bl b = _
  simp
theorem ok45 : SenseOK G Go.Proofs.Tryz.prog 45 s83 := SenseOK.pure Γ0.ok (fun _ => []) Go.Proofs.Tryz.func45 fun xs K h => by
  obtain ⟨a, b, rfl, ha, hb, hk⟩ := h
  simp only [big] at ha hb
  have h1 : (⟨#[64]⟩ : ByteArray).size = 1 := rfl
  have h2 : (a ++ (⟨#[64]⟩ : ByteArray)).size = a.size + 1 := by rw [ByteArray.size_append, h1]
  ((conv => whnf); repeat ((first | refine Br.t ?_ | refine Br.f ?_ | refine ob ?_ | refine ⟨_, rfl, ?_⟩ | refine ⟨_, _, rfl, ?_⟩ | refine ⟨_, _, _, rfl, ?_⟩ | refine ⟨_, _, _, _, rfl, ?_⟩); (conv => whnf)))
  refine hk _ ?_
  rw [bl_append, bl_append]
  show bl a ++ [64] ++ bl b = _
  simp
def s43 : Sense := pureS fun xs K => ∃ c b, xs = [.one (.int .i64 c), .one (.int .i64 b)] ∧ K (.ret (.one (.bool (decide (0 ≤ c) && decide (c ≤ b)))))
theorem ok43 : SenseOK G Go.Proofs.Tryz.prog 43 s43 := SenseOK.pure Γ0.ok (fun _ => []) Go.Proofs.Tryz.func43 fun xs K h => by
  obtain ⟨c, b, rfl, hk⟩ := h
  ((conv => whnf); repeat ((first | refine Br.t ?_ | refine Br.f ?_ | refine ob ?_ | refine ⟨_, rfl, ?_⟩ | refine ⟨_, _, rfl, ?_⟩ | refine ⟨_, _, _, rfl, ?_⟩ | refine ⟨_, _, _, _, rfl, ?_⟩); (conv => whnf)))
  exact retB hk (by rw [Bool.eq_iff_iff]; simp)
end Go.Proofs.YtbhejifllgnliaaGreatDoor.Ab
namespace Go.Proofs
set_option linter.unusedSimpArgs false
set_option linter.unusedVariables false
open Go.Shelf
def Tryz.lays240_ren : Go.Shelf.Ren := ⟨fun | 240 => 135 | 276 => 158 | n => n, fun | 70 => 133 | 72 => 135 | 164 => 176 | 20 => 20 | 37 => 47 | 127 => 152 | n => n, fun | n => n⟩
theorem Tryz.lays240 : Go.Proofs.Lays.n240 Tryz.prog Tryz.lays240_ren := {
  mixed := by kernel_rfl
  f240 := Tryz.func135.trans (congrArg some (by kernel_rfl))
  f276 := Tryz.func158.trans (congrArg some (by kernel_rfl))
  t0 := Tryz.underlying0
  a0 := Tryz.isAgg0
  z0 := Tryz.sizeOf0
  v0 := Tryz.zeroValue0
  t4 := Tryz.underlying4
  a4 := Tryz.isAgg4
  z4 := Tryz.sizeOf4
  v4 := Tryz.zeroValue4
  t9 := Tryz.underlying9
  a9 := Tryz.isAgg9
  z9 := Tryz.sizeOf9
  v9 := Tryz.zeroValue9
  t20 := Tryz.underlying20
  a20 := Tryz.isAgg20
  z20 := Tryz.sizeOf20
  v20 := Tryz.zeroValue20
  t70 := Tryz.underlying133
  a70 := Tryz.isAgg133
  z70 := Tryz.sizeOf133
  v70 := Tryz.zeroValue133
  t72 := Tryz.underlying135
  a72 := Tryz.isAgg135
  z72 := Tryz.sizeOf135
  v72 := Tryz.zeroValue135
  t164 := Tryz.underlying176
  a164 := Tryz.isAgg176
  z164 := Tryz.sizeOf176
  v164 := Tryz.zeroValue176 }
theorem Tryz.Builder_X72_240 : Builder.X72 Tryz.prog Tryz.lays240_ren := {
  sizeBuilder := by kernel_rfl
  liesBuilder := by kernel_rfl }
open Go.RowKit
set_option maxHeartbeats 2000000 in
set_option maxRecDepth 100000 in
theorem Tryz.bString (b g cap : Nat) (cur : Array Value) (p : Value) (l : List UInt8) (w : World) (hbk : w.heap[b]? = some (.cells #[p, .slice (some ⟨g, 0, none⟩) l.length cap] 135 (0, 0))) (h0 : l ≠ [])
    (hg : w.heap[g]? = some (.cells cur 5 (0, 0))) (hnc : l.length ≤ cap) (hcm : cap ≤ maxLen) (hcs : cur.size = cap) (hcell : ∀ (j : Nat) x, l[j]? = some x → w.cell? ((⟨g, 0, none⟩ : Addr).add j) = some (.int .u8 x.toNat)) :
    Calls Tryz.prog 117 #[.pointer (some ⟨b, 0, none⟩)] w fun e w' => e = .returned (.string ⟨l.toArray⟩) ∧ w' = w.drew.freeze ⟨g, 0, none⟩ l.length := by
  have hl0 : l.length ≠ 0 := by simpa using h0
  have c1 : w.drew.cell? ⟨b, 1, none⟩ = some (.slice (some ⟨g, 0, none⟩) l.length cap) := by
    have : w.drew.heap[b]? = some (.cells #[p, .slice (some ⟨g, 0, none⟩) l.length cap] 135 (0, 0)) := hbk
    rw [Lib.cell_of_heap this]; rfl
  have hSD : (Builtin.unsafeSliceData_ #[47] 152 #[.slice (some ⟨g, 0, none⟩) l.length cap]).run Tryz.prog w.drew = .ok (.pointer (some ⟨g, 0, none⟩)) w.drew :=
    Lib.run_unsafeSliceData_row _ _ _ _ _ _ (by omega)
  have hUS : (Builtin.unsafeString_ #[152, 3] 9 #[.pointer (some ⟨g, 0, none⟩), .int .i64 l.length]).run Tryz.prog w.drew = .ok (.string ⟨l.toArray⟩) (w.drew.freeze ⟨g, 0, none⟩ l.length) := by
    refine Lib.run_unsafeString_row w.drew 152 3 9 5 Tryz.underlying152 (by kernel_rfl) g cur.size (by have hg' : w.drew.heap[g]? = some (.cells cur 5 (0, 0)) := hg; simp [World.shape?, hg']) l h0 (by omega) (by unfold maxLen at hcm; omega) ?_
    intro j x hx
    exact hcell j x hx
  have mixed : Tryz.prog.follows .mixedOrders = true := by kernel_rfl
  have t72 := Tryz.underlying135; have a72 := Tryz.isAgg135; have z72 := Tryz.sizeOf135; have v72 := Tryz.zeroValue135; have u72 := run_underlying Tryz.underlying135
  have t70 := Tryz.underlying133; have a70 := Tryz.isAgg133; have z70 := Tryz.sizeOf133; have v70 := Tryz.zeroValue133; have u70 := run_underlying Tryz.underlying133
  have t37 := Tryz.underlying47; have a37 := Tryz.isAgg47; have z37 := Tryz.sizeOf47; have v37 := Tryz.zeroValue47; have u37 := run_underlying Tryz.underlying47
  have t127 := Tryz.underlying152; have a127 := Tryz.isAgg152; have z127 := Tryz.sizeOf152; have v127 := Tryz.zeroValue152; have u127 := run_underlying Tryz.underlying152
  have t3 := Tryz.underlying3; have a3 := Tryz.isAgg3; have z3 := Tryz.sizeOf3; have v3 := Tryz.zeroValue3; have u3 := run_underlying Tryz.underlying3
  have t9 := Tryz.underlying9; have a9 := Tryz.isAgg9; have z9 := Tryz.sizeOf9; have v9 := Tryz.zeroValue9; have u9 := run_underlying Tryz.underlying9
  have t5 := Tryz.underlying5; have a5 := Tryz.isAgg5; have z5 := Tryz.sizeOf5; have v5 := Tryz.zeroValue5; have u5 := run_underlying Tryz.underlying5
  go_enter Tryz.func117, Tryz.ntmps117
  go_wp2
  go_region_o
  all_goals (go_wp2; go_ret; exact ⟨rfl, rfl⟩)
set_option maxHeartbeats 2000000 in
set_option maxRecDepth 100000 in
theorem Tryz.bStringNil (b : Nat) (p : Value) (w : World) (hbk : w.heap[b]? = some (.cells #[p, .slice none 0 0] 135 (0, 0))) :
    Calls Tryz.prog 117 #[.pointer (some ⟨b, 0, none⟩)] w fun e w' => e = .returned (.string ⟨#[]⟩) ∧ w' = w.drew := by
  have hUS : ∀ (W : World) (q : Option Addr), (Builtin.unsafeString_ #[152, 3] 9 #[.pointer q, .int .i64 0]).run Tryz.prog W = .ok (.string .empty) W := fun W q => Lib.run_unsafeString_none W _ _ _ q
  have c1 : w.drew.cell? ⟨b, 1, none⟩ = some (.slice none 0 0) := by
    have : w.drew.heap[b]? = some (.cells #[p, .slice none 0 0] 135 (0, 0)) := hbk
    rw [Lib.cell_of_heap this]; rfl
  have hSD : (Builtin.unsafeSliceData_ #[47] 152 #[.slice none 0 0]).run Tryz.prog w.drew = .ok (.pointer none) w.drew := rfl
  have mixed : Tryz.prog.follows .mixedOrders = true := by kernel_rfl
  have t72 := Tryz.underlying135; have a72 := Tryz.isAgg135; have z72 := Tryz.sizeOf135; have v72 := Tryz.zeroValue135; have u72 := run_underlying Tryz.underlying135
  have t70 := Tryz.underlying133; have a70 := Tryz.isAgg133; have z70 := Tryz.sizeOf133; have v70 := Tryz.zeroValue133; have u70 := run_underlying Tryz.underlying133
  have t37 := Tryz.underlying47; have a37 := Tryz.isAgg47; have z37 := Tryz.sizeOf47; have v37 := Tryz.zeroValue47; have u37 := run_underlying Tryz.underlying47
  have t127 := Tryz.underlying152; have a127 := Tryz.isAgg152; have z127 := Tryz.sizeOf152; have v127 := Tryz.zeroValue152; have u127 := run_underlying Tryz.underlying152
  have t3 := Tryz.underlying3; have a3 := Tryz.isAgg3; have z3 := Tryz.sizeOf3; have v3 := Tryz.zeroValue3; have u3 := run_underlying Tryz.underlying3
  have t9 := Tryz.underlying9; have a9 := Tryz.isAgg9; have z9 := Tryz.sizeOf9; have v9 := Tryz.zeroValue9; have u9 := run_underlying Tryz.underlying9
  have t5 := Tryz.underlying5; have a5 := Tryz.isAgg5; have z5 := Tryz.sizeOf5; have v5 := Tryz.zeroValue5; have u5 := run_underlying Tryz.underlying5
  go_enter Tryz.func117, Tryz.ntmps117
  go_wp2
  go_region_o
  all_goals (go_wp2; go_ret; exact ⟨rfl, rfl⟩)
end Go.Proofs
namespace Go.Proofs.YtbhejifllgnliaaGreatDoor.Ab
open Go Go.RowKit Go.Proofs.YtbhejifllgnliaaGreatDoorW.PrintWords
variable {G : World → Prop} {X : Cx}
/-- An object is turned. -/
theorem ORel.upd {w w' : World} {lk : List Value} {os os' : List Ob} {i : Nat} {v v' : Value} {o' : Ob} (h : ORel X w lk os) (hi : lk[i]? = some v)
    (hb : ∀ k, k < w.heap.size → blk v ≠ some k → w'.heap[k]? = w.heap[k]?) (hs : w.heap.size ≤ w'.heap.size)
    (hv' : ∀ b, blk v' = some b → blk v = some b ∨ (w.heap.size ≤ b ∧ b < w'.heap.size)) (hX : ∀ b, X.hid b → b < w.heap.size) (hkp : keepsO o' = true → v' = v ∧ ∀ o, os[i]? = some o → keepsO o = true)
    (hlo : os'.length = os.length) (hoi : os'[i]? = some o') (ho' : ORep w' (Imm X w' (lk.set i v')) (lk.set i v') o' v')
    (hoj : ∀ (j : Nat) (oj : Ob), j ≠ i → os'[j]? = some oj → ∃ o, os[j]? = some o ∧ keepsO oj = keepsO o ∧ ∀ u, (∀ b, blk u = some b → w'.heap[b]? = w.heap[b]?) → ORep w (Imm X w lk) lk o u → ORep w' (Imm X w' (lk.set i v')) (lk.set i v') oj u) :
    ORel X w' (lk.set i v') os' :=
  (Rel.upd (σ := ⟨[], os⟩) (σ' := ⟨[], os'⟩) (a := { tmps := #[], defers := X.df }) (h.toR (a := { tmps := #[], defers := X.df }) (σ := ⟨[], os⟩) rfl (fun t x hx => by simp at hx) rfl) hi hb hs hv' hX hkp rfl hlo (fun t x hx => by simp at hx) hoi ho' hoj).toO
theorem set_same {lk : List Value} {i : Nat} {v : Value} (h : lk[i]? = some v) : lk.set i v = lk := by
  apply List.ext_getElem?; intro j
  by_cases hij : i = j
  · subst hij; rw [List.getElem?_set_self (List.getElem?_eq_some_iff.1 h).1, h]
  · rw [List.getElem?_set_ne hij]
/-- A box holds something else. -/
theorem ORel.box {w w' : World} {lk : List Value} {os : List Ob} {i b : Nat} {e : TypeId} {l l' : List C} {cur' : Array Value} (h : ORel X w lk os) (hi : lk[i]? = some (.pointer (some ⟨b, 0, none⟩))) (ho : os[i]? = some (.box e l))
    (hb : ∀ k, k < w.heap.size → k ≠ b → w'.heap[k]? = w.heap[k]?) (hs : w.heap.size ≤ w'.heap.size) (hX : ∀ b, X.hid b → b < w.heap.size) (hh : w'.heap[b]? = some (.cells cur' e (0, 0))) (hc : All2 (Cel w (Imm X w lk) lk) l' cur'.toList) :
    ORel X w' lk (os.set i (.box e l')) := by
  have hset := set_same hi
  have hil : i < os.length := (List.getElem?_eq_some_iff.1 ho).1
  have hb' : ∀ k, k < w.heap.size → blk (.pointer (some ⟨b, 0, none⟩)) ≠ some k → w'.heap[k]? = w.heap[k]? := fun k h1 h2 => hb k h1 (fun e => h2 (by simp [blk, e]))
  have hgo : Goes w (Imm X w lk) w' (Imm X w' lk) := by
    have := Goes.upd (X := X) (w' := w') (v' := .pointer (some ⟨b, 0, none⟩)) hi hb' hs (fun b hb => .inl hb)
    rwa [hset] at this
  have := h.upd (w' := w') (os' := os.set i (.box e l')) (o' := .box e l') (v' := .pointer (some ⟨b, 0, none⟩)) hi hb' hs (fun b hb => .inl hb) hX (fun _ => ⟨rfl, fun o ho' => by rw [ho] at ho'; simp at ho'; subst ho'; rfl⟩) (by simp)
    (List.getElem?_set_self hil) (by rw [hset]; exact ⟨b, cur', rfl, hh, Cels.goes hgo (Keeps.refl _ _) hc⟩)
    (fun j oj hji hj => ⟨oj, by rw [List.getElem?_set_ne (Ne.symm hji)] at hj; exact hj, rfl, fun u hub hu => by rw [hset]; exact hu.goes hgo (Keeps.refl _ _) hub⟩)
  rwa [hset] at this
def s135 : Sense := ⟨false, fun os xs K => xs = [.one (.ref 0 0)] ∧ ∃ p c rest, os = .box 135 [p, c] :: rest ∧ (p = .nilp ∨ p = .ref 0 0) ∧ K (.box 135 [.ref 0 0, c] :: rest) (.ret (.tup []))⟩
theorem ok135 : SenseOK G Go.Proofs.Tryz.prog 135 s135 := by
  intro X w lk os ags vs K hO hl0 hX hXG hgr has hs
  obtain ⟨rfl, p, c, rest, rfl, hp, hk⟩ := hs
  obtain ⟨v, m, rfl, hv, hm⟩ := has.cons_inv
  obtain rfl := hm.nil_inv
  obtain ⟨b, hb, rfl⟩ := hv
  obtain ⟨b', cur, hv', hh, ha⟩ := hO.ob 0 _ _ rfl hb
  cases hv'
  obtain ⟨u0, m, hc0, h0, hm⟩ := ha.cons_inv
  obtain ⟨u1, m1, rfl, h1, hm1⟩ := hm.cons_inv
  obtain rfl := hm1.nil_inv
  obtain rfl : cur = #[u0, u1] := Array.toList_inj.1 hc0
  have hblt : b < w.heap.size := hO.lt 0 _ b hb rfl
  have news : ∀ v ∈ lk, ∀ b, blk v = some b → (∃ u ∈ lk, blk u = some b) ∨ w.heap.size ≤ b := fun v hv b hb => .inl ⟨v, hv, hb⟩
  rcases hp with rfl | rfl
  · obtain rfl : u0 = .pointer none := h0.1
    refine (Any.Builder_copyCheck_fresh Tryz.lays240 Tryz.Builder_X72_240 b w ?_ ?_ ?_).mono ?_
    · simp [World.cell?, hh]
    · simp [World.shape?, hh]; rfl
    · simp [World.frozen?, hh]
    · rintro e w' ⟨rfl, rfl⟩
      have hfar : ∀ k, k ≠ b → (w.setCell ⟨b, 0, none⟩ (.pointer (some ⟨b, 0, none⟩))).heap[k]? = w.heap[k]? := fun k hk => Below.heap_setCell _ _ _ _ (fun e => hk (by simp [e]))
      have hsz : (w.setCell ⟨b, 0, none⟩ (.pointer (some ⟨b, 0, none⟩))).heap.size = w.heap.size := by simp [World.setCell]
      have hrel := hO.box (w' := w.setCell ⟨b, 0, none⟩ (.pointer (some ⟨b, 0, none⟩))) (cur' := #[.pointer (some ⟨b, 0, none⟩), u1]) (l' := [.ref 0 0, c]) hb rfl (fun k _ hk => hfar k hk) (Nat.le_of_eq hsz.symm) hX
        (by simp [World.setCell, Array.getElem?_modify, hh]) ⟨⟨⟨b, hb, rfl⟩, rfl⟩, h1, trivial⟩
      refine ⟨_, lk, _, hk, hrel, ⟨rfl, rfl, rfl, Nat.le_of_eq hsz.symm, fun k hk1 hk2 => hfar k (fun e => hk2 ⟨rfl, _, List.mem_of_getElem? hb, by rw [e]; rfl⟩)⟩, news, ⟨_, rfl, [], rfl, trivial⟩⟩
  · obtain ⟨b2, hb2, rfl⟩ := h0.1
    rw [hb] at hb2
    cases hb2
    refine (Any.Builder_copyCheck_used Tryz.lays240 Tryz.Builder_X72_240 b w ?_).mono ?_
    · simp [World.cell?, hh]
    · rintro e w' ⟨rfl, rfl⟩
      exact ⟨_, lk, _, hk, hO, Keep.refl _ _, news, ⟨_, rfl, [], rfl, trivial⟩⟩
theorem freeze_heap (w : World) (g n k : Nat) (h : k ≠ g) : (w.drew.freeze ⟨g, 0, none⟩ n).heap[k]? = w.heap[k]? := by
  unfold World.freeze
  split
  · rfl
  · simp only [Array.getElem?_modify]
    rw [if_neg (fun e => h e.symm)]
    rfl
theorem freeze_size (w : World) (g n : Nat) : (w.drew.freeze ⟨g, 0, none⟩ n).heap.size = w.heap.size := by
  unfold World.freeze
  split
  · rfl
  · simp
theorem freeze_keep (w : World) (g n : Nat) : Keep (fun b => b = g) w (w.drew.freeze ⟨g, 0, none⟩ n) := by
  have h : (w.drew.freeze ⟨g, 0, none⟩ n).os = w.os ∧ (w.drew.freeze ⟨g, 0, none⟩ n).tape = w.tape ∧ (w.drew.freeze ⟨g, 0, none⟩ n).output = w.output := by
    have := Lib.below_freeze (B := 0) (Below.drew (Below.refl 0 w)) (p := ⟨g, 0, none⟩) (Nat.zero_le _) n
    exact ⟨this.os, this.tape, this.output⟩
  exact ⟨h.1, h.2.1, h.2.2, Nat.le_of_eq (freeze_size w g n).symm, fun k _ hk => freeze_heap w g n k hk⟩
theorem u8_back (c : Int) (h : 0 ≤ c ∧ c ≤ 255) : c = ((c.toNat % 2 ^ 8 : Nat) : Int) := by omega
def s117 : Sense := ⟨false, fun os xs K => xs = [.one (.ref 0 0)] ∧ ∃ p, (p = .nilp ∨ p = .ref 0 0) ∧
  ((os = [.box 135 [p, .nil]] ∧ ∀ r, bl r = [] → K [.box 135 [p, .nil]] (.ret (.one (.str r)))) ∨
   (∃ zs mv, os = [.box 135 [p, .own 1], .own 5 (.int .u8) zs true mv] ∧ zs ≠ [] ∧ (∀ c ∈ zs, 0 ≤ c ∧ c ≤ 255) ∧ ∀ r, bl r = zs → K [.box 135 [p, .top], .gone] (.ret (.one (.str r)))))⟩
theorem ok117 : SenseOK G Go.Proofs.Tryz.prog 117 s117 := by
  intro X w lk os ags vs K hO hl0 hX hXG hgr has hs
  obtain ⟨rfl, p, hp, hk⟩ := hs
  obtain ⟨v, m, rfl, hv, hm⟩ := has.cons_inv
  obtain rfl := hm.nil_inv
  obtain ⟨b, hb, rfl⟩ := hv
  rcases hk with ⟨rfl, hk⟩ | ⟨zs, mv, rfl, hne, hr, hk⟩
  · obtain ⟨b', cur, hv', hh, ha⟩ := hO.ob 0 _ _ rfl hb
    cases hv'
    obtain ⟨u0, m, hc0, h0, hm⟩ := ha.cons_inv
    obtain ⟨u1, m1, rfl, h1, hm1⟩ := hm.cons_inv
    obtain rfl := hm1.nil_inv
    obtain rfl : cur = #[u0, u1] := Array.toList_inj.1 hc0
    obtain rfl : u1 = .slice none 0 0 := h1.1
    refine (Tryz.bStringNil b u0 w hh).mono ?_
    rintro e w' ⟨rfl, rfl⟩
    have hgo : Goes w (Imm X w lk) w.drew (Imm X w.drew lk) := fun b h => ⟨rfl, h⟩
    refine ⟨_, lk, _, hk ⟨#[]⟩ rfl, ?_, ?_, fun v hv b hb => .inl ⟨v, hv, hb⟩, ⟨_, rfl, rfl⟩⟩
    · exact ⟨hO.lsz, fun i o v hi hv => (hO.ob i o v hi hv).goes hgo (Keeps.refl _ _) (fun b hb => rfl), hO.dj, hO.lt, hO.nx, hO.ll, hO.kp⟩
    · have := Below.drew (Below.refl 0 w)
      exact ⟨this.os, this.tape, this.output, Nat.le_refl _, fun k _ _ => rfl⟩
  · have hl2 : lk.length = 2 := hO.lsz
    obtain ⟨vo, hvo⟩ : ∃ vo, lk[1]? = some vo := ⟨_, List.getElem?_eq_getElem (by omega)⟩
    obtain ⟨b', cur, hv', hh, ha⟩ := hO.ob 0 _ _ rfl hb
    cases hv'
    obtain ⟨u0, m, hc0, h0, hm⟩ := ha.cons_inv
    obtain ⟨u1, m1, rfl, h1, hm1⟩ := hm.cons_inv
    obtain rfl := hm1.nil_inv
    obtain rfl : cur = #[u0, u1] := Array.toList_inj.1 hc0
    obtain ⟨hlk1, _⟩ := h1.1
    rw [hvo] at hlk1
    cases hlk1
    obtain ⟨cells, hreps, hown⟩ := hO.ob 1 _ _ rfl hvo
    rcases hown with ⟨_, h⟩ | ⟨g, cap, cu, fr, rfl, hg, hnc, hcm, hcs, htk, hfr, _⟩
    · exact absurd h hne
    obtain rfl := hfr rfl
    have hgb : g ≠ b := fun e => hO.dj 0 1 _ _ b (by decide) hb hvo rfl (by simp [blk, e])
    let l : List UInt8 := zs.map fun c => UInt8.ofNat c.toNat
    have hll : l.length = zs.length := by simp [l]
    have hcell : ∀ (j : Nat) x, l[j]? = some x → w.cell? ((⟨g, 0, none⟩ : Addr).add j) = some (.int .u8 x.toNat) := by
      intro j x hx
      simp only [l, List.getElem?_map, Option.map_eq_some_iff] at hx
      obtain ⟨c, hc, rfl⟩ := hx
      have hjl := (List.getElem?_eq_some_iff.1 hc).1
      have hcr := hr c (List.mem_of_getElem? hc)
      have h1 : (cells.drop (j * 1)).take 1 = [.int .u8 c] := hreps.2 j c hc
      have h2 : cu.toList[j]? = some (.int .u8 c) := by
        rw [← htk] at h1
        rw [Nat.mul_one] at h1
        have := congrArg (fun l => l[0]?) h1
        simp only [List.getElem?_take, List.getElem?_drop] at this
        have hz : (Ty.int IntKind.u8).sz = 1 := rfl
        rw [hz] at this
        simp at this
        simpa [hjl] using this
      rw [add_mk]
      have h3 : cu[j]? = some (.int .u8 c) := by rw [← Array.getElem?_toList]; exact h2
      simp only [World.cell?, hg, Nat.zero_add, h3, Option.isSome_none, Bool.false_eq_true, if_false, UInt8.toNat_ofNat', Option.some.injEq, Value.int.injEq, true_and]
      exact u8_back c hcr
    have hz : cu.size = cap := by rw [hcs]; exact Nat.mul_one _
    refine (Tryz.bString b g cap cu u0 l w (by rw [hll]; exact hh) (by intro e; exact hne (List.length_eq_zero_iff.1 (by rw [← hll, e]; rfl))) hg (by rw [hll]; exact hnc) hcm hz hcell).mono ?_
    rintro e w' ⟨rfl, rfl⟩
    have hglt : g < w.heap.size := hO.lt 1 _ g hvo rfl
    refine ⟨[.box 135 [p, .top], .gone], lk.set 1 (.bool false), _, hk ⟨l.toArray⟩ (bl_nums zs hr), ?_, ?_, ?_, ⟨_, rfl, rfl⟩⟩
    · refine hO.upd (o' := .gone) hvo (fun k _ hk => freeze_heap w g _ k (fun e => hk (by simp [blk, e]))) (Nat.le_of_eq (freeze_size w g _).symm) (fun b hb => by simp [blk] at hb) hX (fun h => by cases h) rfl rfl rfl ?_
      intro j oj hj hoj
      cases j with
      | zero =>
        simp at hoj
        subst hoj
        refine ⟨_, rfl, rfl, fun u hu h => ?_⟩
        obtain ⟨b2, cur2, rfl, hh2, ha2⟩ := h
        refine ⟨b2, cur2, rfl, by rw [hu b2 rfl]; exact hh2, ?_⟩
        obtain ⟨x0, m, hc0, h0', hm⟩ := ha2.cons_inv
        obtain ⟨x1, m1, rfl, h1', hm1⟩ := hm.cons_inv
        obtain rfl := hm1.nil_inv
        rw [hc0]
        refine ⟨⟨?_, h0'.2⟩, ⟨trivial, h1'.2⟩, trivial⟩
        rcases hp with rfl | rfl
        · exact h0'.1
        · obtain ⟨b3, hb3, rfl⟩ := h0'.1
          exact ⟨b3, by rw [List.getElem?_set_ne (by decide)]; exact hb3, rfl⟩
      | succ j => cases j with
        | zero => exact absurd rfl hj
        | succ j => simp at hoj
    · have := freeze_keep w g l.length
      exact ⟨this.os, this.tape, this.output, this.size, fun k hk1 hk2 => this.block k hk1 (fun e => hk2 ⟨rfl, _, List.mem_of_getElem? hvo, by rw [e]; rfl⟩)⟩
    · intro v hv b hb
      rcases List.mem_or_eq_of_mem_set hv with h | h
      · exact .inl ⟨v, h, hb⟩
      · subst h; simp [blk] at hb
end Go.Proofs.YtbhejifllgnliaaGreatDoor.Ab
namespace Go.Proofs.YtbhejifllgnliaaGreatDoor.Ab
open Go Go.RowKit Go.Proofs.YtbhejifllgnliaaGreatDoorW.PrintWords
set_option linter.unusedSimpArgs false
set_option linter.unusedVariables false
set_option maxRecDepth 100000
variable {G : World → Prop}
theorem SenseOK.any {Γ : Sems} (hΓ : SemsOK G Go.Proofs.Tryz.prog Γ) {f : FuncId} {fn : Func} (L : Nat → List Nat) {s : List Ob → List V → (List Ob → Out → Prop) → Prop} (hf : Go.Proofs.Tryz.prog.funcs[f]? = some fn)
    (h : ∀ os xs K, s os xs K → evFn TT Γ L fn os xs K) : SenseOK G Go.Proofs.Tryz.prog f ⟨false, s⟩ :=
  SenseOK.of TT.ok hΓ L _ hf (fun h => by cases h) h
def Γ163 : Sems := ext 135 s135 Γ0
theorem Γ163.ok : SemsOK G Go.Proofs.Tryz.prog Γ163 := Γ0.ok.ext Go.Proofs.Tryz.func135 rfl (by decide) ok135
/-- A Builder that holds these bytes. -/
inductive Bld : List Int → List Ob → Prop where
  | none : Bld [] [.box 135 [.nilp, .nil]]
  | some (zs : List Int) (mv : Bool) : Bld zs [.box 135 [.ref 0 0, .own 1], .own 5 (.int .u8) zs true mv]
def s163 : Sense := ⟨false, fun os xs K => ∃ c zs, xs = [.one (.ref 0 0), .one (.int .u8 c)] ∧ zs.length ≤ big ∧
  ((zs = [] ∧ os = [.box 135 [.nilp, .nil]] ∧ K [.box 135 [.ref 0 0, .own 1], .own 5 (.int .u8) [c] true false] (.ret (.one .nilif))) ∨
   (∃ mv, os = [.box 135 [.ref 0 0, .own 1], .own 5 (.int .u8) zs true mv]) ∧ K [.box 135 [.ref 0 0, .own 1], .own 5 (.int .u8) (zs ++ [c]) true true] (.ret (.one .nilif)))⟩
set_option maxHeartbeats 4000000 in
theorem ok163 : SenseOK G Go.Proofs.Tryz.prog 163 s163 := SenseOK.any Γ163.ok (fun _ => []) Go.Proofs.Tryz.func163 fun os xs K h => by
  obtain ⟨c, zs, rfl, hz, ho⟩ := h
  simp only [big] at hz
  rcases ho with ⟨rfl, rfl, hk⟩ | ⟨⟨mv, rfl⟩, hk⟩
  · ((conv => whnf); repeat ((first | refine Br.t ?_ | refine Br.f ?_ | refine ob ?_ | refine ⟨_, rfl, ?_⟩ | refine ⟨_, _, rfl, ?_⟩ | refine ⟨_, _, _, rfl, ?_⟩ | refine ⟨_, _, _, _, rfl, ?_⟩); (conv => whnf)))
    exact hk
  · ((conv => whnf); repeat ((first | refine Br.t ?_ | refine Br.f ?_ | refine ob ?_ | refine ⟨_, rfl, ?_⟩ | refine ⟨_, _, rfl, ?_⟩ | refine ⟨_, _, _, rfl, ?_⟩ | refine ⟨_, _, _, _, rfl, ?_⟩); (conv => whnf)))
    exact hk
end Go.Proofs.YtbhejifllgnliaaGreatDoor.Ab
namespace Go.Proofs.YtbhejifllgnliaaGreatDoor.Ab
open Go Go.RowKit Go.Proofs.YtbhejifllgnliaaGreatDoorW.PrintWords
set_option linter.unusedSimpArgs false
set_option linter.unusedVariables false
set_option maxRecDepth 100000
variable {G : World → Prop}
def digs : Int → List Int → Option Int
  | n, [] => some n
  | n, c :: l => if isDigit c then digs (10 * n + (c - 48)) l else none
def valP (l : List Int) : Bool := !(decide (l.length = 0) || decide (16 < l.length) || (decide (1 < l.length) && decide (l.head? = some 48)))
def val (l : List Int) : Option Int := if valP l then digs 0 l else none
def retV (o : Option Int) : Out := match o with
  | some n => .ret (.tup [.one (.int .i64 n), .one (.bool true)])
  | none => .ret (.tup [.one (.int .i64 0), .one (.bool false)])
def s96 : Sense := pureS fun xs K => ∃ s, xs = [.one (.str s)] ∧ K (retV (val (bl s)))
theorem ok96 : SenseOK G Go.Proofs.Tryz.prog 96 s96 := SenseOK.pure Γ0.ok (fun _ => [0, 4, 5]) Go.Proofs.Tryz.func96 fun xs K h => by
  obtain ⟨s, rfl, hk⟩ := h
  have hnil : bl (⟨#[]⟩ : ByteArray) = [] := rfl
  have e0 : ∀ b, decide (bl s = []) = b → (s.toList == (⟨#[]⟩ : ByteArray).toList) = b := fun b h => by rw [str_beq, hnil]; exact h
  by_cases h0 : s.size = 0
  · have hb : bl s = [] := List.length_eq_zero_iff.1 (by rw [bl_length]; exact h0)
    have f0 := e0 true (by simp [hb])
    ((conv => whnf); repeat ((first | refine Br.t ?_ | refine Br.f ?_ | refine ob ?_ | refine ⟨_, rfl, ?_⟩ | refine ⟨_, _, rfl, ?_⟩ | refine ⟨_, _, _, rfl, ?_⟩ | refine ⟨_, _, _, _, rfl, ?_⟩ | simp only [f0]); (conv => whnf)))
    rw [hb] at hk
    exact hk
  have hb : bl s ≠ [] := fun h => h0 (by rw [← bl_length, h]; rfl)
  have f0 := e0 false (by simp [hb])
  by_cases h1 : s.size > 16
  · have f1 : decide ((s.size : Int) > 16) = true := by simp; omega
    ((conv => whnf); repeat ((first | refine Br.t ?_ | refine Br.f ?_ | refine ob ?_ | refine ⟨_, rfl, ?_⟩ | refine ⟨_, _, rfl, ?_⟩ | refine ⟨_, _, _, rfl, ?_⟩ | refine ⟨_, _, _, _, rfl, ?_⟩ | simp only [f0, f1]); (conv => whnf)))
    have : val (bl s) = none := by simp [val, valP, bl_length, h1]
    rw [this] at hk
    exact hk
  have f1 : decide ((s.size : Int) > 16) = false := by simp; omega
  have hh : (bl s).head? = some (bt s 0) := by
    have := bl_get (s := s) (j := 0) (by omega)
    rw [List.head?_eq_getElem?]; exact this
  have hv : valP (bl s) = !(decide ((s.size : Int) > 1) && (bt s 0 == 48)) := by
    rw [Bool.eq_iff_iff]
    simp [valP, bl_length, hh, h0]
    omega
  by_cases h23 : s.size > 1 ∧ bt s 0 = 48
  · have f2 : decide ((s.size : Int) > 1) = true := by simp; omega
    have f3 : (bt s 0 == 48) = true := by simpa using h23.2
    ((conv => whnf); repeat ((first | refine Br.t ?_ | refine Br.f ?_ | refine ob ?_ | refine ⟨_, rfl, ?_⟩ | refine ⟨_, _, rfl, ?_⟩ | refine ⟨_, _, _, rfl, ?_⟩ | refine ⟨_, _, _, _, rfl, ?_⟩ | simp only [f0, f1, f2, f3]); (conv => whnf)))
    have : val (bl s) = none := by simp [val, hv, f2, f3]
    rw [this] at hk
    exact hk
  have hvt : valP (bl s) = true := by
    rw [hv]; simp; omega
  have hval : val (bl s) = digs 0 (bl s) := by simp [val, hvt]
  rcases (Decidable.em (s.size > 1)) with h2 | h2
  have f2 : decide ((s.size : Int) > 1) = true := by simp; omega
  have f3 : (bt s 0 == 48) = false := by simpa using fun h => h23 ⟨h2, h⟩
  ((conv => whnf); repeat ((first | refine Br.t ?_ | refine Br.f ?_ | refine ob ?_ | refine ⟨_, rfl, ?_⟩ | refine ⟨_, _, rfl, ?_⟩ | refine ⟨_, _, _, rfl, ?_⟩ | refine ⟨_, _, _, _, rfl, ?_⟩ | simp only [f0, f1, f2, f3]); (conv => whnf)))
  rotate_left
  have f2 : decide ((s.size : Int) > 1) = false := by simp; omega
  ((conv => whnf); repeat ((first | refine Br.t ?_ | refine Br.f ?_ | refine ob ?_ | refine ⟨_, rfl, ?_⟩ | refine ⟨_, _, rfl, ?_⟩ | refine ⟨_, _, _, rfl, ?_⟩ | refine ⟨_, _, _, _, rfl, ?_⟩ | simp only [f0, f1, f2]); (conv => whnf)))
  all_goals
    refine iter_of (I := fun k σ => ∃ (j : Nat) (n : Int), k = s.size - j ∧ j ≤ s.size ∧ 0 ≤ n ∧ n < 10 ^ j ∧ val (bl s) = digs n ((bl s).drop j) ∧ σ = ⟨slots 48 [(0, .one (.str s)), (4, .one (.int .i64 n)), (5, .one (.int .i64 j))], []⟩) ?_ s.size ⟨0, 0, by omega, by omega, by omega, by omega, hval, rfl⟩
    rintro k σ K' ⟨j, n, rfl, hj, hn0, hn, hp, rfl⟩ hK'
    ((conv => whnf); repeat ((first | refine Br.t ?_ | refine Br.f ?_ | refine ob ?_ | refine ⟨_, rfl, ?_⟩ | refine ⟨_, _, rfl, ?_⟩ | refine ⟨_, _, _, rfl, ?_⟩ | refine ⟨_, _, _, _, rfl, ?_⟩); (conv => whnf)))
    refine Br.mk (fun g1 => ?_) (fun g1 => ?_)
    · have h1' : j < s.size := by simpa using g1
      have hd := bl_drop h1'
      have hr : 0 ≤ bt s j ∧ bt s j ≤ 255 := bl_range (List.mem_of_getElem? (bl_get h1'))
      have hpow : (10 : Int) ^ j ≤ 10 ^ 15 := by
        have : (10 : Nat) ^ j ≤ 10 ^ 15 := Nat.pow_le_pow_right (by omega) (by omega)
        exact_mod_cast this
      have w1 := IntWalk.i64_in (↑j + 1) (by omega)
      have w2 := IntWalk.i64_in (10 * n) (by omega)
      cases hdg : isDigit (bt s j) with
      | true =>
        have hdg' := hdg
        simp [isDigit] at hdg'
        have e1 : (bif decide (bt s j < 48) then true else decide (bt s j > 57)) = false := by
          rw [Bool.eq_false_iff]; simp; omega
        have w3 := IntWalk.u8_in (bt s j - 48) (by omega)
        have w4 := IntWalk.i64_in (bt s j - 48) (by omega)
        have w5 := IntWalk.i64_in (10 * n + (bt s j - 48)) (by omega)
        ((conv => whnf); repeat ((first | refine Br.t ?_ | refine Br.f ?_ | refine ob ?_ | refine ⟨_, rfl, ?_⟩ | refine ⟨_, _, rfl, ?_⟩ | refine ⟨_, _, _, rfl, ?_⟩ | refine ⟨_, _, _, _, rfl, ?_⟩ | simp only [e1, w1, w2, w3, w4, w5]); (conv => whnf)))
        refine hK' _ _ (by omega) ⟨j + 1, 10 * n + (bt s j - 48), rfl, by omega, by omega, ?_, ?_, rfl⟩
        · rw [Int.pow_succ]; omega
        · rw [hp, hd, digs, if_pos hdg]
      | false =>
        have hdg' := hdg
        simp [isDigit] at hdg'
        have e1 : (bif decide (bt s j < 48) then true else decide (bt s j > 57)) = true := by
          simp; omega
        ((conv => whnf); repeat ((first | refine Br.t ?_ | refine Br.f ?_ | refine ob ?_ | refine ⟨_, rfl, ?_⟩ | refine ⟨_, _, rfl, ?_⟩ | refine ⟨_, _, _, rfl, ?_⟩ | refine ⟨_, _, _, _, rfl, ?_⟩ | simp only [e1]); (conv => whnf)))
        rw [hp, hd, digs, hdg] at hk
        exact hk
    · have h1' : j = s.size := by simp at g1; omega
      subst h1'
      ((conv => whnf); repeat ((first | refine Br.t ?_ | refine Br.f ?_ | refine ob ?_ | refine ⟨_, rfl, ?_⟩ | refine ⟨_, _, rfl, ?_⟩ | refine ⟨_, _, _, rfl, ?_⟩ | refine ⟨_, _, _, _, rfl, ?_⟩); (conv => whnf)))
      rw [hp, List.drop_of_length_le (by rw [bl_length]; exact Nat.le_refl _)] at hk
      exact hk
end Go.Proofs.YtbhejifllgnliaaGreatDoor.Ab
namespace Go.Proofs.YtbhejifllgnliaaGreatDoor.Ab
open Go Go.RowKit Go.Proofs.YtbhejifllgnliaaGreatDoorW.PrintWords
set_option linter.unusedSimpArgs false
set_option linter.unusedVariables false
set_option maxRecDepth 100000
variable {G : World → Prop}
/-- A sense of a function that takes plain data, and may hand back something new. -/
def newS (f : List V → (List Ob → Out → Prop) → Prop) : Sense := ⟨true, fun os xs K => os = [] ∧ f xs K⟩
theorem SenseOK.new {Γ : Sems} (hΓ : SemsOK G Go.Proofs.Tryz.prog Γ) {f : FuncId} {fn : Func} (L : Nat → List Nat) {s : List V → (List Ob → Out → Prop) → Prop} (hf : Go.Proofs.Tryz.prog.funcs[f]? = some fn)
    (h : ∀ xs K, s xs K → evFn TT Γ L fn [] xs K) : SenseOK G Go.Proofs.Tryz.prog f (newS s) :=
  SenseOK.of TT.ok hΓ L _ hf (fun _ os xs K h => h.1) (fun os xs K hk => by obtain ⟨rfl, hk⟩ := hk; exact h xs K hk)
def spl (c : Int) : List Int → List Int → List (List Int)
  | [], cur => [cur]
  | x :: l, cur => if x = c then cur :: spl c l [] else spl c l (cur ++ [x])
theorem spl_ne (c : Int) : ∀ (l cur : List Int), spl c l cur ≠ []
  | [], _ => by simp [spl]
  | x :: l, cur => by
    unfold spl; split
    · simp
    · exact spl_ne c l _
def s94 : Sense := newS fun xs K => ∃ s c, xs = [.one (.str s), .one (.int .u8 c)] ∧ s.size ≤ big ∧ ∀ zs mv, zs.map bl = spl c (bl s) [] → K [.own 9 .str zs true mv] (.ret (.one (.own 0)))
set_option maxHeartbeats 4000000 in
theorem ok94 : SenseOK G Go.Proofs.Tryz.prog 94 s94 := SenseOK.new Γ0.ok (fun _ => [0, 1, 5, 6, 7]) Go.Proofs.Tryz.func94 fun xs K h => by
  obtain ⟨s, c, rfl, hb, hk⟩ := h
  simp only [big] at hb
  ((conv => whnf); repeat ((first | refine Br.t ?_ | refine Br.f ?_ | refine ob ?_ | refine ⟨_, rfl, ?_⟩ | refine ⟨_, _, rfl, ?_⟩ | refine ⟨_, _, _, rfl, ?_⟩ | refine ⟨_, _, _, _, rfl, ?_⟩); (conv => whnf)))
  refine iter_of (I := fun k σ => ∃ (j i : Nat) (zs : List ByteArray) (mv : Bool), k = s.size + 1 - j ∧ j ≤ s.size + 1 ∧ i ≤ j ∧ zs.length ≤ j ∧ (j ≤ s.size → zs.map bl ++ spl c ((bl s).drop j) (((bl s).take j).drop i) = spl c (bl s) []) ∧ (j = s.size + 1 → zs.map bl = spl c (bl s) []) ∧
    ((zs = [] ∧ σ = ⟨slots 35 [(0, .one (.str s)), (1, .one (.int .u8 c)), (5, .one .nil), (6, .one (.int .i64 i)), (7, .one (.int .i64 j))], []⟩) ∨
     σ = ⟨slots 35 [(0, .one (.str s)), (1, .one (.int .u8 c)), (5, .one (.own 0)), (6, .one (.int .i64 i)), (7, .one (.int .i64 j))], [.own 9 .str zs true mv]⟩)) ?_ (s.size + 1) ⟨0, 0, [], false, by omega, by omega, by omega, by simp, fun _ => by simp, fun h => by omega, .inl ⟨rfl, rfl⟩⟩
  rintro k σ K' ⟨j, i, zs, mv, rfl, hj, hi, hzl, hp, hq, hσ⟩ hK'
  have cur : bl (s.extract i j) = ((bl s).take j).drop i := bl_extract s i j
  have edge : j = s.size → (zs ++ [s.extract i j]).map bl = spl c (bl s) [] := fun h => by
    have := hp (by omega)
    rw [List.drop_of_length_le (by rw [bl_length]; omega)] at this
    simp only [spl] at this
    rw [List.map_append, List.map_cons, List.map_nil, cur, this]
  have cut : j < s.size → bt s j = c → (zs ++ [s.extract i j]).map bl ++ spl c ((bl s).drop (j + 1)) (((bl s).take (j + 1)).drop (j + 1)) = spl c (bl s) [] := fun h h' => by
    have := hp (by omega)
    rw [bl_drop h, spl, if_pos h'] at this
    have e : ((bl s).take (j + 1)).drop (j + 1) = [] := List.drop_eq_nil_of_le (by rw [List.length_take]; omega)
    rw [e, List.map_append, List.map_cons, List.map_nil, cur, ← this]
    simp
  have go : j < s.size → bt s j ≠ c → zs.map bl ++ spl c ((bl s).drop (j + 1)) (((bl s).take (j + 1)).drop i) = spl c (bl s) [] := fun h h' => by
    have := hp (by omega)
    rw [bl_drop h, spl, if_neg h'] at this
    rw [← this, List.take_add_one, bl_get h, List.drop_append_of_le_length (by rw [List.length_take, bl_length]; omega)]
    rfl
  rcases hσ with ⟨rfl, rfl⟩ | rfl
  · ((conv => whnf); repeat ((first | refine Br.t ?_ | refine Br.f ?_ | refine ob ?_ | refine ⟨_, rfl, ?_⟩ | refine ⟨_, _, rfl, ?_⟩ | refine ⟨_, _, _, rfl, ?_⟩ | refine ⟨_, _, _, _, rfl, ?_⟩); (conv => whnf)))
    refine Br.mk (fun g1 => ?_) (fun g1 => ?_)
    · have h1 : j ≤ s.size := by simp at g1; omega
      have w1 := IntWalk.i64_in (↑j + 1) (by omega)
      by_cases h2 : j = s.size
      · have f1 : ((j : Int) == s.size) = true := by simpa using congrArg (Nat.cast : Nat → Int) h2
        ((conv => whnf); repeat ((first | refine Br.t ?_ | refine Br.f ?_ | refine ob ?_ | refine ⟨_, rfl, ?_⟩ | refine ⟨_, _, rfl, ?_⟩ | refine ⟨_, _, _, rfl, ?_⟩ | refine ⟨_, _, _, _, rfl, ?_⟩ | simp only [f1, w1]); (conv => whnf)))
        exact hK' _ _ (by omega) ⟨j + 1, j + 1, [s.extract i j], false, rfl, by omega, by omega, by simp, fun h => by omega, fun _ => edge h2, .inr rfl⟩
      · have f1 : ((j : Int) == s.size) = false := by simp; omega
        have h3 : j < s.size := by omega
        by_cases h4 : bt s j = c
        · have f2 : (bt s j == c) = true := by simpa using h4
          ((conv => whnf); repeat ((first | refine Br.t ?_ | refine Br.f ?_ | refine ob ?_ | refine ⟨_, rfl, ?_⟩ | refine ⟨_, _, rfl, ?_⟩ | refine ⟨_, _, _, rfl, ?_⟩ | refine ⟨_, _, _, _, rfl, ?_⟩ | simp only [f1, f2, w1]); (conv => whnf)))
          exact hK' _ _ (by omega) ⟨j + 1, j + 1, [s.extract i j], false, rfl, by omega, by omega, by simp, fun _ => cut h3 h4, fun h => by omega, .inr rfl⟩
        · have f2 : (bt s j == c) = false := by simpa using h4
          ((conv => whnf); repeat ((first | refine Br.t ?_ | refine Br.f ?_ | refine ob ?_ | refine ⟨_, rfl, ?_⟩ | refine ⟨_, _, rfl, ?_⟩ | refine ⟨_, _, _, rfl, ?_⟩ | refine ⟨_, _, _, _, rfl, ?_⟩ | simp only [f1, f2, w1]); (conv => whnf)))
          exact hK' _ _ (by omega) ⟨j + 1, i, [], mv, rfl, by omega, by omega, by simp, fun _ => go h3 h4, fun h => by omega, .inl ⟨rfl, rfl⟩⟩
    · have h1 : j = s.size + 1 := by simp at g1; omega
      exact absurd (hq h1).symm (spl_ne _ _ _)
  · ((conv => whnf); repeat ((first | refine Br.t ?_ | refine Br.f ?_ | refine ob ?_ | refine ⟨_, rfl, ?_⟩ | refine ⟨_, _, rfl, ?_⟩ | refine ⟨_, _, _, rfl, ?_⟩ | refine ⟨_, _, _, _, rfl, ?_⟩); (conv => whnf)))
    refine Br.mk (fun g1 => ?_) (fun g1 => ?_)
    · have h1 : j ≤ s.size := by simp at g1; omega
      have w1 := IntWalk.i64_in (↑j + 1) (by omega)
      by_cases h2 : j = s.size
      · have f1 : ((j : Int) == s.size) = true := by simpa using congrArg (Nat.cast : Nat → Int) h2
        ((conv => whnf); repeat ((first | refine Br.t ?_ | refine Br.f ?_ | refine ob ?_ | refine ⟨_, rfl, ?_⟩ | refine ⟨_, _, rfl, ?_⟩ | refine ⟨_, _, _, rfl, ?_⟩ | refine ⟨_, _, _, _, rfl, ?_⟩ | simp only [f1, w1]); (conv => whnf)))
        exact hK' _ _ (by omega) ⟨j + 1, j + 1, (zs ++ [s.extract i j]), true, rfl, by omega, by omega, by simp; omega, fun h => by omega, fun _ => edge h2, .inr rfl⟩
      · have f1 : ((j : Int) == s.size) = false := by simp; omega
        have h3 : j < s.size := by omega
        by_cases h4 : bt s j = c
        · have f2 : (bt s j == c) = true := by simpa using h4
          ((conv => whnf); repeat ((first | refine Br.t ?_ | refine Br.f ?_ | refine ob ?_ | refine ⟨_, rfl, ?_⟩ | refine ⟨_, _, rfl, ?_⟩ | refine ⟨_, _, _, rfl, ?_⟩ | refine ⟨_, _, _, _, rfl, ?_⟩ | simp only [f1, f2, w1]); (conv => whnf)))
          exact hK' _ _ (by omega) ⟨j + 1, j + 1, (zs ++ [s.extract i j]), true, rfl, by omega, by omega, by simp; omega, fun _ => cut h3 h4, fun h => by omega, .inr rfl⟩
        · have f2 : (bt s j == c) = false := by simpa using h4
          ((conv => whnf); repeat ((first | refine Br.t ?_ | refine Br.f ?_ | refine ob ?_ | refine ⟨_, rfl, ?_⟩ | refine ⟨_, _, rfl, ?_⟩ | refine ⟨_, _, _, rfl, ?_⟩ | refine ⟨_, _, _, _, rfl, ?_⟩ | simp only [f1, f2, w1]); (conv => whnf)))
          exact hK' _ _ (by omega) ⟨j + 1, i, zs, mv, rfl, by omega, by omega, by omega, fun _ => go h3 h4, fun h => by omega, .inr rfl⟩
    · have h1 : j = s.size + 1 := by simp at g1; omega
      ((conv => whnf); repeat ((first | refine Br.t ?_ | refine Br.f ?_ | refine ob ?_ | refine ⟨_, rfl, ?_⟩ | refine ⟨_, _, rfl, ?_⟩ | refine ⟨_, _, _, rfl, ?_⟩ | refine ⟨_, _, _, _, rfl, ?_⟩); (conv => whnf)))
      exact hk zs mv (hq h1)
end Go.Proofs.YtbhejifllgnliaaGreatDoor.Ab
namespace Go.Proofs.YtbhejifllgnliaaGreatDoor.Ab
open Go Go.RowKit Go.Proofs.YtbhejifllgnliaaGreatDoorW.PrintWords
set_option linter.unusedSimpArgs false
set_option linter.unusedVariables false
set_option maxRecDepth 100000
variable {G : World → Prop}
def okC (c : Int) : Bool := isLetter c || isDigit c || signs.contains c
def wordOK (l : List Int) : Bool := !l.isEmpty && l.all okC
def plainR (l : List Int) : Bool := (spl 46 l []).all wordOK
theorem spl_size (c : Int) : ∀ (l cur : List Int), (spl c l cur).length ≤ l.length + 1 ∧ ∀ w ∈ spl c l cur, w.length ≤ l.length + cur.length
  | [], cur => by simp [spl]
  | x :: l, cur => by
    unfold spl
    split
    · obtain ⟨h1, h2⟩ := spl_size c l []
      refine ⟨by simpa using h1, fun w hw => ?_⟩
      rcases List.mem_cons.1 hw with rfl | hw
      · simp
      · have := h2 w hw; simp at this ⊢; omega
    · obtain ⟨h1, h2⟩ := spl_size c l (cur ++ [x])
      refine ⟨by simp; omega, fun w hw => ?_⟩
      have := h2 w hw; simp at this ⊢; omega
def Γ97 : Sems := ext 119 s119 (ext 95 s95 (ext 118 s118 (ext 94 s94 Γ0)))
theorem Γ97.ok : SemsOK G Go.Proofs.Tryz.prog Γ97 := (((Γ0.ok.ext Go.Proofs.Tryz.func94 rfl (by decide) ok94).ext Go.Proofs.Tryz.func118 rfl (by decide) ok118).ext Go.Proofs.Tryz.func95 rfl (by decide) ok95).ext Go.Proofs.Tryz.func119 rfl (by decide) ok119
def s97 : Sense := pureS fun xs K => ∃ s, xs = [.one (.str s)] ∧ s.size ≤ big ∧ K (.ret (.one (.bool (plainR (bl s)))))
set_option maxHeartbeats 4000000 in
theorem ok97 : SenseOK G Go.Proofs.Tryz.prog 97 s97 := SenseOK.pure Γ97.ok (fun r => bif Nat.beq r 8 then [3, 4, 5] else [3, 4]) Go.Proofs.Tryz.func97 fun xs K h => by
  obtain ⟨s, rfl, hb, hk⟩ := h
  simp only [big] at hb
  ((conv => whnf); repeat ((first | refine Br.t ?_ | refine Br.f ?_ | refine ob ?_ | refine ⟨_, rfl, ?_⟩ | refine ⟨_, _, rfl, ?_⟩ | refine ⟨_, _, _, rfl, ?_⟩ | refine ⟨_, _, _, _, rfl, ?_⟩); (conv => whnf)))
  intro zs mv hzs
  have hz1 : zs.length ≤ s.size + 1 := by
    have := (spl_size 46 (bl s) []).1
    rw [← hzs, List.length_map, bl_length] at this; exact this
  have hz2 : ∀ w ∈ zs, w.size ≤ s.size := fun w hw => by
    have := (spl_size 46 (bl s) []).2 (bl w) (by rw [← hzs]; exact List.mem_map_of_mem hw)
    simpa [bl_length] using this
  have hpl : plainR (bl s) = (zs.map bl).all wordOK := by rw [plainR, hzs]
  ((conv => whnf); repeat ((first | refine Br.t ?_ | refine Br.f ?_ | refine ob ?_ | refine ⟨_, rfl, ?_⟩ | refine ⟨_, _, rfl, ?_⟩ | refine ⟨_, _, _, rfl, ?_⟩ | refine ⟨_, _, _, _, rfl, ?_⟩); (conv => whnf)))
  refine iter_of (I := fun k σ => ∃ (j : Nat), k = zs.length - j ∧ j ≤ zs.length ∧ ((zs.take j).map bl).all wordOK = true ∧ σ = ⟨slots 56 [(3, .one (.own 0)), (4, .one (.int .i64 j))], [.own 9 .str zs true mv]⟩) ?_ zs.length ⟨0, by omega, by omega, by simp, rfl⟩
  rintro k σ K' ⟨j, rfl, hj, hall, rfl⟩ hK'
  ((conv => whnf); repeat ((first | refine Br.t ?_ | refine Br.f ?_ | refine ob ?_ | refine ⟨_, rfl, ?_⟩ | refine ⟨_, _, rfl, ?_⟩ | refine ⟨_, _, _, rfl, ?_⟩ | refine ⟨_, _, _, _, rfl, ?_⟩); (conv => whnf)))
  refine Br.mk (fun g1 => ?_) (fun g1 => ?_)
  · have h1 : j < zs.length := by simpa using g1
    obtain ⟨w, hw⟩ : ∃ w, zs[j]? = some w := ⟨_, List.getElem?_eq_getElem h1⟩
    have hwm : w ∈ zs := List.mem_of_getElem? hw
    have hws := hz2 w hwm
    have hr : rdx zs (↑j : Int).toNat Ty.str.dflt = w := by
      show zs.getD j _ = w
      simp [List.getD, hw]
    have bad : wordOK (bl w) = false → plainR (bl s) = false := fun h => by
      rw [hpl, Bool.eq_false_iff]
      intro h'
      have := List.all_eq_true.1 h' (bl w) (List.mem_map_of_mem hwm)
      rw [h] at this; cases this
    have hnil : bl (⟨#[]⟩ : ByteArray) = [] := rfl
    have w1 := IntWalk.i64_in (↑j + 1) (by omega)
    by_cases h0 : bl w = []
    · have f0 : (w.toList == (⟨#[]⟩ : ByteArray).toList) = true := by rw [str_beq, hnil]; simp [h0]
      ((conv => whnf); repeat ((first | refine Br.t ?_ | refine Br.f ?_ | refine ob ?_ | refine ⟨_, rfl, ?_⟩ | refine ⟨_, _, rfl, ?_⟩ | refine ⟨_, _, _, rfl, ?_⟩ | refine ⟨_, _, _, _, rfl, ?_⟩ | simp only [hr, f0]); (conv => whnf)))
      exact retB hk (bad (by simp [wordOK, h0])).symm
    · have f0 : (w.toList == (⟨#[]⟩ : ByteArray).toList) = false := by rw [str_beq, hnil]; simp [h0]
      ((conv => whnf); repeat ((first | refine Br.t ?_ | refine Br.f ?_ | refine ob ?_ | refine ⟨_, rfl, ?_⟩ | refine ⟨_, _, rfl, ?_⟩ | refine ⟨_, _, _, rfl, ?_⟩ | refine ⟨_, _, _, _, rfl, ?_⟩ | simp only [hr, f0]); (conv => whnf)))
      refine iter_of (I := fun k σ => ∃ (q : Nat), k = w.size - q ∧ q ≤ w.size ∧ ((bl w).take q).all okC = true ∧ σ = ⟨slots 56 [(3, .one (.own 0)), (4, .one (.int .i64 j)), (5, .one (.int .i64 q))], [.own 9 .str zs true mv]⟩) ?_ w.size ⟨0, by omega, by omega, by simp, rfl⟩
      rintro k σ K2 ⟨q, rfl, hq, hok, rfl⟩ hK2
      by_cases g2 : q < w.size
      · have f1 : decide ((q : Int) < w.size) = true := by simpa using g2
        have w2 := IntWalk.i64_in (↑q + 1) (by omega)
        cases c1 : isLetter (bt w q) <;> cases c2 : isDigit (bt w q) <;> cases c3 : signs.contains (bt w q)
        · ((conv => whnf); repeat ((first | refine Br.t ?_ | refine Br.f ?_ | refine ob ?_ | refine ⟨_, rfl, ?_⟩ | refine ⟨_, _, rfl, ?_⟩ | refine ⟨_, _, _, rfl, ?_⟩ | refine ⟨_, _, _, _, rfl, ?_⟩ | simp only [hr, f1, c1, c2, c3]); (conv => whnf)))
          refine retB hk (bad ?_).symm
          rw [wordOK, Bool.and_eq_false_iff]
          right
          rw [Bool.eq_false_iff]
          intro h'
          have := List.all_eq_true.1 h' (bt w q) (List.mem_of_getElem? (bl_get g2))
          rw [okC, c1, c2, c3] at this
          cases this
        all_goals
          ((conv => whnf); repeat ((first | refine Br.t ?_ | refine Br.f ?_ | refine ob ?_ | refine ⟨_, rfl, ?_⟩ | refine ⟨_, _, rfl, ?_⟩ | refine ⟨_, _, _, rfl, ?_⟩ | refine ⟨_, _, _, _, rfl, ?_⟩ | simp only [hr, f1, c1, c2, c3, w2]); (conv => whnf)))
          refine hK2 _ _ (by omega) ⟨q + 1, rfl, by omega, ?_, rfl⟩
          have hc : okC (bt w q) = true := by rw [okC, c1, c2, c3]; rfl
          rw [List.take_add_one, bl_get g2, List.all_append, hok]
          simp [hc]
      · have f1 : decide ((q : Int) < w.size) = false := by simp; omega
        ((conv => whnf); repeat ((first | refine Br.t ?_ | refine Br.f ?_ | refine ob ?_ | refine ⟨_, rfl, ?_⟩ | refine ⟨_, _, rfl, ?_⟩ | refine ⟨_, _, _, rfl, ?_⟩ | refine ⟨_, _, _, _, rfl, ?_⟩ | simp only [hr, f1, w1]); (conv => whnf)))
        refine hK' _ _ (by omega) ⟨j + 1, rfl, by omega, ?_, rfl⟩
        rw [List.take_add_one, hw, List.map_append, List.all_append, hall]
        have : (bl w).take q = bl w := List.take_of_length_le (by rw [bl_length]; omega)
        rw [this] at hok
        simp [wordOK, h0, hok]
  · have h1 : j = zs.length := by simp at g1; omega
    subst h1
    ((conv => whnf); repeat ((first | refine Br.t ?_ | refine Br.f ?_ | refine ob ?_ | refine ⟨_, rfl, ?_⟩ | refine ⟨_, _, rfl, ?_⟩ | refine ⟨_, _, _, rfl, ?_⟩ | refine ⟨_, _, _, _, rfl, ?_⟩); (conv => whnf)))
    refine retB hk (Eq.symm ?_)
    rw [hpl, ← hall, List.take_length]
end Go.Proofs.YtbhejifllgnliaaGreatDoor.Ab
namespace Go.Proofs.YtbhejifllgnliaaGreatDoor.Ab
open Go Go.RowKit Go.Proofs.YtbhejifllgnliaaGreatDoorW.PrintWords
set_option linter.unusedSimpArgs false
set_option linter.unusedVariables false
set_option maxRecDepth 100000
variable {G : World → Prop}
def esc1 (c : Int) : List Int := if c = 34 ∨ c = 92 then [92, c] else [c]
def esc (l : List Int) : List Int := l.flatMap esc1
def s99 : Sense := pureS fun xs K => ∃ s, xs = [.one (.str s)] ∧ s.size ≤ big ∧ ∀ r, bl r = 34 :: esc (bl s) ++ [34] → K (.ret (.one (.str r)))
set_option maxHeartbeats 4000000 in
theorem ok99 : SenseOK G Go.Proofs.Tryz.prog 99 s99 := SenseOK.pure Γ0.ok (fun _ => [0, 3, 4]) Go.Proofs.Tryz.func99 fun xs K h => by
  obtain ⟨s, rfl, hb, hk⟩ := h
  simp only [big] at hb
  have z34 : (⟨#[34]⟩ : ByteArray).size = 1 := rfl
  have z92 : (⟨#[92]⟩ : ByteArray).size = 1 := rfl
  have b34 : bl (⟨#[34]⟩ : ByteArray) = [34] := rfl
  have b92 : bl (⟨#[92]⟩ : ByteArray) = [92] := rfl
  ((conv => whnf); repeat ((first | refine Br.t ?_ | refine Br.f ?_ | refine ob ?_ | refine ⟨_, rfl, ?_⟩ | refine ⟨_, _, rfl, ?_⟩ | refine ⟨_, _, _, rfl, ?_⟩ | refine ⟨_, _, _, _, rfl, ?_⟩); (conv => whnf)))
  refine iter_of (I := fun k σ => ∃ (j : Nat) (q : ByteArray), k = s.size - j ∧ j ≤ s.size ∧ q.size ≤ 1 + 2 * j ∧ bl q = 34 :: esc ((bl s).take j) ∧ σ = ⟨slots 32 [(0, .one (.str s)), (3, .one (.str q)), (4, .one (.int .i64 j))], []⟩) ?_ s.size ⟨0, ⟨#[34]⟩, by omega, by omega, by omega, rfl, rfl⟩
  rintro k σ K' ⟨j, q, rfl, hj, hq, hp, rfl⟩ hK'
  ((conv => whnf); repeat ((first | refine Br.t ?_ | refine Br.f ?_ | refine ob ?_ | refine ⟨_, rfl, ?_⟩ | refine ⟨_, _, rfl, ?_⟩ | refine ⟨_, _, _, rfl, ?_⟩ | refine ⟨_, _, _, _, rfl, ?_⟩); (conv => whnf)))
  refine Br.mk (fun g1 => ?_) (fun g1 => ?_)
  · have h1 : j < s.size := by simpa using g1
    have w1 := IntWalk.i64_in (↑j + 1) (by omega)
    have hx : bl (s.extract j (j + 1)) = [bt s j] := by
      rw [bl_extract, List.drop_take, bl_drop h1, show j + 1 - j = 1 by omega]; rfl
    have hxs : (s.extract j (j + 1)).size = 1 := by rw [← bl_length, hx]; rfl
    have hxs' : (s.extract (↑j : Int).toNat (↑j + 1 : Int).toNat).size = 1 := hxs
    have nx : esc ((bl s).take (j + 1)) = esc ((bl s).take j) ++ esc1 (bt s j) := by
      rw [List.take_add_one, bl_get h1]; simp [esc]
    have z1 : (q ++ (⟨#[92]⟩ : ByteArray)).size = q.size + 1 := by rw [ByteArray.size_append, z92]
    by_cases hc : bt s j = 34 ∨ bt s j = 92
    · have f1 : (bif bt s j == 34 then true else bt s j == 92) = true := by rcases hc with hc | hc <;> simp [hc]
      ((conv => whnf); repeat ((first | refine Br.t ?_ | refine Br.f ?_ | refine ob ?_ | refine ⟨_, rfl, ?_⟩ | refine ⟨_, _, rfl, ?_⟩ | refine ⟨_, _, _, rfl, ?_⟩ | refine ⟨_, _, _, _, rfl, ?_⟩ | simp only [f1, w1]); (conv => whnf)))
      refine hK' _ _ (by omega) ⟨j + 1, q ++ ⟨#[92]⟩ ++ s.extract j (j + 1), rfl, by omega, by rw [ByteArray.size_append, z1, hxs]; omega, ?_, rfl⟩
      rw [bl_append, bl_append, hp, nx, hx, b92, esc1, if_pos hc]; simp
    · have f1 : (bif bt s j == 34 then true else bt s j == 92) = false := by rw [Bool.eq_false_iff]; simp; omega
      ((conv => whnf); repeat ((first | refine Br.t ?_ | refine Br.f ?_ | refine ob ?_ | refine ⟨_, rfl, ?_⟩ | refine ⟨_, _, rfl, ?_⟩ | refine ⟨_, _, _, rfl, ?_⟩ | refine ⟨_, _, _, _, rfl, ?_⟩ | simp only [f1, w1]); (conv => whnf)))
      refine hK' _ _ (by omega) ⟨j + 1, q ++ s.extract j (j + 1), rfl, by omega, by rw [ByteArray.size_append, hxs]; omega, ?_, rfl⟩
      rw [bl_append, hp, nx, hx, esc1, if_neg hc]; simp
  · have h1 : j = s.size := by simp at g1; omega
    subst h1
    ((conv => whnf); repeat ((first | refine Br.t ?_ | refine Br.f ?_ | refine ob ?_ | refine ⟨_, rfl, ?_⟩ | refine ⟨_, _, rfl, ?_⟩ | refine ⟨_, _, _, rfl, ?_⟩ | refine ⟨_, _, _, _, rfl, ?_⟩); (conv => whnf)))
    refine hk _ ?_
    rw [bl_append, hp, List.take_of_length_le (by rw [bl_length]; exact Nat.le_refl _)]
    rfl
end Go.Proofs.YtbhejifllgnliaaGreatDoor.Ab
namespace Go.Proofs.YtbhejifllgnliaaGreatDoor.Ab
open Go Go.RowKit Go.Proofs.YtbhejifllgnliaaGreatDoorW.PrintWords
set_option linter.unusedSimpArgs false
set_option linter.unusedVariables false
set_option maxRecDepth 100000
variable {G : World → Prop}
def okp (c : Int) : Bool := decide (32 ≤ c) && decide (c ≤ 126)
def inn : List Int → List Int → Int → Option (List Int × Int)
  | [], _, _ => none
  | c :: l, a, i => if c = 34 then some (a, i + 1) else if c = 92 then (match l with
      | [] => none
      | d :: l' => if okp d then inn l' (a ++ [d]) (i + 2) else none) else if okp c then inn l (a ++ [c]) (i + 1) else none
theorem inn_end {c : Int} (h : c = 34) (l a : List Int) (i : Int) : inn (c :: l) a i = some (a, i + 1) := by
  rw [inn.eq_def]; simp [h]
theorem inn_esc0 {c : Int} (h : c = 92) (a : List Int) (i : Int) : inn [c] a i = none := by
  rw [inn.eq_def]; simp [h]
theorem inn_esc {c : Int} (h : c = 92) (d : Int) (l a : List Int) (i : Int) : inn (c :: d :: l) a i = if okp d then inn l (a ++ [d]) (i + 2) else none := by
  rw [inn.eq_def]; simp [h]
theorem inn_go {c : Int} (h : c ≠ 34) (h2 : c ≠ 92) (l a : List Int) (i : Int) : inn (c :: l) a i = if okp c then inn l (a ++ [c]) (i + 1) else none := by
  rw [inn.eq_def]; simp [h, h2]
def s98 : Sense := pureS fun xs K => ∃ s, xs = [.one (.str s)] ∧ s.size ≤ big ∧
  (inn ((bl s).drop 1) [] 1 = none → K (.ret (.tup [.one (.str ByteArray.empty), .one (.int .i64 0), .one (.bool false)]))) ∧
  (∀ r a n, inn ((bl s).drop 1) [] 1 = some (a, n) → bl r = a → K (.ret (.tup [.one (.str r), .one (.int .i64 n), .one (.bool true)])))
set_option maxHeartbeats 4000000 in
theorem ok98 : SenseOK G Go.Proofs.Tryz.prog 98 s98 := SenseOK.pure Γ0.ok (fun _ => [0, 5, 6]) Go.Proofs.Tryz.func98 fun xs K h => by
  obtain ⟨s, rfl, hb, hk0, hk1⟩ := h
  simp only [big] at hb
  ((conv => whnf); repeat ((first | refine Br.t ?_ | refine Br.f ?_ | refine ob ?_ | refine ⟨_, rfl, ?_⟩ | refine ⟨_, _, rfl, ?_⟩ | refine ⟨_, _, _, rfl, ?_⟩ | refine ⟨_, _, _, _, rfl, ?_⟩); (conv => whnf)))
  refine iter_of (I := fun k σ => ∃ (j : Nat) (zs : List Int) (mv : Bool), k = s.size + 1 - j ∧ 1 ≤ j ∧ zs.length ≤ j ∧ (∀ c ∈ zs, 0 ≤ c ∧ c ≤ 255) ∧ inn ((bl s).drop 1) [] 1 = inn ((bl s).drop j) zs j ∧ j ≤ s.size + 1 ∧
    ((zs = [] ∧ σ = ⟨slots 44 [(0, .one (.str s)), (5, .one .nil), (6, .one (.int .i64 j))], []⟩) ∨
     σ = ⟨slots 44 [(0, .one (.str s)), (5, .one (.own 0)), (6, .one (.int .i64 j))], [.own 5 (.int .u8) zs true mv]⟩)) ?_ s.size ⟨1, [], false, by omega, by omega, by simp, by simp, rfl, by omega, .inl ⟨rfl, rfl⟩⟩
  rintro k σ K' ⟨j, zs, mv, rfl, hj, hzl, hzr, hp, hj2, hσ⟩ hK'
  by_cases g1 : j < s.size
  · have hd := bl_drop g1
    have hr := bl_range (List.mem_of_getElem? (bl_get g1))
    have f1 : decide ((j : Int) < s.size) = true := by simpa using g1
    have w1 := IntWalk.i64_in (↑j + 1) (by omega)
    rw [hd] at hp
    rcases hσ with ⟨rfl, rfl⟩ | rfl
    · by_cases c1 : bt s j = 34
      · have e1 : (bt s j == 34) = true := by simpa using c1
        ((conv => whnf); repeat ((first | refine Br.t ?_ | refine Br.f ?_ | refine ob ?_ | refine ⟨_, rfl, ?_⟩ | refine ⟨_, _, rfl, ?_⟩ | refine ⟨_, _, _, rfl, ?_⟩ | refine ⟨_, _, _, _, rfl, ?_⟩ | simp only [f1, e1, w1]); (conv => whnf)))
        exact hk1 _ [] (↑j + 1) (by rw [hp, inn_end c1]) (bl_nums _ hzr)
      have e1 : (bt s j == 34) = false := by simpa using c1
      by_cases c2 : bt s j = 92
      · have e2 : (bt s j == 92) = true := by simpa using c2
        by_cases g2 : j + 1 < s.size
        · have f3 : decide ((j : Int) + 1 ≥ s.size) = false := by simp; omega
          have hd2 := bl_drop g2
          have hr2 := bl_range (List.mem_of_getElem? (bl_get g2))
          have hcast : ((j + 1 : Nat) : Int) = (j : Int) + 1 := rfl
          rw [hcast] at hd2 hr2
          have w2 := IntWalk.i64_in (↑j + 1 + 1) (by omega)
          rw [hd2, inn_esc c2] at hp
          cases c4 : okp (bt s (↑j + 1)) with
          | true =>
            have c4' := c4
            simp [okp] at c4'
            have f4 : (bif decide (bt s (↑j + 1) < 32) then true else decide (bt s (↑j + 1) > 126)) = false := by rw [Bool.eq_false_iff]; simp; omega
            ((conv => whnf); repeat ((first | refine Br.t ?_ | refine Br.f ?_ | refine ob ?_ | refine ⟨_, rfl, ?_⟩ | refine ⟨_, _, rfl, ?_⟩ | refine ⟨_, _, _, rfl, ?_⟩ | refine ⟨_, _, _, _, rfl, ?_⟩ | simp only [f1, e1, e2, w1, f3, f4, w2]); (conv => whnf)))
            rw [c4, if_pos rfl] at hp
            exact hK' _ _ (by omega) ⟨j + 2, [bt s ((j : Int) + 1)], false, rfl, by omega, by simp, by simp; omega, hp, by omega, .inr rfl⟩
          | false =>
            have c4' := c4
            simp [okp] at c4'
            have f4 : (bif decide (bt s (↑j + 1) < 32) then true else decide (bt s (↑j + 1) > 126)) = true := by simp; omega
            ((conv => whnf); repeat ((first | refine Br.t ?_ | refine Br.f ?_ | refine ob ?_ | refine ⟨_, rfl, ?_⟩ | refine ⟨_, _, rfl, ?_⟩ | refine ⟨_, _, _, rfl, ?_⟩ | refine ⟨_, _, _, _, rfl, ?_⟩ | simp only [f1, e1, e2, w1, f3, f4, w2]); (conv => whnf)))
            rw [c4] at hp
            exact hk0 hp
        · have f3 : decide ((j : Int) + 1 ≥ s.size) = true := by simp; omega
          rw [List.drop_of_length_le (l := bl s) (i := j + 1) (by rw [bl_length]; omega), inn_esc0 c2] at hp
          ((conv => whnf); repeat ((first | refine Br.t ?_ | refine Br.f ?_ | refine ob ?_ | refine ⟨_, rfl, ?_⟩ | refine ⟨_, _, rfl, ?_⟩ | refine ⟨_, _, _, rfl, ?_⟩ | refine ⟨_, _, _, _, rfl, ?_⟩ | simp only [f1, e1, e2, w1, f3]); (conv => whnf)))
          exact hk0 hp
      · have e2 : (bt s j == 92) = false := by simpa using c2
        rw [inn_go c1 c2] at hp
        cases c4 : okp (bt s j) with
        | true =>
          have c4' := c4
          simp [okp] at c4'
          have f4 : (bif decide (bt s j < 32) then true else decide (bt s j > 126)) = false := by rw [Bool.eq_false_iff]; simp; omega
          ((conv => whnf); repeat ((first | refine Br.t ?_ | refine Br.f ?_ | refine ob ?_ | refine ⟨_, rfl, ?_⟩ | refine ⟨_, _, rfl, ?_⟩ | refine ⟨_, _, _, rfl, ?_⟩ | refine ⟨_, _, _, _, rfl, ?_⟩ | simp only [f1, e1, e2, w1, f4]); (conv => whnf)))
          rw [c4, if_pos rfl] at hp
          exact hK' _ _ (by omega) ⟨j + 1, [bt s j], false, rfl, by omega, by simp, by simp; omega, hp, by omega, .inr rfl⟩
        | false =>
          have c4' := c4
          simp [okp] at c4'
          have f4 : (bif decide (bt s j < 32) then true else decide (bt s j > 126)) = true := by simp; omega
          ((conv => whnf); repeat ((first | refine Br.t ?_ | refine Br.f ?_ | refine ob ?_ | refine ⟨_, rfl, ?_⟩ | refine ⟨_, _, rfl, ?_⟩ | refine ⟨_, _, _, rfl, ?_⟩ | refine ⟨_, _, _, _, rfl, ?_⟩ | simp only [f1, e1, e2, w1, f4]); (conv => whnf)))
          rw [c4] at hp
          exact hk0 hp
    · by_cases c1 : bt s j = 34
      · have e1 : (bt s j == 34) = true := by simpa using c1
        ((conv => whnf); repeat ((first | refine Br.t ?_ | refine Br.f ?_ | refine ob ?_ | refine ⟨_, rfl, ?_⟩ | refine ⟨_, _, rfl, ?_⟩ | refine ⟨_, _, _, rfl, ?_⟩ | refine ⟨_, _, _, _, rfl, ?_⟩ | simp only [f1, e1, w1]); (conv => whnf)))
        exact hk1 _ zs (↑j + 1) (by rw [hp, inn_end c1]) (bl_nums _ hzr)
      have e1 : (bt s j == 34) = false := by simpa using c1
      by_cases c2 : bt s j = 92
      · have e2 : (bt s j == 92) = true := by simpa using c2
        by_cases g2 : j + 1 < s.size
        · have f3 : decide ((j : Int) + 1 ≥ s.size) = false := by simp; omega
          have hd2 := bl_drop g2
          have hr2 := bl_range (List.mem_of_getElem? (bl_get g2))
          have hcast : ((j + 1 : Nat) : Int) = (j : Int) + 1 := rfl
          rw [hcast] at hd2 hr2
          have w2 := IntWalk.i64_in (↑j + 1 + 1) (by omega)
          rw [hd2, inn_esc c2] at hp
          cases c4 : okp (bt s (↑j + 1)) with
          | true =>
            have c4' := c4
            simp [okp] at c4'
            have f4 : (bif decide (bt s (↑j + 1) < 32) then true else decide (bt s (↑j + 1) > 126)) = false := by rw [Bool.eq_false_iff]; simp; omega
            ((conv => whnf); repeat ((first | refine Br.t ?_ | refine Br.f ?_ | refine ob ?_ | refine ⟨_, rfl, ?_⟩ | refine ⟨_, _, rfl, ?_⟩ | refine ⟨_, _, _, rfl, ?_⟩ | refine ⟨_, _, _, _, rfl, ?_⟩ | simp only [f1, e1, e2, w1, f3, f4, w2]); (conv => whnf)))
            rw [c4, if_pos rfl] at hp
            exact hK' _ _ (by omega) ⟨j + 2, (zs ++ [bt s ((j : Int) + 1)]), true, rfl, by omega, by simp; omega, by simp; rintro c (h | rfl); (exact hzr c h); omega, hp, by omega, .inr rfl⟩
          | false =>
            have c4' := c4
            simp [okp] at c4'
            have f4 : (bif decide (bt s (↑j + 1) < 32) then true else decide (bt s (↑j + 1) > 126)) = true := by simp; omega
            ((conv => whnf); repeat ((first | refine Br.t ?_ | refine Br.f ?_ | refine ob ?_ | refine ⟨_, rfl, ?_⟩ | refine ⟨_, _, rfl, ?_⟩ | refine ⟨_, _, _, rfl, ?_⟩ | refine ⟨_, _, _, _, rfl, ?_⟩ | simp only [f1, e1, e2, w1, f3, f4, w2]); (conv => whnf)))
            rw [c4] at hp
            exact hk0 hp
        · have f3 : decide ((j : Int) + 1 ≥ s.size) = true := by simp; omega
          rw [List.drop_of_length_le (l := bl s) (i := j + 1) (by rw [bl_length]; omega), inn_esc0 c2] at hp
          ((conv => whnf); repeat ((first | refine Br.t ?_ | refine Br.f ?_ | refine ob ?_ | refine ⟨_, rfl, ?_⟩ | refine ⟨_, _, rfl, ?_⟩ | refine ⟨_, _, _, rfl, ?_⟩ | refine ⟨_, _, _, _, rfl, ?_⟩ | simp only [f1, e1, e2, w1, f3]); (conv => whnf)))
          exact hk0 hp
      · have e2 : (bt s j == 92) = false := by simpa using c2
        rw [inn_go c1 c2] at hp
        cases c4 : okp (bt s j) with
        | true =>
          have c4' := c4
          simp [okp] at c4'
          have f4 : (bif decide (bt s j < 32) then true else decide (bt s j > 126)) = false := by rw [Bool.eq_false_iff]; simp; omega
          ((conv => whnf); repeat ((first | refine Br.t ?_ | refine Br.f ?_ | refine ob ?_ | refine ⟨_, rfl, ?_⟩ | refine ⟨_, _, rfl, ?_⟩ | refine ⟨_, _, _, rfl, ?_⟩ | refine ⟨_, _, _, _, rfl, ?_⟩ | simp only [f1, e1, e2, w1, f4]); (conv => whnf)))
          rw [c4, if_pos rfl] at hp
          exact hK' _ _ (by omega) ⟨j + 1, (zs ++ [bt s j]), true, rfl, by omega, by simp; omega, by simp; rintro c (h | rfl); (exact hzr c h); omega, hp, by omega, .inr rfl⟩
        | false =>
          have c4' := c4
          simp [okp] at c4'
          have f4 : (bif decide (bt s j < 32) then true else decide (bt s j > 126)) = true := by simp; omega
          ((conv => whnf); repeat ((first | refine Br.t ?_ | refine Br.f ?_ | refine ob ?_ | refine ⟨_, rfl, ?_⟩ | refine ⟨_, _, rfl, ?_⟩ | refine ⟨_, _, _, rfl, ?_⟩ | refine ⟨_, _, _, _, rfl, ?_⟩ | simp only [f1, e1, e2, w1, f4]); (conv => whnf)))
          rw [c4] at hp
          exact hk0 hp
  · have f1 : decide ((j : Int) < s.size) = false := by simp; omega
    rw [List.drop_of_length_le (l := bl s) (i := j) (by rw [bl_length]; omega)] at hp
    rcases hσ with ⟨rfl, rfl⟩ | rfl <;> ((conv => whnf); repeat ((first | refine Br.t ?_ | refine Br.f ?_ | refine ob ?_ | refine ⟨_, rfl, ?_⟩ | refine ⟨_, _, rfl, ?_⟩ | refine ⟨_, _, _, rfl, ?_⟩ | refine ⟨_, _, _, _, rfl, ?_⟩ | simp only [f1]); (conv => whnf))) <;> exact hk0 hp
end Go.Proofs.YtbhejifllgnliaaGreatDoor.Ab
namespace Go.Proofs.YtbhejifllgnliaaGreatDoor.Ab
set_option linter.unusedSimpArgs false
set_option linter.unusedVariables false
theorem isAtom_ok (c : Int) (h : c ≠ 46) : isAtom c = okC c := by
  rw [Bool.eq_iff_iff]
  simp only [isAtom, okC, isSign, isLetter, isDigit, signs, Bool.or_eq_true, Bool.and_eq_true, decide_eq_true_eq]
  constructor <;> (intro h; rcases h with h | h <;> simp_all <;> omega)
theorem plain_eq_aux : ∀ (l cur : List Int), cur.all okC = true → plainL l cur.length = (spl 46 l cur).all wordOK
  | [], cur, h => by
    cases cur with
    | nil => rfl
    | cons x cur => simp [plainL, spl, wordOK, h]
  | c :: l, cur, h => by
    by_cases hc : c = 46
    · subst hc
      cases cur with
      | nil => simp [plainL, spl, wordOK]
      | cons x cur =>
        have e : ¬ (((x :: cur).length : Int) = 0) := by simp; omega
        simp only [plainL, spl, if_true, List.all_cons]
        rw [if_neg (by simp; omega)]
        have := plain_eq_aux l [] rfl
        simp only [List.length_nil] at this
        have hw : wordOK (x :: cur) = true := by simp only [wordOK, h]; rfl
        rw [hw, Bool.true_and]
        exact this
    · simp only [plainL, spl, if_neg hc]
      cases ha : isAtom c with
      | false =>
        rw [if_pos (.inr ⟨hc, rfl⟩)]
        have hb : okC c = false := by rw [← isAtom_ok c hc]; exact ha
        symm
        have key : ∀ (l cur : List Int), c ∈ cur → (spl 46 l cur).all wordOK = false := by
          intro l
          induction l with
          | nil => intro cur hm; simp [spl, wordOK]; intro _; exact ⟨c, hm, hb⟩
          | cons y l ih =>
            intro cur hm
            simp only [spl]
            split
            · simp [wordOK]; intro _ h'; have := h' c hm; rw [hb] at this; cases this
            · exact ih _ (by simp [hm])
        exact key l _ (by simp)
      | true =>
        rw [if_neg (by simp [hc])]
        have hb : okC c = true := by rw [← isAtom_ok c hc]; exact ha
        have := plain_eq_aux l (cur ++ [c]) (by simp [h, hb])
        simp at this
        exact this
theorem plain_eq (l : List Int) : plainL l 0 = plainR l := by
  have := plain_eq_aux l [] rfl
  simpa [plainR] using this
/-- What is escaped is read back. -/
theorem inn_back : ∀ (m r : List Int) (a : List Int) (i : Int), m.all okp = true → inn (esc m ++ 34 :: r) a i = some (a ++ m, i + (esc m).length + 1)
  | [], r, a, i, _ => by
    show inn (34 :: r) a i = _
    rw [inn_end rfl]; simp [esc]
  | c :: m, r, a, i, h => by
    simp only [List.all_cons, Bool.and_eq_true] at h
    have e : esc (c :: m) = esc1 c ++ esc m := by simp [esc]
    rw [e]
    by_cases hc : c = 34 ∨ c = 92
    · have e1 : esc1 c = [92, c] := by simp [esc1, hc]
      rw [e1]
      show inn (92 :: c :: (esc m ++ 34 :: r)) a i = _
      rw [inn_esc rfl, if_pos h.1, inn_back m r _ _ h.2]
      simp; omega
    · have e1 : esc1 c = [c] := by simp [esc1, hc]
      rw [e1]
      show inn (c :: (esc m ++ 34 :: r)) a i = _
      rw [inn_go (fun e => hc (.inl e)) (fun e => hc (.inr e)), if_pos h.1, inn_back m r _ _ h.2]
      simp; omega
/-- What was read: where it ends, of which bytes it is. -/
theorem inn_spec : ∀ (n : Nat) (l a : List Int) (i : Int) (m : List Int) (k : Int), l.length ≤ n → inn l a i = some (m, k) → ∃ p q : List Int, l = p ++ 34 :: q ∧ k = i + p.length + 1 ∧ ∃ m', m = a ++ m' ∧ m'.all okp = true ∧ (∀ r, inn (p ++ 34 :: r) a i = some (m, k)) ∧ m'.length ≤ p.length
  | _, [], a, i, m, k, _, h => by rw [inn.eq_def] at h; cases h
  | 0, _ :: _, _, _, _, _, h, _ => by simp at h
  | n + 1, c :: l, a, i, m, k, hl, h => by
    simp only [List.length_cons] at hl
    by_cases h1 : c = 34
    · rw [inn_end h1] at h
      cases h
      exact ⟨[], l, by simp [h1], by simp, [], by simp, rfl, fun r => by rw [List.nil_append, inn_end rfl], Nat.le_refl _⟩
    by_cases h2 : c = 92
    · cases l with
      | nil => rw [inn_esc0 h2] at h; cases h
      | cons d l =>
        rw [inn_esc h2] at h
        simp only [List.length_cons] at hl
        split at h
        · rename_i hd
          obtain ⟨p, q, rfl, rfl, m', rfl, hm', hr, hle⟩ := inn_spec n l _ _ _ _ (by omega) h
          refine ⟨c :: d :: p, q, rfl, by simp; omega, d :: m', by simp, by simp [hd, hm'], fun r => ?_, by simp; omega⟩
          show inn (c :: d :: (p ++ 34 :: r)) a i = _
          rw [inn_esc h2, if_pos hd]
          exact hr r
        · cases h
    · rw [inn_go h1 h2] at h
      split at h
      · rename_i hc
        obtain ⟨p, q, rfl, rfl, m', rfl, hm', hr, hle⟩ := inn_spec n l _ _ _ _ (by omega) h
        refine ⟨c :: p, q, rfl, by simp; omega, c :: m', by simp, by simp [hc, hm'], fun r => ?_, by simp; omega⟩
        show inn (c :: (p ++ 34 :: r)) a i = _
        rw [inn_go h1 h2, if_pos hc]
        exact hr r
      · cases h
def localR (l : List Int) : Bool := !l.isEmpty && decide (l.length ≤ 64) && (if l.head? = some 34 then
    (match inn (l.drop 1) [] 1 with
      | some (a, n) => decide (n = l.length) && !plainR a && decide (34 :: esc a ++ [34] = l)
      | none => false)
  else plainR l)
def labL (l : List Int) : Bool := !l.isEmpty && decide (l.length ≤ 63) && l.all (fun c => isSign c || c == 45) && l.head? != some 45 && l.getLast? != some 45
def byteL (w : List Int) : Bool := match val w with
  | some n => decide (n ≤ 255)
  | none => false
def quadL (l : List Int) : Bool := (spl 46 l []).all byteL && decide ((spl 46 l []).length = 4)
/-- Between brackets. -/
def litL (l : List Int) : Bool := decide (2 ≤ l.length) && l.head? == some 91 && l.getLast? == some 93 && quadL (l.drop 1).dropLast
/-- A domain. -/
def domL (l : List Int) : Bool := decide (l.length ≤ 255) && (litL l || (spl 46 l []).all labL)
theorem digs_all : ∀ (l : List Int) (n m : Int), digs n l = some m → l.all isDigit = true
  | [], _, _, _ => rfl
  | c :: l, n, m, h => by
    simp only [digs] at h
    split at h
    · rename_i hc; simp [hc, digs_all l _ _ h]
    · cases h
theorem spl_mem (c : Int) : ∀ (l cur : List Int) (x : Int), x ∈ l → x = c ∨ ∃ w ∈ spl c l cur, x ∈ w
  | [], _, x, h => by simp at h
  | y :: l, cur, x, h => by
    have grow : ∀ (l cur : List Int), ∀ z ∈ cur, ∃ w ∈ spl c l cur, z ∈ w := by
      intro l
      induction l with
      | nil => intro cur z hz; exact ⟨cur, by simp [spl], hz⟩
      | cons y l ih =>
        intro cur z hz
        simp only [spl]
        split
        · exact ⟨cur, by simp, hz⟩
        · exact ih _ z (by simp [hz])
    simp only [spl]
    split
    · rename_i hy
      rcases List.mem_cons.1 h with rfl | h
      · exact .inl hy
      · rcases spl_mem c l [] x h with h | ⟨w, hw, hx⟩
        · exact .inl h
        · exact .inr ⟨w, by simp [hw], hx⟩
    · rcases List.mem_cons.1 h with rfl | h
      · exact .inr (grow l _ x (by simp))
      · exact spl_mem c l _ x h
theorem domL_small {l : List Int} (h : domL l = true) : l.map small1 = l := by
  have key : ∀ x ∈ l, ¬ (65 ≤ x ∧ x ≤ 90) := by
    intro x hx
    simp only [domL, Bool.and_eq_true, Bool.or_eq_true] at h
    rcases h.2 with h | h
    · simp only [litL, Bool.and_eq_true, decide_eq_true_eq, beq_iff_eq] at h
      obtain ⟨⟨⟨h1, h2⟩, h3⟩, h4⟩ := h
      obtain ⟨y, l', rfl⟩ : ∃ y l', l = y :: l' := by cases l with | nil => simp at h1 | cons y l' => exact ⟨y, l', rfl⟩
      simp at h2
      simp only [List.drop_succ_cons, List.drop_zero] at h4
      have hne : l' ≠ [] := by intro e; subst e; simp at h1
      have hl : l' = l'.dropLast ++ [93] := by
        have := List.dropLast_concat_getLast hne
        rw [List.getLast?_cons, List.getLast?_eq_some_getLast hne] at h3
        simp at h3
        rw [h3] at this
        exact this.symm
      rcases List.mem_cons.1 hx with rfl | hx
      · omega
      rw [hl] at hx
      rcases List.mem_append.1 hx with hx | hx
      · rcases spl_mem 46 _ [] x hx with h | ⟨w, hw, hxw⟩
        · omega
        · simp only [quadL, Bool.and_eq_true] at h4
          have := List.all_eq_true.1 h4.1 w hw
          simp only [byteL, val] at this
          split at this
          · rename_i n hn
            split at hn
            · have := List.all_eq_true.1 (digs_all _ _ _ hn) x hxw
              simp [isDigit] at this; omega
            · cases hn
          · cases this
      · simp at hx; omega
    · rcases spl_mem 46 _ [] x hx with h' | ⟨w, hw, hxw⟩
      · omega
      · have := List.all_eq_true.1 h w hw
        simp only [labL, Bool.and_eq_true] at this
        have := List.all_eq_true.1 this.1.1.2 x hxw
        simp [isSign] at this
        omega
  have : ∀ (l : List Int), (∀ x ∈ l, ¬ (65 ≤ x ∧ x ≤ 90)) → l.map small1 = l := by
    intro l h
    induction l with
    | nil => rfl
    | cons x l ih => rw [List.map_cons, ih fun y hy => h y (by simp [hy]), small1, if_neg (h x (by simp))]
  exact this l key
def quoteP (a : List Int) : List Int := if plainL a 0 then a else 34 :: esc a ++ [34]
def localP (l : List Int) : Option (List Int × List Int) :=
  if l.head? = some 34 then (match inn (l.drop 1) [] 1 with
    | some (a, n) => some (quoteP a, l.drop n.toNat)
    | none => none)
  else if 0 ≤ idx l 64 ∧ plainL (l.take (idx l 64).toNat) 0 = true then some (l.take (idx l 64).toNat, l.drop (idx l 64).toNat) else none
def parseP (l : List Int) : Option (List Int × List Int) := match localP l with
  | none => none
  | some (p, r) => if p.length ≤ 64 ∧ r.head? = some 64 ∧ domL ((r.drop 1).map small1) = true then some (p, (r.drop 1).map small1) else none
/-- A mailbox: the page's. -/
def mayR (a d : List Int) : Bool := localR a && domL d
theorem plainL_mem : ∀ (l : List Int) (w : Int), plainL l w = true → ∀ x ∈ l, x = 46 ∨ isAtom x = true
  | [], _, _, x, hx => by simp at hx
  | c :: l, w, h, x, hx => by
    simp only [plainL] at h
    split at h
    · cases h
    · rename_i hc
      rcases List.mem_cons.1 hx with rfl | hx
      · by_cases h46 : x = 46
        · exact .inl h46
        · right
          cases ha : isAtom x with
          | true => rfl
          | false => exact absurd (.inr ⟨h46, ha⟩) hc
      · exact plainL_mem l _ h x hx
theorem idx_at : ∀ (a r : List Int) (c : Int), (∀ x ∈ a, x ≠ c) → idx (a ++ c :: r) c = a.length
  | [], r, c, _ => by simp [idx]
  | x :: a, r, c, h => by
    have := idx_at a r c fun y hy => h y (by simp [hy])
    simp only [List.cons_append, idx, if_neg (h x (by simp)), this, List.length_cons]
    rw [if_neg (by omega)]; omega
theorem may_eq (a d : List Int) : (parseP (a ++ 64 :: d) = some (a, d)) ↔ mayR a d = true := by
  constructor
  · intro h
    unfold parseP at h
    split at h
    · cases h
    rename_i p r hloc
    split at h
    · rename_i hc
      obtain ⟨h1, h2, h3⟩ := hc
      simp only [Option.some.injEq, Prod.mk.injEq] at h
      obtain ⟨rfl, hd⟩ := h
      rw [hd] at h3
      simp only [mayR, h3, Bool.and_true]
      unfold localP at hloc
      split at hloc
      · rename_i hq
        split at hloc
        · rename_i m n hin
          simp only [Option.some.injEq, Prod.mk.injEq] at hloc
          obtain ⟨hp, hr⟩ := hloc
          obtain ⟨u, q, he, hk, m', hm, hok, hback, _⟩ := inn_spec _ _ _ _ _ _ (Nat.le_refl _) hin
          rw [List.nil_append] at hm
          subst hm
          cases hpl : plainL m 0 with
          | true =>
            exfalso
            rw [quoteP, if_pos hpl] at hp
            subst hp
            cases m with
            | nil => simp at hq
            | cons x m =>
              simp at hq
              subst hq
              rcases plainL_mem _ _ hpl 34 (by simp) with h | h
              · omega
              · revert h; decide
          | false =>
            rw [quoteP, if_neg (by rw [hpl]; decide)] at hp
            subst hp
            have hb := inn_back m [] [] 1 hok
            have e1 : (34 :: esc m ++ [34]).isEmpty = false := rfl
            have e2 : (34 :: esc m ++ [34]).head? = some 34 := rfl
            have e3 : (34 :: esc m ++ [34]).drop 1 = esc m ++ [34] := rfl
            simp only [localR, e1, e2, e3, hb, if_true, List.nil_append]
            rw [← plain_eq, hpl]
            simp only [List.length_append, List.length_cons, List.length_nil] at h1 ⊢
            simp only [Bool.not_false, Bool.true_and, Bool.and_true, Bool.and_eq_true, decide_eq_true_eq]
            exact ⟨h1, by omega, trivial⟩
        · cases hloc
      · rename_i hq
        split at hloc
        · rename_i hi
          simp only [Option.some.injEq, Prod.mk.injEq] at hloc
          obtain ⟨hp, hr⟩ := hloc
          obtain ⟨hi0, hpl⟩ := hi
          rw [hp, plain_eq] at hpl
          cases p with
          | nil => revert hpl; decide
          | cons x p =>
            have : (x :: p).head? ≠ some 34 := fun h => hq (by simpa using h)
            rw [localR, if_neg this, hpl]
            simp at h1 ⊢
            exact h1
        · cases hloc
    · cases h
  · intro h
    simp only [mayR, Bool.and_eq_true] at h
    obtain ⟨hl, hd⟩ := h
    have hs := domL_small hd
    have fin : localP (a ++ 64 :: d) = some (a, 64 :: d) → a.length ≤ 64 → parseP (a ++ 64 :: d) = some (a, d) := by
      intro h1 h2
      unfold parseP
      rw [h1]
      show (if _ then _ else _) = _
      rw [List.drop_succ_cons, List.drop_zero, hs, if_pos ⟨h2, rfl, hd⟩]
    simp only [localR, Bool.and_eq_true, decide_eq_true_eq] at hl
    obtain ⟨⟨hne, h64⟩, hl⟩ := hl
    refine fin ?_ h64
    have hh : (a ++ 64 :: d).head? = a.head? := by
      cases a with
      | nil => simp at hne
      | cons x a => rfl
    split at hl
    · rename_i hq
      split at hl
      · rename_i m n hin
        simp only [Bool.and_eq_true, decide_eq_true_eq] at hl
        obtain ⟨⟨hn, hpl⟩, rfl⟩ := hl
        obtain ⟨u, q, he, hk, m', hm, hok, hback, _⟩ := inn_spec _ _ _ _ _ _ (Nat.le_refl _) hin
        rw [List.nil_append] at hm
        subst hm
        rw [← plain_eq] at hpl
        have e : 34 :: esc m ++ [34] ++ 64 :: d = 34 :: (esc m ++ 34 :: 64 :: d) := by simp
        rw [localP, hh, if_pos hq, e, List.drop_succ_cons, List.drop_zero, inn_back m _ _ _ hok]
        show some (quoteP ([] ++ m), _) = _
        rw [List.nil_append, quoteP, if_neg (by simpa using hpl)]
        have e2 : (1 + ((esc m).length : Int) + 1).toNat = (34 :: esc m ++ [34]).length := by simp; omega
        rw [e2, ← e, List.drop_left]
      · cases hl
    · rename_i hq
      rw [localP, hh, if_neg hq]
      rw [← plain_eq] at hl
      have hno : ∀ x ∈ a, x ≠ 64 := by
        intro x hx e
        subst e
        rcases plainL_mem _ _ hl 64 hx with h | h
        · omega
        · revert h; decide
      rw [idx_at a d 64 hno, Int.toNat_natCast, List.take_left, List.drop_left, if_pos ⟨by omega, hl⟩]
def domP (l : List Int) : Bool := if l.head? = some 91 then decide (l.getLast? = some 93) && quadL (l.drop 1).dropLast else (spl 46 l []).all labL && decide (l.length ≤ 255)
theorem spl_sum (c : Int) : ∀ (l cur : List Int), ((spl c l cur).map fun w => w.length + 1).sum = l.length + cur.length + 1
  | [], cur => by simp [spl]
  | x :: l, cur => by
    simp only [spl]
    split
    · rw [List.map_cons, List.sum_cons, spl_sum c l []]; simp; omega
    · rw [spl_sum c l _]; simp; omega
theorem byteL_len {w : List Int} (h : byteL w = true) : w.length ≤ 16 := by
  simp only [byteL, val] at h
  split at h
  · rename_i n hn
    split at hn
    · rename_i hv
      simp [valP] at hv
      omega
    · cases hn
  · cases h
theorem quadL_len {l : List Int} (h : quadL l = true) : l.length ≤ 100 := by
  simp only [quadL, Bool.and_eq_true, decide_eq_true_eq] at h
  have hs := spl_sum 46 l []
  generalize spl 46 l [] = ws at h hs
  match ws, h.2 with
  | [a, b, c, d], _ =>
    have hb : ∀ w ∈ [a, b, c, d], w.length ≤ 16 := fun w hw => byteL_len (List.all_eq_true.1 h.1 w hw)
    have := hb a (by simp); have := hb b (by simp); have := hb c (by simp); have := hb d (by simp)
    simp at hs
    omega
theorem domP_eq (l : List Int) : domP l = domL l := by
  cases l with
  | nil => decide
  | cons x l =>
    by_cases hx : x = 91
    · subst hx
      have hlab : (spl 46 (91 :: l) []).all labL = false := by
        have : ∀ (l cur : List Int), 91 ∈ cur → (spl 46 l cur).all labL = false := by
          intro l
          induction l with
          | nil =>
            intro cur h
            simp only [spl, List.all_cons, List.all_nil, Bool.and_true]
            rw [Bool.eq_false_iff]
            intro h'
            simp only [labL, Bool.and_eq_true] at h'
            have := List.all_eq_true.1 h'.1.1.2 91 h
            revert this; decide
          | cons y l ih =>
            intro cur h
            simp only [spl]
            split
            · simp only [List.all_cons, Bool.and_eq_false_iff]
              left
              rw [Bool.eq_false_iff]
              intro h'
              simp only [labL, Bool.and_eq_true] at h'
              have := List.all_eq_true.1 h'.1.1.2 91 h
              revert this; decide
            · exact ih _ (by simp [h])
        simp only [spl]
        rw [if_neg (by decide)]
        exact this l _ (by simp)
      rw [domP, domL, hlab, Bool.or_false, if_pos (show (91 :: l).head? = some 91 from rfl), Bool.eq_iff_iff]
      simp only [litL, Bool.and_eq_true, decide_eq_true_eq, beq_iff_eq]
      constructor
      · rintro ⟨h1, h2⟩
        have hl : 2 ≤ (91 :: l).length := by
          cases l with
          | nil => simp at h1
          | cons y l => simp
        have := quadL_len h2
        simp at this
        exact ⟨by simp at hl ⊢; omega, ⟨⟨hl, rfl⟩, h1⟩, h2⟩
      · rintro ⟨h1, ⟨⟨h2, h3⟩, h4⟩, h5⟩
        exact ⟨h4, h5⟩
    · have : (x :: l).head? ≠ some 91 := by simpa using hx
      have hlit : litL (x :: l) = false := by
        rw [Bool.eq_false_iff]
        intro h
        simp only [litL, Bool.and_eq_true, beq_iff_eq] at h
        exact this h.1.1.2
      rw [domP, domL, if_neg this, hlit, Bool.false_or, Bool.and_comm]
structure Rc where
  (bl_ bd : List Int) (st at_ nx co : Int)
  deriving DecidableEq
structure Ml where
  (id te : Int) (nul : Bool) (fl fd : List Int) (rc : List Rc) (body : List Int) (born : Int) (held told : Bool)
  deriving DecidableEq
def byt (n : Int) (k : Nat) : Int := (n.fdiv (2 ^ k)) % 256
def num6 (n : Int) : List Int := [byt n 40, byt n 32, byt n 24, byt n 16, byt n 8, byt n 0]
def txt (l : List Int) : List Int := num6 l.length ++ l
def bitI (b : Bool) : Int := bif b then 1 else 0
def layR (r : Rc) : List Int := txt r.bl_ ++ txt r.bd ++ num6 r.st ++ num6 r.at_ ++ num6 r.nx ++ num6 r.co
def layM (m : Ml) : List Int := num6 m.id ++ num6 m.te ++ num6 (bitI m.nul) ++ num6 (bitI m.held) ++ num6 (bitI m.told) ++ num6 m.born ++ num6 m.rc.length ++ txt m.fl ++ txt m.fd ++ m.rc.flatMap layR ++ txt m.body
def val6 : List Int → Int → Int
  | [], n => n
  | c :: l, n => val6 l (n * 256 + c)
def rdN (l : List Int) : Option (Int × List Int) := if 6 ≤ l.length then some (val6 (l.take 6) 0, l.drop 6) else none
def rdT (l : List Int) : Option (List Int × List Int) := (rdN l).bind fun x => if x.1 ≤ x.2.length then some (x.2.take x.1.toNat, x.2.drop x.1.toNat) else none
def rdR (l : List Int) : Option (Rc × List Int) :=
  (rdT l).bind fun a => (rdT a.2).bind fun b => (rdN b.2).bind fun c => (rdN c.2).bind fun d => (rdN d.2).bind fun e => (rdN e.2).bind fun f => some (⟨a.1, b.1, c.1, d.1, e.1, f.1⟩, f.2)
def rdRs : Nat → List Int → Option (List Rc × List Int)
  | 0, l => some ([], l)
  | n + 1, l => (rdR l).bind fun a => (rdRs n a.2).bind fun b => some (a.1 :: b.1, b.2)
def rdM (l : List Int) : Option (Ml × List Int) :=
  (rdN l).bind fun a => (rdN a.2).bind fun b => (rdN b.2).bind fun c => (rdN c.2).bind fun d => (rdN d.2).bind fun e => (rdN e.2).bind fun f => (rdN f.2).bind fun g =>
  (rdT g.2).bind fun h => (rdT h.2).bind fun i => (rdRs (min g.1 8).toNat i.2).bind fun j => (rdT j.2).bind fun k =>
  some (⟨a.1, b.1, decide (c.1 = 1), h.1, i.1, j.1, k.1, f.1, decide (d.1 = 1), decide (e.1 = 1)⟩, k.2)
def big48 : Int := 281474976710656
theorem num6_len (n : Int) : (num6 n).length = 6 := rfl
theorem num6_val {n : Int} (h0 : 0 ≤ n) (h1 : n < big48) : val6 (num6 n) 0 = n := by
  simp only [num6, val6, byt, big48] at *
  rw [Int.fdiv_eq_ediv_of_nonneg _ (by decide), Int.fdiv_eq_ediv_of_nonneg _ (by decide), Int.fdiv_eq_ediv_of_nonneg _ (by decide), Int.fdiv_eq_ediv_of_nonneg _ (by decide), Int.fdiv_eq_ediv_of_nonneg _ (by decide), Int.fdiv_eq_ediv_of_nonneg _ (by decide)]
  omega
theorem rdN_num {n : Int} (h0 : 0 ≤ n) (h1 : n < big48) (r : List Int) : rdN (num6 n ++ r) = some (n, r) := by
  have e1 : (num6 n ++ r).take 6 = num6 n := List.take_left' (num6_len n)
  have e2 : (num6 n ++ r).drop 6 = r := List.drop_left' (num6_len n)
  rw [rdN, e1, e2, num6_val h0 h1, if_pos (by simp [num6_len])]
theorem rdT_txt {l : List Int} (h : (l.length : Int) < big48) (r : List Int) : rdT (txt l ++ r) = some (l, r) := by
  rw [rdT, txt, List.append_assoc, rdN_num (by omega) h]
  simp
  omega
def Rc.wf (r : Rc) : Prop := (r.bl_.length : Int) < big48 ∧ (r.bd.length : Int) < big48 ∧ (0 ≤ r.st ∧ r.st < big48) ∧ (0 ≤ r.at_ ∧ r.at_ < big48) ∧ (0 ≤ r.nx ∧ r.nx < big48) ∧ (0 ≤ r.co ∧ r.co < big48)
theorem rdR_lay {x : Rc} (h : x.wf) (r : List Int) : rdR (layR x ++ r) = some (x, r) := by
  obtain ⟨h1, h2, h3, h4, h5, h6⟩ := h
  simp only [rdR, layR, List.append_assoc]
  rw [rdT_txt h1]; simp only [Option.bind_some]
  rw [rdT_txt h2]; simp only [Option.bind_some]
  rw [rdN_num h3.1 h3.2]; simp only [Option.bind_some]
  rw [rdN_num h4.1 h4.2]; simp only [Option.bind_some]
  rw [rdN_num h5.1 h5.2]; simp only [Option.bind_some]
  rw [rdN_num h6.1 h6.2]; rfl
theorem rdRs_lay : ∀ (l : List Rc) (r : List Int), (∀ x ∈ l, x.wf) → rdRs l.length (l.flatMap layR ++ r) = some (l, r)
  | [], r, _ => rfl
  | x :: l, r, h => by
    simp only [List.length_cons, rdRs, List.flatMap_cons, List.append_assoc]
    rw [rdR_lay (h x (by simp))]; simp only [Option.bind_some]
    rw [rdRs_lay l r fun y hy => h y (by simp [hy])]; rfl
structure Ml.wf (m : Ml) : Prop where
  id : 0 ≤ m.id ∧ m.id < big48
  te : 0 ≤ m.te ∧ m.te < big48
  born : 0 ≤ m.born ∧ m.born < big48
  rc : m.rc.length ≤ 8
  rcs : ∀ x ∈ m.rc, x.wf
  fl : (m.fl.length : Int) < big48
  fd : (m.fd.length : Int) < big48
  body : (m.body.length : Int) < big48
theorem bitI_wf (b : Bool) : 0 ≤ bitI b ∧ bitI b < big48 := by cases b <;> decide
theorem bitI_one (b : Bool) : decide (bitI b = 1) = b := by cases b <;> decide
theorem rdM_lay {m : Ml} (h : m.wf) (r : List Int) : rdM (layM m ++ r) = some (m, r) := by
  obtain ⟨h1, h2, h3, h4, h5, h6, h7, h8⟩ := h
  simp only [rdM, layM, List.append_assoc]
  rw [rdN_num h1.1 h1.2]; simp only [Option.bind_some]
  rw [rdN_num h2.1 h2.2]; simp only [Option.bind_some]
  rw [rdN_num (bitI_wf _).1 (bitI_wf _).2]; simp only [Option.bind_some]
  rw [rdN_num (bitI_wf _).1 (bitI_wf _).2]; simp only [Option.bind_some]
  rw [rdN_num (bitI_wf _).1 (bitI_wf _).2]; simp only [Option.bind_some]
  rw [rdN_num h3.1 h3.2]; simp only [Option.bind_some]
  rw [rdN_num (by omega) (by simp only [big48]; omega)]; simp only [Option.bind_some]
  rw [rdT_txt h6]; simp only [Option.bind_some]
  rw [rdT_txt h7]; simp only [Option.bind_some]
  have e : (min (m.rc.length : Int) 8).toNat = m.rc.length := by omega
  rw [e, rdRs_lay _ _ h5]; simp only [Option.bind_some]
  rw [rdT_txt h8]; simp only [Option.bind_some, bitI_one]
end Go.Proofs.YtbhejifllgnliaaGreatDoor.Ab
namespace Go.Proofs.YtbhejifllgnliaaGreatDoor.Ab
open Go Go.RowKit Go.Proofs.YtbhejifllgnliaaGreatDoorW.PrintWords
set_option linter.unusedSimpArgs false
set_option linter.unusedVariables false
set_option maxRecDepth 100000
variable {G : World → Prop}
def Γ69 : Sems := ext 94 s94 (ext 96 s96 Γ0)
theorem Γ69.ok : SemsOK G Go.Proofs.Tryz.prog Γ69 := (Γ0.ok.ext Go.Proofs.Tryz.func96 rfl (by decide) ok96).ext Go.Proofs.Tryz.func94 rfl (by decide) ok94
theorem bl_head {s : ByteArray} (h : 0 < s.size) : (bl s).head? = some (bt s 0) := by
  rw [List.head?_eq_getElem?]; exact bl_get (s := s) (j := 0) h
theorem bl_last {s : ByteArray} (h : 0 < s.size) : (bl s).getLast? = some (bt s ((s.size : Int) - 1)) := by
  rw [List.getLast?_eq_getElem?, bl_length]
  have := bl_get (s := s) (j := s.size - 1) (by omega)
  rw [this]
  congr 2
  omega
theorem bl_mid (s : ByteArray) : bl (s.extract 1 (s.size - 1)) = ((bl s).drop 1).dropLast := by
  rw [bl_extract, List.dropLast_eq_take, List.length_drop, bl_length, List.drop_take]
def s69 : Sense := pureS fun xs K => ∃ s, xs = [.one (.str s)] ∧ s.size ≤ big ∧ K (.ret (.one (.bool (litL (bl s)))))
set_option maxHeartbeats 4000000 in
theorem ok69 : SenseOK G Go.Proofs.Tryz.prog 69 s69 := SenseOK.pure Γ69.ok (fun _ => [3, 4]) Go.Proofs.Tryz.func69 fun xs K h => by
  obtain ⟨s, rfl, hb, hk⟩ := h
  simp only [big] at hb
  by_cases h0 : s.size < 2
  · have f0 : decide ((s.size : Int) < 2) = true := by simp; omega
    ((conv => whnf); repeat ((first | refine Br.t ?_ | refine Br.f ?_ | refine ob ?_ | refine ⟨_, rfl, ?_⟩ | refine ⟨_, _, rfl, ?_⟩ | refine ⟨_, _, _, rfl, ?_⟩ | refine ⟨_, _, _, _, rfl, ?_⟩ | simp only [f0]); (conv => whnf)))
    exact retB hk (by simp [litL, bl_length]; omega)
  have f0 : decide ((s.size : Int) < 2) = false := by simp; omega
  have w0 := IntWalk.i64_in (↑s.size - 1) (by omega)
  have hh := bl_head (s := s) (by omega)
  have hl := bl_last (s := s) (by omega)
  by_cases h1 : bt s 0 = 91
  case neg =>
    have f1 : (bt s 0 != 91) = true := by simpa using h1
    ((conv => whnf); repeat ((first | refine Br.t ?_ | refine Br.f ?_ | refine ob ?_ | refine ⟨_, rfl, ?_⟩ | refine ⟨_, _, rfl, ?_⟩ | refine ⟨_, _, _, rfl, ?_⟩ | refine ⟨_, _, _, _, rfl, ?_⟩ | simp only [f0, f1]); (conv => whnf)))
    exact retB hk (by simp [litL, hh, h1])
  have f1 : (bt s 0 != 91) = false := by simpa using h1
  by_cases h2 : bt s ((s.size : Int) - 1) = 93
  case neg =>
    have f2 : (bt s ((s.size : Int) - 1) != 93) = true := by simpa using h2
    ((conv => whnf); repeat ((first | refine Br.t ?_ | refine Br.f ?_ | refine ob ?_ | refine ⟨_, rfl, ?_⟩ | refine ⟨_, _, rfl, ?_⟩ | refine ⟨_, _, _, rfl, ?_⟩ | refine ⟨_, _, _, _, rfl, ?_⟩ | simp only [f0, f1, w0, f2]); (conv => whnf)))
    exact retB hk (by simp [litL, hl, h2])
  have f2 : (bt s ((s.size : Int) - 1) != 93) = false := by simpa using h2
  ((conv => whnf); repeat ((first | refine Br.t ?_ | refine Br.f ?_ | refine ob ?_ | refine ⟨_, rfl, ?_⟩ | refine ⟨_, _, rfl, ?_⟩ | refine ⟨_, _, _, rfl, ?_⟩ | refine ⟨_, _, _, _, rfl, ?_⟩ | simp only [f0, f1, w0, f2]); (conv => whnf)))
  have hmid : bl (s.extract 1 (s.size - 1)) = ((bl s).drop 1).dropLast := bl_mid s
  have e1 : ((s.size : Int) - 1).toNat = s.size - 1 := by omega
  refine ⟨?_, fun zs mv hzs => ?_⟩
  · show (s.extract 1 (((s.size : Int) - 1).toNat)).size ≤ big
    rw [← bl_length, e1, hmid]; simp [bl_length, big]; omega
  change zs.map bl = spl 46 (bl (s.extract 1 (((s.size : Int) - 1).toNat))) [] at hzs
  rw [e1, hmid] at hzs
  ((conv => whnf); repeat ((first | refine Br.t ?_ | refine Br.f ?_ | refine ob ?_ | refine ⟨_, rfl, ?_⟩ | refine ⟨_, _, rfl, ?_⟩ | refine ⟨_, _, _, rfl, ?_⟩ | refine ⟨_, _, _, _, rfl, ?_⟩); (conv => whnf)))
  have hz1 : zs.length ≤ s.size + 1 := by
    have := (spl_size 46 ((bl s).drop 1).dropLast []).1
    rw [← hzs, List.length_map] at this
    simp [bl_length] at this; omega
  have hlit : litL (bl s) = ((zs.map bl).all byteL && decide (zs.length = 4)) := by
    unfold litL quadL
    rw [← hzs, hh, h1, hl, h2, bl_length, List.length_map]
    have : decide (2 ≤ s.size) = true := by simp; omega
    rw [this]; rfl
  refine iter_of (I := fun k σ => ∃ (j : Nat), k = zs.length - j ∧ j ≤ zs.length ∧ ((zs.take j).map bl).all byteL = true ∧ σ = ⟨slots 52 [(3, .one (.own 0)), (4, .one (.int .i64 j))], [.own 9 .str zs true mv]⟩) ?_ zs.length ⟨0, by omega, by omega, by simp, rfl⟩
  rintro k σ K' ⟨j, rfl, hj, hall, rfl⟩ hK'
  ((conv => whnf); repeat ((first | refine Br.t ?_ | refine Br.f ?_ | refine ob ?_ | refine ⟨_, rfl, ?_⟩ | refine ⟨_, _, rfl, ?_⟩ | refine ⟨_, _, _, rfl, ?_⟩ | refine ⟨_, _, _, _, rfl, ?_⟩); (conv => whnf)))
  refine Br.mk (fun g1 => ?_) (fun g1 => ?_)
  · have h3 : j < zs.length := by simpa using g1
    obtain ⟨w, hw⟩ : ∃ w, zs[j]? = some w := ⟨_, List.getElem?_eq_getElem h3⟩
    have hr : rdx zs (↑j : Int).toNat Ty.str.dflt = w := by
      show zs.getD j _ = w
      simp [List.getD, hw]
    have w1 := IntWalk.i64_in (↑j + 1) (by omega)
    have bad : byteL (bl w) = false → litL (bl s) = false := fun h => by
      rw [hlit, Bool.and_eq_false_iff]
      left
      rw [Bool.eq_false_iff]
      intro h'
      have := List.all_eq_true.1 h' (bl w) (List.mem_map_of_mem (List.mem_of_getElem? hw))
      rw [h] at this; cases this
    have good : byteL (bl w) = true → ((zs.take (j + 1)).map bl).all byteL = true := fun h => by
      rw [List.take_add_one, hw, List.map_append, List.all_append, hall]
      simp [h]
    cases hv : val (bl w) with
    | none =>
      ((conv => whnf); repeat ((first | refine Br.t ?_ | refine Br.f ?_ | refine ob ?_ | refine ⟨_, rfl, ?_⟩ | refine ⟨_, _, rfl, ?_⟩ | refine ⟨_, _, _, rfl, ?_⟩ | refine ⟨_, _, _, _, rfl, ?_⟩ | simp only [hr, hv]); (conv => whnf)))
      exact retB hk (bad (by simp [byteL, hv])).symm
    | some n =>
      by_cases h5 : n ≤ 255
      · have f5 : decide (n > 255) = false := by simp; omega
        ((conv => whnf); repeat ((first | refine Br.t ?_ | refine Br.f ?_ | refine ob ?_ | refine ⟨_, rfl, ?_⟩ | refine ⟨_, _, rfl, ?_⟩ | refine ⟨_, _, _, rfl, ?_⟩ | refine ⟨_, _, _, _, rfl, ?_⟩ | simp only [hr, hv, f5, w1]); (conv => whnf)))
        exact hK' _ _ (by omega) ⟨j + 1, rfl, by omega, good (by simp [byteL, hv, h5]), rfl⟩
      · have f5 : decide (n > 255) = true := by simp; omega
        ((conv => whnf); repeat ((first | refine Br.t ?_ | refine Br.f ?_ | refine ob ?_ | refine ⟨_, rfl, ?_⟩ | refine ⟨_, _, rfl, ?_⟩ | refine ⟨_, _, _, rfl, ?_⟩ | refine ⟨_, _, _, _, rfl, ?_⟩ | simp only [hr, hv, f5]); (conv => whnf)))
        exact retB hk (bad (by simp [byteL, hv, h5])).symm
  · have h3 : j = zs.length := by simp at g1; omega
    subst h3
    rw [List.take_length] at hall
    ((conv => whnf); repeat ((first | refine Br.t ?_ | refine Br.f ?_ | refine ob ?_ | refine ⟨_, rfl, ?_⟩ | refine ⟨_, _, rfl, ?_⟩ | refine ⟨_, _, _, rfl, ?_⟩ | refine ⟨_, _, _, _, rfl, ?_⟩); (conv => whnf)))
    exact retB hk (by rw [hlit, hall, Bool.true_and, Bool.eq_iff_iff]; simp; omega)
end Go.Proofs.YtbhejifllgnliaaGreatDoor.Ab
namespace Go.Proofs.YtbhejifllgnliaaGreatDoor.Ab
open Go Go.RowKit Go.Proofs.YtbhejifllgnliaaGreatDoorW.PrintWords
set_option linter.unusedSimpArgs false
set_option linter.unusedVariables false
set_option maxRecDepth 100000
/-- What the package variables hold. -/
structure Gr (w : World) : Prop where
  mlen : ∃ m, w.cell? ⟨0, 0, none⟩ = some (.int .i64 m)
  esyn : ∃ er, w.cell? ⟨1, 0, none⟩ = some er ∧ (er = .nilIface ∨ ∃ te pe, er = .iface te pe)
  erng : ∃ er, w.cell? ⟨2, 0, none⟩ = some er ∧ (er = .nilIface ∨ ∃ te pe, er = .iface te pe)
  ptab : Lib.TabIs Go.Proofs.Tryz.prog w "internal/strconv.uint64pow10" .u64 Lib.pow10Tab
/-- A library's function over plain data: what it hands back may lie in new memory, which it does not tell of. -/
theorem SenseOK.lib2 {G : World → Prop} {f : FuncId} {s : List V → (Out → Prop) → Prop}
    (h : ∀ xs (K : Out → Prop), s xs K → ∃ vs0 : List Value, (∀ w I lk vs, All2 (VRep w I lk) xs vs → vs = vs0) ∧ ∃ out, K out ∧ ∀ w, G w → Calls Go.Proofs.Tryz.prog f vs0.toArray w fun e w' => (∀ I lk, OutRep w' I lk out e) ∧ Below w.heap.size w w') : SenseOK G Go.Proofs.Tryz.prog f (pureS s) := by
  intro X w lk os ags vs K hO hl0 hX hXG hgr has hs
  obtain ⟨rfl, hs⟩ := hs
  obtain ⟨vs0, hv, out, hk, hc⟩ := h _ _ hs
  obtain rfl := hv _ _ _ _ has
  have hl : lk = [] := List.length_eq_zero_iff.1 (by rw [hO.lsz]; rfl)
  subst hl
  refine (hc w (hXG ▸ hgr w (fun _ _ => rfl))).mono ?_
  rintro e w' ⟨ho, hb⟩
  refine ⟨[], [], out, hk, ⟨rfl, fun i o v h => by simp at h, fun i j v v' b _ h => by simp at h, fun i v b h => by simp at h, fun i v b h => by simp at h, by rw [hl0]; exact Nat.le_refl _, fun p v0 o h => by rw [hl0] at h; simp at h⟩, ?_, (fun v hv => by simp at hv), ho _ _⟩
  exact ⟨hb.os, hb.tape, hb.output, hb.size, fun k hk _ => hb.block k hk⟩
/-- .. or a new slice, of its own. -/
theorem SenseOK.libNew {G : World → Prop} {f : FuncId} {s : List V → (List Ob → Out → Prop) → Prop}
    (h : ∀ xs (K : List Ob → Out → Prop), s xs K → ∃ vs0 : List Value, (∀ w I lk vs, All2 (VRep w I lk) xs vs → vs = vs0) ∧ ∃ (e : TypeId) (t : Ty) (zs : List t.den), K [.own e t zs true false] (.ret (.one (.own 0))) ∧
      ∀ w, G w → ∃ cells, (∀ w I, Reps (TRep w I t) t.sz zs cells) ∧ zs.length ≤ maxLen ∧ Calls Go.Proofs.Tryz.prog f vs0.toArray w fun en w' => en = .returned (.slice (some ⟨w.heap.size, 0, none⟩) zs.length zs.length) ∧ w' = w.alloc (.cells cells.toArray e)) : SenseOK G Go.Proofs.Tryz.prog f (newS s) := by
  intro X w lk os ags vs K hO hl0 hX hXG hgr has hs
  obtain ⟨rfl, hs⟩ := hs
  obtain ⟨vs0, hv, e, t, zs, hk, hc⟩ := h _ _ hs
  obtain rfl := hv _ _ _ _ has
  have hl : lk = [] := List.length_eq_zero_iff.1 (by rw [hO.lsz]; rfl)
  subst hl
  obtain ⟨cells, hreps, hmx, hc⟩ := hc w (hXG ▸ hgr w (fun _ _ => rfl))
  refine hc.mono ?_
  rintro en w' ⟨rfl, rfl⟩
  have hsz : cells.length = zs.length * t.sz := (hreps w (fun _ => True)).1
  refine ⟨_, [.slice (some ⟨w.heap.size, 0, none⟩) zs.length zs.length], _, hk, ⟨rfl, ?_, ?_, ?_, ?_, by rw [hl0]; simp, fun p v0 o h => by rw [hl0] at h; simp at h⟩, ?_, ?_, ⟨_, rfl, ⟨rfl, _, _, _, rfl⟩⟩⟩
  · intro i o v hi hv
    cases i with
    | zero =>
      simp at hi hv
      subst hi hv
      refine ⟨cells, hreps _ _, .inr ⟨w.heap.size, zs.length, cells.toArray, (0, 0), rfl, alloc_new w _, Nat.le_refl _, hmx, by simp [hsz], ?_, fun _ => rfl, by simp⟩⟩
      rw [← hsz]; exact List.take_length
    | succ i => simp at hi
  · intro i j v v' b hij hi hj
    cases i with
    | zero => cases j with
      | zero => exact absurd rfl hij
      | succ j => simp at hj
    | succ i => simp at hi
  · intro i v b hi hb
    cases i with
    | zero =>
      simp at hi
      subst hi
      simp [blk] at hb
      subst hb
      simp
    | succ i => simp at hi
  · intro i v b hi hb hx
    cases i with
    | zero =>
      simp at hi
      subst hi
      simp [blk] at hb
      subst hb
      have := hX _ hx
      omega
    | succ i => simp at hi
  · have hb := (Below.refl w.heap.size w).alloc (Nat.le_refl _) (.cells cells.toArray e)
    exact ⟨hb.os, hb.tape, hb.output, hb.size, fun k hk _ => hb.block k hk⟩
  · intro v hv b hb
    simp at hv
    subst hv
    simp [blk] at hb
    subst hb
    exact .inr (Nat.le_refl _)
def nums (l : List UInt8) : List Int := l.map fun b => (b.toNat : Int)
def s86 : Sense := pureS fun xs K => ∃ s, xs = [.one (.str s)] ∧ s.size ≤ big ∧
  (∀ v, Lib.atoiAll s.data.toList = .ok v → K (.ret (.tup [.one (.int .i64 v), .one .nilif]))) ∧
  ((∀ v, Lib.atoiAll s.data.toList ≠ .ok v) → ∀ n, K (.ret (.tup [.one (.int .i64 n), .one .ifp])))
theorem ok86 : SenseOK Gr Go.Proofs.Tryz.prog 86 s86 := SenseOK.lib2 fun xs K h => by
  obtain ⟨s, rfl, hb, h1, h2⟩ := h
  simp only [big] at hb
  refine ⟨[.string s], fun w I lk vs hv => ?_, ?_⟩
  · obtain ⟨v1, m1, rfl, h1, h2⟩ := hv.cons_inv
    obtain rfl := h2.nil_inv
    rw [show v1 = .string s from h1]
  rcases hr : Lib.atoiAll s.data.toList with v | _ | _
  · refine ⟨_, h1 v hr, fun w hw => (Go.Proofs.Tryz.strconv_Atoi_ok s (by omega) v hr w).mono ?_⟩
    rintro e w' ⟨rfl, hw'⟩
    refine ⟨fun I lk => ⟨_, rfl, [_, _], rfl, rfl, rfl, trivial⟩, ?_⟩
    rcases hw' with rfl | ⟨t, rfl⟩
    · exact Below.refl _ _
    · exact Lib.bytesWorld_below _ _ _
  · refine ⟨_, h2 (fun v h => by rw [hr] at h; cases h) 0, fun w hw => ?_⟩
    obtain ⟨er, he1, he2⟩ := hw.esyn
    refine (Go.Proofs.Tryz.strconv_Atoi_syntax s (by omega) hr er w he1 he2).mono ?_
    rintro e w' ⟨N, rfl, _, _, hB⟩
    exact ⟨fun I lk => ⟨_, rfl, [_, _], rfl, rfl, ⟨_, _, rfl⟩, trivial⟩, hB⟩
  · refine ⟨_, h2 (fun v h => by rw [hr] at h; cases h) (Lib.atoiSat s.data.toList), fun w hw => ?_⟩
    obtain ⟨er, he1, he2⟩ := hw.erng
    refine (Go.Proofs.Tryz.strconv_Atoi_range s (by omega) hr er w he1 he2).mono ?_
    rintro e w' ⟨N, rfl, _, _, hB⟩
    exact ⟨fun I lk => ⟨_, rfl, [_, _], rfl, rfl, ⟨_, _, rfl⟩, trivial⟩, hB⟩
def s87 : Sense := pureS fun xs K => ∃ n, xs = [.one (.int .i64 n)] ∧ (-9223372036854775808 ≤ n ∧ n ≤ 9223372036854775807) ∧ ∀ r, bl r = nums (Lib.itoa n) → K (.ret (.one (.str r)))
theorem ok87 : SenseOK Gr Go.Proofs.Tryz.prog 87 s87 := SenseOK.lib2 fun xs K h => by
  obtain ⟨n, rfl, hb, h1⟩ := h
  refine ⟨[.int .i64 n], fun w I lk vs hv => ?_, _, h1 ⟨(Lib.itoa n).toArray⟩ rfl, fun w hw => (Go.Proofs.Tryz.strconv_Itoa n hb.1 hb.2 w hw.ptab).mono ?_⟩
  · obtain ⟨v1, m1, rfl, h1, h2⟩ := hv.cons_inv
    obtain rfl := h2.nil_inv
    rw [show v1 = .int .i64 n from h1]
  · rintro e w' ⟨rfl, k, os, rfl⟩
    exact ⟨fun I lk => ⟨_, rfl, rfl⟩, Lib.below_grow _ _ (Nat.le_refl _) _ _⟩
def splU (c : UInt8) : List UInt8 → List UInt8 → List (List UInt8)
  | [], cur => [cur]
  | x :: l, cur => if x = c then cur :: splU c l [] else splU c l (cur ++ [x])
theorem splU_nums (c : UInt8) : ∀ (l cur : List UInt8), (splU c l cur).map nums = spl (c.toNat : Int) (nums l) (nums cur)
  | [], cur => rfl
  | x :: l, cur => by
    have e : nums (x :: l) = (x.toNat : Int) :: nums l := rfl
    rw [e]
    simp only [splU, spl]
    by_cases h : x = c
    · subst h
      rw [if_pos rfl, if_pos rfl, List.map_cons, splU_nums]; rfl
    · have h' : ¬ ((x.toNat : Int) = (c.toNat : Int)) := fun e => h (UInt8.toNat_inj.1 (by omega))
      rw [if_neg h, if_neg h', splU_nums]
      simp [nums]
theorem splU_miss (c : UInt8) : ∀ (l cur : List UInt8), Lib.indexByte l c = -1 → splU c l cur = [cur ++ l]
  | [], cur, _ => by simp [splU]
  | x :: l, cur, h => by
    unfold Lib.indexByte at h
    by_cases hx : x = c
    · subst hx; simp at h
    · have hb : (x == c) = false := by simpa using hx
      rw [hb] at h
      have hl : Lib.indexByte l c = -1 := by
        by_cases e : Lib.indexByte l c = -1
        · exact e
        · have := Lib.indexByte_ge l c
          simp [e] at h
          omega
      simp only [splU, if_neg hx, splU_miss c l _ hl]
      simp
theorem splU_hit (c : UInt8) : ∀ (l cur : List UInt8) (i : Nat), Lib.indexByte l c = i → splU c l cur = (cur ++ l.take i) :: splU c (l.drop (i + 1)) []
  | [], cur, i, h => by simp [Lib.indexByte] at h
  | x :: l, cur, i, h => by
    unfold Lib.indexByte at h
    by_cases hx : x = c
    · subst hx
      simp at h
      obtain rfl : i = 0 := by omega
      simp [splU]
    · have hb : (x == c) = false := by simpa using hx
      rw [hb] at h
      by_cases e : Lib.indexByte l c = -1
      · simp [e] at h
      · simp [e] at h
        have := Lib.indexByte_ge l c
        obtain ⟨k, hk⟩ : ∃ k : Nat, Lib.indexByte l c = k := ⟨(Lib.indexByte l c).toNat, by omega⟩
        obtain rfl : i = k + 1 := by omega
        simp only [splU, if_neg hx]
        rw [splU_hit c l _ k hk]
        simp
theorem splitK_eq (c : UInt8) : ∀ (k : Nat) (l : List UInt8), Lib.count l [c] ≤ k → Lib.splitK [c] 0 k l = splU c l []
  | 0, l, h => by
    have hm : Lib.index l [c] = -1 := by
      by_cases e : Lib.index l [c] = -1
      · exact e
      · exfalso
        rw [Lib.count_one] at h
        have h0 : c ∉ l := List.count_eq_zero.1 (by omega)
        rw [Lib.index_one] at e
        clear h
        induction l with
        | nil => exact e rfl
        | cons x l ih =>
          simp only [List.mem_cons, not_or] at h0
          apply e
          unfold Lib.indexByte
          have hb : (x == c) = false := by simpa using fun e => h0.1 e.symm
          rw [hb]
          have := Classical.byContradiction fun hne => ih hne h0.2
          simp [this]
    rw [Lib.splitK, splU_miss c l [] (by rw [← Lib.index_one]; exact hm)]
    rfl
  | k + 1, l, h => by
    rw [Lib.splitK]
    by_cases e : Lib.index l [c] = -1
    · rw [if_pos (by simp [e]), splU_miss c l [] (by rw [← Lib.index_one]; exact e)]
      rfl
    · have := Lib.index_ge l [c]
      obtain ⟨i, hi⟩ : ∃ i : Nat, Lib.index l [c] = i := ⟨(Lib.index l [c]).toNat, by omega⟩
      have hi' : Lib.indexByte l c = i := by rw [← Lib.index_one]; exact hi
      rw [if_neg (by simp [e]), splU_hit c l [] i hi', hi]
      have hcnt : Lib.count (l.drop (i + 1)) [c] ≤ k := by
        rw [Lib.count_one] at h ⊢
        have hmem : ∀ (l : List UInt8) (i : Nat), Lib.indexByte l c = i → l.count c = (l.drop (i + 1)).count c + 1 := by
          intro l
          induction l with
          | nil => intro i h; simp [Lib.indexByte] at h
          | cons x l ih =>
            intro i h
            unfold Lib.indexByte at h
            by_cases hx : x = c
            · subst hx
              simp at h
              obtain rfl : i = 0 := by omega
              simp
            · have hb : (x == c) = false := by simpa using hx
              rw [hb] at h
              by_cases e : Lib.indexByte l c = -1
              · simp [e] at h
              · simp [e] at h
                have := Lib.indexByte_ge l c
                obtain ⟨k, hk⟩ : ∃ k : Nat, Lib.indexByte l c = k := ⟨(Lib.indexByte l c).toNat, by omega⟩
                obtain rfl : i = k + 1 := by omega
                rw [List.count_cons_of_ne (by simpa using hx), ih k hk]
                rfl
        have := hmem l i hi'
        omega
      have e1 : ((i : Int).toNat + 0) = i := by omega
      have e2 : ((i : Int).toNat + [c].length) = i + 1 := by simp
      rw [e1, e2, splitK_eq c k _ hcnt]
      rfl
theorem str_reps {w : World} {I : Nat → Prop} (zs : List ByteArray) : Reps (TRep w I .str) 1 zs (zs.map Value.string) := by
  refine ⟨by simp, fun j p hj => ?_⟩
  have h1 : (zs.map Value.string)[j]? = some (.string p) := by simp [hj]
  have hlt := (List.getElem?_eq_some_iff.1 h1).1
  show ((zs.map Value.string).drop (j * 1)).take 1 = [.string p]
  rw [Nat.mul_one, List.drop_eq_getElem_cons hlt]
  simp only [List.take_succ_cons, List.take_zero, List.cons.injEq, and_true]
  rw [List.getElem?_eq_getElem hlt] at h1
  exact Option.some.inj h1
def s85 : Sense := newS fun xs K => ∃ s c, xs = [.one (.str s), .one (.str ⟨#[c]⟩)] ∧ s.size ≤ big ∧ ∀ zs, zs.map bl = spl (c.toNat : Int) (bl s) [] → K [.own 9 .str zs true false] (.ret (.one (.own 0)))
theorem ok85 : SenseOK Gr Go.Proofs.Tryz.prog 85 s85 := SenseOK.libNew fun xs K h => by
  obtain ⟨s, c, rfl, hb, hk⟩ := h
  simp only [big] at hb
  have hall : (Lib.splitB ⟨#[c]⟩ 0 (Lib.countB s ⟨#[c]⟩) s).map (·.data.toList) = splU c s.data.toList [] := by
    rw [Lib.splitB_data]
    exact splitK_eq c _ _ (Nat.le_refl _)
  have hbl : (Lib.splitB ⟨#[c]⟩ 0 (Lib.countB s ⟨#[c]⟩) s).map bl = spl (c.toNat : Int) (bl s) [] := by
    have := congrArg (List.map nums) hall
    rw [splU_nums, List.map_map] at this
    exact this
  have hlen : (Lib.splitB ⟨#[c]⟩ 0 (Lib.countB s ⟨#[c]⟩) s).length = Lib.countB s ⟨#[c]⟩ + 1 := Lib.splitB_all ⟨#[c]⟩ (Nat.le_refl 1) 0 _ s rfl
  refine ⟨[.string s, .string ⟨#[c]⟩], fun w I lk vs hv => ?_, 9, .str, _, hk _ hbl, fun w hw => ⟨_, fun w I => str_reps _, ?_, ?_⟩⟩
  · obtain ⟨v1, m1, rfl, h1, h2⟩ := hv.cons_inv
    obtain ⟨v2, m2, rfl, h3, h4⟩ := h2.cons_inv
    obtain rfl := h4.nil_inv
    rw [show v1 = .string s from h1, show v2 = _ from h3]
  · have := (spl_size (c.toNat : Int) (bl s) []).1
    rw [← hbl, List.length_map, bl_length] at this
    simp only [maxLen]; omega
  · obtain ⟨m, hm⟩ := hw.mlen
    refine (Go.Proofs.Tryz.strings_Split s ⟨#[c]⟩ m w (by omega) hm (Nat.le_refl 1)).mono ?_
    rintro e w' ⟨rfl, rfl⟩
    exact ⟨by rw [hlen], rfl⟩
end Go.Proofs.YtbhejifllgnliaaGreatDoor.Ab
namespace Go.Proofs.YtbhejifllgnliaaGreatDoor.Ab
open Go Go.RowKit Go.Proofs.YtbhejifllgnliaaGreatDoorW.PrintWords
set_option linter.unusedSimpArgs false
set_option linter.unusedVariables false
/-- What came in as_ a value of type t is of the kind d, and of the form wf. -/
structure Opn (P : Program) (t : TypeId) (d : Ty) (wf : d.den → Prop) : Prop where
  cells : P.cellsOf t = d.sz
  op : ∀ {H : Type} {enc : TypeId × Value → H} {w : World} {base : Nat} {spare : Nat → Bool} {fuel : Nat} {cs : List Value} {D : DataW H} {ps : List MemPlace},
    DataW.trod enc P w base spare true fuel t cs = some (D, ps) → (∀ n ∈ D.weights P t, n ≤ reachBytes) → ∃ x, TRep w (· < w.heap.size) d x cs ∧ wf x
theorem Opn.imp {P : Program} {t : TypeId} {d : Ty} {wf wf' : d.den → Prop} (h : Opn P t d wf) (hi : ∀ x, wf x → wf' x) : Opn P t d wf' :=
  ⟨h.cells, fun ht hw => let ⟨x, hk, hx⟩ := h.op ht hw; ⟨x, hk, hi x hx⟩⟩
theorem Opn.int {P : Program} {t : TypeId} {k : IntKind} (hc : P.cellsOf t = 1) (hu : P.underlying t = some (.int k)) : Opn P t (.int k) (fun x => (Lit.int k x).wf = true) :=
  ⟨hc, fun ht _ => by
    obtain ⟨n, rfl, _, hw⟩ := DataW.trod_int hu ht
    exact ⟨n, rfl, hw⟩⟩
theorem Opn.bool {P : Program} {t : TypeId} (hc : P.cellsOf t = 1) (hu : P.underlying t = some .bool) : Opn P t .bool (fun _ => True) :=
  ⟨hc, fun ht _ => by
    obtain ⟨b, rfl, _⟩ := DataW.trod_bool hu ht
    exact ⟨b, rfl, trivial⟩⟩
theorem Opn.string {P : Program} {t : TypeId} (hc : P.cellsOf t = 1) (hu : P.underlying t = some .string) : Opn P t .str (fun x => x.size ≤ 140737488351232) :=
  ⟨hc, fun ht hw => by
    obtain ⟨s, rfl, hx, _⟩ := DataW.trod_string hu ht
    obtain ⟨rfl, rfl⟩ := Prod.mk.inj hx
    have := hw s.data.toList.length (by simp [DataW.weights])
    refine ⟨s, rfl, ?_⟩
    rw [Array.length_toList] at this
    exact this⟩
theorem all_lt {α : Type} {Q : Nat → α → Prop} : ∀ n : Nat, (∀ i, i < n → ∃ x, Q i x) → ∃ xs : List α, xs.length = n ∧ ∀ i x, xs[i]? = some x → Q i x
  | 0, _ => ⟨[], rfl, fun i x h => by simp at h⟩
  | n + 1, h => by
    obtain ⟨xs, hl, hx⟩ := all_lt n (fun i hi => h i (by omega))
    obtain ⟨y, hy⟩ := h n (by omega)
    refine ⟨xs ++ [y], by simp [hl], fun i x hi => ?_⟩
    by_cases hlt : i < xs.length
    · rw [List.getElem?_append_left hlt] at hi
      exact hx i x hi
    · rw [List.getElem?_append_right (by omega)] at hi
      have hi0 : i - xs.length = 0 := by
        have := (List.getElem?_eq_some_iff.1 hi).1
        simp at this
        omega
      rw [hi0] at hi
      have he : i = n := by omega
      subst he
      simp at hi
      subst hi
      exact hy
theorem Opn.slice {P : Program} {t e : TypeId} {d : Ty} {wf : d.den → Prop} (hc : P.cellsOf t = 1) (hu : P.underlying t = some (.slice e)) (he : Opn P e d wf) :
    Opn P t (.slice e d) (fun xs => xs.length * P.bytesOf e ≤ 140737488351232 ∧ ∀ x ∈ xs, wf x) :=
  ⟨hc, by
    intro H enc w base spare fuel cs D ps ht hw
    rcases Go.Deep.open_slice hu ht with ⟨rfl, hx⟩ | ⟨a, len, cap, m, n, Dd, Pl, rfl, _, hl, hm, hmm, hx, hi⟩
    · exact ⟨[], ⟨none, 0, rfl, Nat.le_refl _, by simp, fun h => absurd h (by simp)⟩, by simp, fun x h => by simp at h⟩
    · obtain ⟨rfl, rfl⟩ := Prod.mk.inj hx
      have hlm : len ≤ m := by rw [hmm]; split <;> omega
      have hwt : ∀ i, i < len → ∀ k ∈ (Dd i).weights P e, k ≤ reachBytes := by
        intro i hil k hk
        refine hw k ?_
        simp only [DataW.weights, hu]
        refine List.mem_cons_of_mem _ (List.mem_append_left _ ?_)
        have : ∀ (l : List (DataW H)) (z : DataW H), z ∈ l → ∀ k ∈ z.weights P e, k ∈ DataW.weightsAll P e l := by
          intro l z hz
          induction l with
          | nil => simp at hz
          | cons y l ih =>
            intro k hk
            simp only [DataW.weightsAll, List.mem_append]
            rcases List.mem_cons.1 hz with rfl | hz
            · exact Or.inl hk
            · exact Or.inr (ih hz k hk)
        exact this _ (Dd i) (List.mem_map.2 ⟨i, List.mem_range.2 hil, rfl⟩) k hk
      obtain ⟨xs, hxl, hxs⟩ := all_lt (Q := fun i x => (∃ c, c.length = d.sz ∧ TRep w (· < w.heap.size) d x c ∧ ∀ j u, c[j]? = some u → w.cell? (a.add (i * d.sz + j)) = some u) ∧ wf x) len (by
        intro i hil
        obtain ⟨cs', h1, h2⟩ := hi i (by omega)
        obtain ⟨x, hk, hx⟩ := he.op h2 (hwt i hil)
        obtain ⟨_, hlen, hcell⟩ := World.cells?_some h1
        refine ⟨x, ⟨cs', by rw [hlen, he.cells], hk, fun j u hj => ?_⟩, hx⟩
        have hjl : j < P.cellsOf e := by rw [← hlen]; exact (List.getElem?_eq_some_iff.1 hj).1
        have := hcell j hjl
        rw [hj] at this
        rw [← this, ← he.cells]
        rw [Go.Addr.add_add])
      subst hxl
      refine ⟨xs, ⟨some a, cap, rfl, hl, ?_, fun hp => ⟨a, rfl, ?_, fun j x hj => (hxs j x hj).1⟩⟩, ?_, fun x hx => ?_⟩
      · simp only [maxLen] at hm; omega
      · obtain ⟨⟨c, hcl, hT, hc⟩, _⟩ := hxs 0 xs[0] (List.getElem?_eq_getElem hp)
        have := Ty.sz_pos d
        have h0 := hc 0 c[0] (List.getElem?_eq_getElem (by omega))
        have := World.block_lt_of_cell? w _ h0
        rwa [add_block'] at this
      · have := hw ((((List.range xs.length).map Dd).length + ((List.range (m - xs.length)).map fun j => Dd (xs.length + j)).length) * P.bytesOf e) (by simp [DataW.weights, hu])
        simp only [List.length_map, List.length_range] at this
        refine Nat.le_trans (Nat.mul_le_mul_right _ ?_) this
        omega
      · obtain ⟨i, hil, rfl⟩ := List.mem_iff_getElem.1 hx
        exact (hxs i _ (List.getElem?_eq_getElem hil)).2⟩
/-- The same of fields that lie one behind the other from off on. -/
structure OpnFs (P : Program) (fs : List Field) (off : Nat) (d : Ty) (wf : d.den → Prop) : Prop where
  op : ∀ {H : Type} {enc : TypeId × Value → H} {w : World} {base : Nat} {spare : Nat → Bool} {n : Nat} {cs : List Value} (ys : List (DataW H × List MemPlace)),
    (∀ (i : Nat) (f : Field), fs[i]? = some f → DataW.trod enc P w base spare true n f.type ((cs.drop f.offset).take (P.cellsOf f.type)) = ys[i]?) → ys.length = fs.length →
    (∀ k ∈ DataW.weightsEach P (fs.map (·.type)) (ys.map (·.1)), k ≤ reachBytes) → ∃ x, TRep w (· < w.heap.size) d x ((cs.drop off).take d.sz) ∧ wf x
theorem OpnFs.one {P : Program} {f : Field} {off : Nat} {d : Ty} {wf : d.den → Prop} (h : Opn P f.type d wf) (ho : f.offset = off) : OpnFs P [f] off d wf :=
  ⟨by
    intro H enc w base spare n cs ys hy hl hw
    match ys, hl with
    | [y], _ =>
      have h0 := hy 0 f rfl
      simp only [List.getElem?_cons_zero] at h0
      obtain ⟨x, hk, hx⟩ := h.op (D := y.1) (ps := y.2) h0 (fun k hk => hw k (by simp [DataW.weightsEach, hk]))
      rw [h.cells, ho] at hk
      exact ⟨x, hk, hx⟩⟩
theorem OpnFs.cons {P : Program} {f : Field} {fs : List Field} {off : Nat} {a b : Ty} {wa : a.den → Prop} {wb : b.den → Prop} (h : Opn P f.type a wa) (ho : f.offset = off) (hr : OpnFs P fs (off + a.sz) b wb) :
    OpnFs P (f :: fs) off (.pair a b) (fun x => wa x.1 ∧ wb x.2) :=
  ⟨by
    intro H enc w base spare n cs ys hy hl hw
    match ys, hl with
    | y :: ys, hl =>
      have h0 := hy 0 f rfl
      simp only [List.getElem?_cons_zero] at h0
      obtain ⟨x, hk, hx⟩ := h.op (D := y.1) (ps := y.2) h0 (fun k hk => hw k (by simp [DataW.weightsEach, hk]))
      obtain ⟨z, hkz, hz⟩ := hr.op ys (fun i g hg => by simpa using hy (i + 1) g (by simpa using hg)) (by simpa using hl) (fun k hk => hw k (by simp only [List.map_cons, DataW.weightsEach, List.mem_append]; exact Or.inr hk))
      rw [h.cells, ho] at hk
      refine ⟨(x, z), ⟨_, _, ?_, hk, hkz⟩, hx, hz⟩
      show (cs.drop off).take (a.sz + b.sz) = _
      rw [List.take_add, List.drop_drop]⟩
theorem Opn.struct {P : Program} {t : TypeId} {fs : Array Field} {d : Ty} {wf : d.den → Prop} (hc : P.cellsOf t = d.sz) (hu : P.underlying t = some (.struct fs)) (hf : OpnFs P fs.toList 0 d wf) : Opn P t d wf :=
  ⟨hc, by
    intro H enc w base spare fuel cs D ps ht hw
    obtain ⟨xs, n, _, hx, hl, hlen, hy⟩ := DataW.trod_struct hu ht
    obtain ⟨rfl, rfl⟩ := Prod.mk.inj hx
    obtain ⟨x, hk, hx⟩ := hf.op xs (fun i f hi => hy i f (by simpa using hi)) (by simpa using hlen) (fun k hk => hw k (by simp only [DataW.weights, hu]; exact hk))
    rw [List.drop_zero, ← hc, ← hl, List.take_length] at hk
    exact ⟨x, hk, hx⟩⟩
/-- At the top all that is there may be read by all, and is written by none. -/
def topCx (w : World) (G : World → Prop) : Cx := { hid := (· < w.heap.size), l0 := [], gr := G, df := [], pub := (· < w.heap.size), ph := fun _ h => h }
/-- What a sense says at the top: of arguments that nobody else writes. -/
theorem SenseOK.top {G : World → Prop} {P : Program} {f : FuncId} {s : Sense} (hs : SenseOK G P f s) {w : World} {ags : List V} {vs : List Value} {K : Out → Prop} (hG : Gnd (topCx w G) w)
    (has : All2 (VRep w (· < w.heap.size) []) ags vs) (h : s.f [] ags fun os o => os = [] ∧ K o) :
    Calls P f vs.toArray w fun e w' => Below w.heap.size w w' ∧ ∃ out, K out ∧ OutRep w' (Imm (topCx w G) w' []) [] out e := by
  have e : (fun b => b < w.heap.size) = Imm (topCx w G) w [] := by
    funext b
    refine propext ⟨fun h => ⟨h, fun v hv => by simp at hv, fun h => h⟩, fun h => h.1⟩
  rw [e] at has
  refine (hs (topCx w G) w [] [] ags vs _ ⟨rfl, fun i o v h => by simp at h, fun i j v v' b _ h => by simp at h, fun i v b h => by simp at h, fun i v b h => by simp at h, Nat.le_refl _, fun p v0 o h => by simp [topCx] at h⟩ rfl (fun b hb => hb) rfl hG has h).mono ?_
  rintro e w' ⟨os', lk', out, ⟨rfl, hk⟩, hO, hkp, _, ho⟩
  have hl : lk' = [] := List.length_eq_zero_iff.1 (by rw [hO.lsz]; rfl)
  subst hl
  exact ⟨⟨hkp.os, hkp.tape, hkp.output, hkp.size, fun k hk => hkp.block k hk (by simp)⟩, out, hk, ho⟩
end Go.Proofs.YtbhejifllgnliaaGreatDoor.Ab
namespace Go.Proofs.YtbhejifllgnliaaGreatDoor.Ab
open Go Go.RowKit Go.Proofs.YtbhejifllgnliaaGreatDoorW.PrintWords
set_option linter.unusedSimpArgs false
set_option linter.unusedVariables false
set_option maxRecDepth 100000
abbrev laidL : List (String × DataW Unit) := Rows.mailAnyRow.laid
theorem gPow : Tryz.prog.globalNamed "internal/strconv.uint64pow10" = some 5 := by kernel_rfl
theorem gER : Tryz.prog.globalNamed "strconv.ErrRange" = some 2 := by kernel_rfl
theorem gES : Tryz.prog.globalNamed "strconv.ErrSyntax" = some 1 := by kernel_rfl
theorem star : "*" ++ "errors.errorString" = "*errors.errorString" := by decide
theorem rowES (u : TypeId) (h : Tryz.prog.typeName? 3 u = some "*errors.errorString") : u = 184 :=
  typeName_ptr_named (nm := "errors.errorString") (by rw [star]; kernel_rfl) (by kernel_rfl) (by decide) u (by rw [star]; exact h)
theorem Gr.of_laid {W : World} (hs : W.ShapedOpen Tryz.prog) (h0 : laidMetH Tryz.prog laidL W) : Gr W := by
  rw [MakeChecks.laidMetH_plain _ _ _ (by kernel_rfl)] at h0
  obtain ⟨a1, s1, hv1, -, -, -⟩ := laid_sentinel (n := "strconv.ErrRange") h0.tail.tail.tail.tail gER (ti := 106) (by kernel_rfl) Tryz.underlying106 rowES Tryz.underlying184 Tryz.underlying186 rfl rfl Tryz.underlying9 (by kernel_rfl) (by kernel_rfl)
  obtain ⟨a2, s2, hv2, -, -, -⟩ := laid_sentinel (n := "strconv.ErrSyntax") h0.tail.tail.tail.tail.tail gES (ti := 106) (by kernel_rfl) Tryz.underlying106 rowES Tryz.underlying184 Tryz.underlying186 rfl rfl Tryz.underlying9 (by kernel_rfl) (by kernel_rfl)
  obtain ⟨m, hm⟩ := cell_of_shapedOpen_int (P := Tryz.prog) (g := 0) (t := 3) (zero := #[.int .i64 0]) hs (of_decide_eq_true (by kernel_rfl)) (by kernel_rfl) rfl (by kernel_rfl) (by kernel_rfl) Tryz.underlying3
  refine ⟨⟨m, hm⟩, ⟨_, by have h0 := World.var?_cell gES hv2 0; simpa using h0, .inr ⟨_, _, rfl⟩⟩, ⟨_, by have h0 := World.var?_cell gER hv1 0; simpa using h0, .inr ⟨_, _, rfl⟩⟩, ?_⟩
  exact Lib.tabIs_of_head (e := 161) (n := 20) gPow (t := 187) (by kernel_rfl) Tryz.underlying187 Tryz.underlying161 (by kernel_rfl) (by kernel_rfl) h0.tail.tail
theorem Gr.heap {w w' : World} (h : Gr w) (hb : ∀ b, b < w.heap.size → w'.heap[b]? = w.heap[b]?) : Gr w' := by
  have hc : ∀ (a : Addr) (v : Value), w.cell? a = some v → w'.cell? a = some v := fun a v h => by
    have := World.block_lt_of_cell? w a h
    rw [← h]
    simp [World.cell?, hb _ this]
  obtain ⟨m, hm⟩ := h.mlen
  obtain ⟨e1, h1, h2⟩ := h.esyn
  obtain ⟨e2, h3, h4⟩ := h.erng
  refine ⟨⟨m, hc _ _ hm⟩, ⟨e1, hc _ _ h1, h2⟩, ⟨e2, hc _ _ h3, h4⟩, ?_⟩
  have h5 := h.ptab
  unfold Lib.TabIs World.var? at h5 ⊢
  rw [gPow] at h5 ⊢
  simp only [Option.bind_some] at h5 ⊢
  have hlt : 5 < w.heap.size := by
    rcases Nat.lt_or_ge 5 w.heap.size with h | h
    · exact h
    · rw [Array.getElem?_eq_none h] at h5; cases h5
  rw [hb 5 hlt]
  exact h5
theorem Gr.gnd {w : World} (h : Gr w) : Gnd (topCx w Gr) w := fun _ hb => h.heap hb
end Go.Proofs.YtbhejifllgnliaaGreatDoor.Ab
namespace Go.Proofs.YtbhejifllgnliaaGreatDoor.Ab
open Go Go.RowKit Go.Proofs.YtbhejifllgnliaaGreatDoorW.PrintWords
set_option linter.unusedSimpArgs false
set_option linter.unusedVariables false
set_option maxRecDepth 100000
variable {G : World → Prop}
/-- A recipient, as the machine has it. -/
abbrev RT : Ty := .pair (.pair .str .str) (.pair (.int .i64) (.pair (.int .i64) (.pair (.int .i64) (.int .i64))))
def rcOf (r : RT.den) : Rc := ⟨bl r.1.1, bl r.1.2, r.2.1, r.2.2.1, r.2.2.2.1, r.2.2.2.2⟩
/-- A slice that comes in: read alone, nil, or the caller's own; k: how many objects lie ahead of it. -/
def SlIn (e : TypeId) (t : Ty) (k : Nat) (l : List t.den) (c : C) (os : List Ob) : Prop :=
  (c = .sl t l ∧ os = []) ∨ (c = .nil ∧ os = [] ∧ l = []) ∨ ∃ ap, c = .own k ∧ os = [.own e t l ap false]
abbrev RcIn := SlIn 45 RT
abbrev BsIn := SlIn 5 (.int .u8)
theorem nth_of {α : Type} {l : List α} {j : Nat} {x : α} (h : l[j]? = some x) (d : α) : rdx l ((j : Int).toNat) d = x := by
  show l.getD j d = x
  simp [List.getD, h]
theorem tol_eq (a b : ByteArray) : (a.toList == b.toList) = true ↔ bl a = bl b := by rw [str_beq]; simp
def eqB (r r' : RT.den) : Bool := (r.1.1.toList == r'.1.1.toList && (r.1.2.toList == r'.1.2.toList && true)) && (r.2.1 == r'.2.1 && (r.2.2.1 == r'.2.2.1 && (r.2.2.2.1 == r'.2.2.2.1 && (r.2.2.2.2 == r'.2.2.2.2 && true))))
theorem eqB_eq (r r' : RT.den) : eqB r r' = decide (rcOf r = rcOf r') := by
  rw [Bool.eq_iff_iff]
  simp only [eqB, str_beq, Bool.and_eq_true, beq_iff_eq, decide_eq_true_eq, rcOf, Rc.mk.injEq, and_true]
  constructor
  · rintro ⟨⟨h1, h2⟩, h3, h4, h5, h6⟩; exact ⟨h1, h2, h3, h4, h5, h6⟩
  · rintro ⟨h1, h2, h3, h4, h5, h6⟩; exact ⟨⟨h1, h2⟩, h3, h4, h5, h6⟩
theorem eq_step {α β : Type} {f : α → β} {a b : List α} {j : Nat} {x y : α} (hx : a[j]? = some x) (hy : b[j]? = some y) (h : (a.take j).map f = (b.take j).map f) (hf : f x = f y) : (a.take (j + 1)).map f = (b.take (j + 1)).map f := by
  rw [List.take_add_one, List.take_add_one, hx, hy, List.map_append, List.map_append, h]
  simp [hf]
theorem ne_step {α β : Type} {f : α → β} {a b : List α} {j : Nat} {x y : α} (hx : a[j]? = some x) (hy : b[j]? = some y) (hf : f x ≠ f y) : a.map f ≠ b.map f := fun h => by
  have h1 := congrArg (fun l => l[j]?) h
  simp [hx, hy] at h1
  exact hf h1
def s46 : Sense := ⟨false, fun os xs K => ∃ a b c d pa pb, xs = [.one c, .one d] ∧ RcIn 0 a c pa ∧ RcIn pa.length b d pb ∧ os = pa ++ pb ∧ a.length ≤ big ∧ b.length ≤ big ∧ K os (.ret (.one (.bool (decide (a.map rcOf = b.map rcOf)))))⟩
set_option maxHeartbeats 8000000 in
theorem ok46 : SenseOK G Go.Proofs.Tryz.prog 46 s46 := SenseOK.any Γ0.ok (fun _ => [0, 1, 5]) Go.Proofs.Tryz.func46 fun os xs K h => by
  obtain ⟨a, b, c, d, pa, pb, rfl, ha, hb, rfl, hab, hbb, hk⟩ := h
  simp only [big] at hab hbb
  have nl : ([] : List RT.den).length = 0 := rfl
  rcases ha with ⟨hc, hoa⟩ | ⟨hc, hoa, ha0⟩ | ⟨ap, hc, hoa⟩ <;> rcases hb with ⟨hd, hob⟩ | ⟨hd, hob, hb0⟩ | ⟨ap2, hd, hob⟩
  all_goals
    try simp only [hoa, List.length_nil, List.length_cons, Nat.zero_add] at hd
    try simp only [hoa, hob, List.nil_append, List.cons_append] at hk
    rw [hc, hd, hoa, hob]
    by_cases h0 : a.length = b.length
    case neg =>
      have hne : decide (a.map rcOf = b.map rcOf) = false := by
        simp only [decide_eq_false_iff_not]
        intro h
        have := congrArg List.length h
        rw [List.length_map, List.length_map] at this
        exact h0 this
      rw [hne] at hk
      have f0 : ((a.length : Int) != b.length) = true := by simp; omega
      first | subst ha0 | skip
      first | subst hb0 | skip
      first | exact absurd rfl h0 | skip
      all_goals
        ((conv => whnf); repeat ((first | refine Br.t ?_ | refine Br.f ?_ | refine ob ?_ | refine ⟨_, rfl, ?_⟩ | refine ⟨_, _, rfl, ?_⟩ | refine ⟨_, _, _, rfl, ?_⟩ | refine ⟨_, _, _, _, rfl, ?_⟩ | simp only [f0]); (conv => whnf)))
        exact hk
    have f0 : ((a.length : Int) != b.length) = false := by simp; omega
    by_cases hz : a.length = 0
    · obtain rfl : a = [] := List.length_eq_zero_iff.1 hz
      obtain rfl : b = [] := List.length_eq_zero_iff.1 (by rw [← h0]; rfl)
      ((conv => whnf); repeat ((first | refine Br.t ?_ | refine Br.f ?_ | refine ob ?_ | refine ⟨_, rfl, ?_⟩ | refine ⟨_, _, rfl, ?_⟩ | refine ⟨_, _, _, rfl, ?_⟩ | refine ⟨_, _, _, _, rfl, ?_⟩ | simp only [f0]); (conv => whnf)))
      refine ⟨1, ?_⟩
      ((conv => whnf); repeat ((first | refine Br.t ?_ | refine Br.f ?_ | refine ob ?_ | refine ⟨_, rfl, ?_⟩ | refine ⟨_, _, rfl, ?_⟩ | refine ⟨_, _, _, rfl, ?_⟩ | refine ⟨_, _, _, _, rfl, ?_⟩); (conv => whnf)))
      exact hk
    first | (exact absurd (by rw [ha0]; rfl) hz) | (exact absurd (by rw [h0, hb0]; rfl) hz) | skip
    all_goals
      ((conv => whnf); repeat ((first | refine Br.t ?_ | refine Br.f ?_ | refine ob ?_ | refine ⟨_, rfl, ?_⟩ | refine ⟨_, _, rfl, ?_⟩ | refine ⟨_, _, _, rfl, ?_⟩ | refine ⟨_, _, _, _, rfl, ?_⟩ | simp only [f0]); (conv => whnf)))
      refine iter_of (I := fun k σ => ∃ (j : Nat), k = a.length - j ∧ j ≤ a.length ∧ (a.take j).map rcOf = (b.take j).map rcOf ∧ σ = ⟨slots 26 [(0, .one c), (1, .one d), (5, .one (.int .i64 j))], pa ++ pb⟩) ?_ a.length ⟨0, by omega, by omega, by simp, by rw [hc, hd, hoa, hob]; rfl⟩
      rintro k σ K' ⟨j, rfl, hj, hall, rfl⟩ hK'
      rw [hc, hd, hoa, hob] at hK' ⊢
      by_cases h1 : j < a.length
      case neg =>
        have f1 : decide ((j : Int) < a.length) = false := by simp; omega
        obtain rfl : j = a.length := by omega
        rw [List.take_length, List.take_of_length_le (by omega)] at hall
        rw [hall] at hk
        simp only [decide_true] at hk
        ((conv => whnf); repeat ((first | refine Br.t ?_ | refine Br.f ?_ | refine ob ?_ | refine ⟨_, rfl, ?_⟩ | refine ⟨_, _, rfl, ?_⟩ | refine ⟨_, _, _, rfl, ?_⟩ | refine ⟨_, _, _, _, rfl, ?_⟩ | simp only [f1]); (conv => whnf)))
        exact hk
      have f1 : decide ((j : Int) < a.length) = true := by simpa using h1
      obtain ⟨x, hx⟩ : ∃ x, a[j]? = some x := ⟨_, List.getElem?_eq_getElem h1⟩
      obtain ⟨y, hy⟩ : ∃ y, b[j]? = some y := ⟨_, List.getElem?_eq_getElem (by omega)⟩
      have rx := nth_of hx RT.dflt
      have ry := nth_of hy RT.dflt
      have w1 := IntWalk.i64_in (↑j + 1) (by omega)
      ((conv => whnf); repeat ((first | refine Br.t ?_ | refine Br.f ?_ | refine ob ?_ | refine ⟨_, rfl, ?_⟩ | refine ⟨_, _, rfl, ?_⟩ | refine ⟨_, _, _, rfl, ?_⟩ | refine ⟨_, _, _, _, rfl, ?_⟩ | simp only [f1]); (conv => whnf)))
      refine ⟨[], .take 0 (.take 1 (.take 2 (.take 3 (.take 4 (.take 5 (.take 6 (.take 7 (.take 8 .done)))))))), by kernel_rfl, ?_⟩
      ((conv => whnf); repeat ((first | refine Br.t ?_ | refine Br.f ?_ | refine ob ?_ | refine ⟨_, rfl, ?_⟩ | refine ⟨_, _, rfl, ?_⟩ | refine ⟨_, _, _, rfl, ?_⟩ | refine ⟨_, _, _, _, rfl, ?_⟩); (conv => whnf)))
      rw [rx, ry]
      change Br (!eqB x y) _ _
      rw [eqB_eq]
      by_cases hxy : rcOf x = rcOf y
      · have e1 : decide (rcOf x = rcOf y) = true := by simpa using hxy
        ((conv => whnf); repeat ((first | refine Br.t ?_ | refine Br.f ?_ | refine ob ?_ | refine ⟨_, rfl, ?_⟩ | refine ⟨_, _, rfl, ?_⟩ | refine ⟨_, _, _, rfl, ?_⟩ | refine ⟨_, _, _, _, rfl, ?_⟩ | simp only [e1, w1]); (conv => whnf)))
        exact hK' _ _ (by omega) ⟨j + 1, rfl, by omega, eq_step hx hy hall hxy, rfl⟩
      · have e1 : decide (rcOf x = rcOf y) = false := by simpa using hxy
        have hne : decide (a.map rcOf = b.map rcOf) = false := by simpa using ne_step hx hy hxy
        rw [hne] at hk
        ((conv => whnf); repeat ((first | refine Br.t ?_ | refine Br.f ?_ | refine ob ?_ | refine ⟨_, rfl, ?_⟩ | refine ⟨_, _, rfl, ?_⟩ | refine ⟨_, _, _, rfl, ?_⟩ | refine ⟨_, _, _, _, rfl, ?_⟩ | simp only [e1]); (conv => whnf)))
        exact hk
def s23 : Sense := ⟨false, fun os xs K => ∃ a b c d pa pb, xs = [.one c, .one d] ∧ BsIn 0 a c pa ∧ BsIn pa.length b d pb ∧ os = pa ++ pb ∧ a.length ≤ big ∧ b.length ≤ big ∧ K os (.ret (.one (.bool (decide (a = b)))))⟩
set_option maxHeartbeats 8000000 in
theorem ok23 : SenseOK G Go.Proofs.Tryz.prog 23 s23 := SenseOK.any Γ0.ok (fun _ => [0, 1, 5]) Go.Proofs.Tryz.func23 fun os xs K h => by
  obtain ⟨a, b, c, d, pa, pb, rfl, ha, hb, rfl, hab, hbb, hk⟩ := h
  simp only [big] at hab hbb
  have nl : ([] : List Int).length = 0 := rfl
  rcases ha with ⟨hc, hoa⟩ | ⟨hc, hoa, ha0⟩ | ⟨ap, hc, hoa⟩ <;> rcases hb with ⟨hd, hob⟩ | ⟨hd, hob, hb0⟩ | ⟨ap2, hd, hob⟩
  all_goals
    try simp only [hoa, List.length_nil, List.length_cons, Nat.zero_add] at hd
    try simp only [hoa, hob, List.nil_append, List.cons_append] at hk
    rw [hc, hd, hoa, hob]
    by_cases h0 : a.length = b.length
    case neg =>
      have hne : decide (a = b) = false := by
        simp only [decide_eq_false_iff_not]
        intro h
        have := congrArg List.length h
        exact h0 this
      rw [hne] at hk
      have f0 : ((a.length : Int) != b.length) = true := by simp; omega
      first | subst ha0 | skip
      first | subst hb0 | skip
      first | exact absurd rfl h0 | skip
      all_goals
        ((conv => whnf); repeat ((first | refine Br.t ?_ | refine Br.f ?_ | refine ob ?_ | refine ⟨_, rfl, ?_⟩ | refine ⟨_, _, rfl, ?_⟩ | refine ⟨_, _, _, rfl, ?_⟩ | refine ⟨_, _, _, _, rfl, ?_⟩ | simp only [f0]); (conv => whnf)))
        exact hk
    have f0 : ((a.length : Int) != b.length) = false := by simp; omega
    by_cases hz : a.length = 0
    · obtain rfl : a = [] := List.length_eq_zero_iff.1 hz
      obtain rfl : b = [] := List.length_eq_zero_iff.1 (by rw [← h0]; rfl)
      ((conv => whnf); repeat ((first | refine Br.t ?_ | refine Br.f ?_ | refine ob ?_ | refine ⟨_, rfl, ?_⟩ | refine ⟨_, _, rfl, ?_⟩ | refine ⟨_, _, _, rfl, ?_⟩ | refine ⟨_, _, _, _, rfl, ?_⟩ | simp only [f0]); (conv => whnf)))
      refine ⟨1, ?_⟩
      ((conv => whnf); repeat ((first | refine Br.t ?_ | refine Br.f ?_ | refine ob ?_ | refine ⟨_, rfl, ?_⟩ | refine ⟨_, _, rfl, ?_⟩ | refine ⟨_, _, _, rfl, ?_⟩ | refine ⟨_, _, _, _, rfl, ?_⟩); (conv => whnf)))
      exact hk
    first | (exact absurd (by rw [ha0]; rfl) hz) | (exact absurd (by rw [h0, hb0]; rfl) hz) | skip
    all_goals
      ((conv => whnf); repeat ((first | refine Br.t ?_ | refine Br.f ?_ | refine ob ?_ | refine ⟨_, rfl, ?_⟩ | refine ⟨_, _, rfl, ?_⟩ | refine ⟨_, _, _, rfl, ?_⟩ | refine ⟨_, _, _, _, rfl, ?_⟩ | simp only [f0]); (conv => whnf)))
      refine iter_of (I := fun k σ => ∃ (j : Nat), k = a.length - j ∧ j ≤ a.length ∧ (a.take j).map id = (b.take j).map id ∧ σ = ⟨slots 26 [(0, .one c), (1, .one d), (5, .one (.int .i64 j))], pa ++ pb⟩) ?_ a.length ⟨0, by omega, by omega, by simp, by rw [hc, hd, hoa, hob]; rfl⟩
      rintro k σ K' ⟨j, rfl, hj, hall, rfl⟩ hK'
      rw [hc, hd, hoa, hob] at hK' ⊢
      by_cases h1 : j < a.length
      case neg =>
        have f1 : decide ((j : Int) < a.length) = false := by simp; omega
        obtain rfl : j = a.length := by omega
        rw [List.take_length, List.take_of_length_le (by omega), List.map_id, List.map_id] at hall
        have hd0 : decide (a = b) = true := by simpa using hall
        rw [hd0] at hk
        ((conv => whnf); repeat ((first | refine Br.t ?_ | refine Br.f ?_ | refine ob ?_ | refine ⟨_, rfl, ?_⟩ | refine ⟨_, _, rfl, ?_⟩ | refine ⟨_, _, _, rfl, ?_⟩ | refine ⟨_, _, _, _, rfl, ?_⟩ | simp only [f1]); (conv => whnf)))
        exact hk
      have f1 : decide ((j : Int) < a.length) = true := by simpa using h1
      obtain ⟨x, hx⟩ : ∃ x, a[j]? = some x := ⟨_, List.getElem?_eq_getElem h1⟩
      obtain ⟨y, hy⟩ : ∃ y, b[j]? = some y := ⟨_, List.getElem?_eq_getElem (by omega)⟩
      have rx := nth_of hx (Ty.int IntKind.u8).dflt
      have ry := nth_of hy (Ty.int IntKind.u8).dflt
      have w1 := IntWalk.i64_in (↑j + 1) (by omega)
      ((conv => whnf); repeat ((first | refine Br.t ?_ | refine Br.f ?_ | refine ob ?_ | refine ⟨_, rfl, ?_⟩ | refine ⟨_, _, rfl, ?_⟩ | refine ⟨_, _, _, rfl, ?_⟩ | refine ⟨_, _, _, _, rfl, ?_⟩ | simp only [f1]); (conv => whnf)))
      refine ⟨[], .take 0 (.take 1 (.take 2 (.take 3 (.take 4 (.take 5 (.take 6 (.take 7 (.take 8 .done)))))))), by kernel_rfl, ?_⟩
      ((conv => whnf); repeat ((first | refine Br.t ?_ | refine Br.f ?_ | refine ob ?_ | refine ⟨_, rfl, ?_⟩ | refine ⟨_, _, rfl, ?_⟩ | refine ⟨_, _, _, rfl, ?_⟩ | refine ⟨_, _, _, _, rfl, ?_⟩); (conv => whnf)))
      rw [rx, ry]
      by_cases hxy : x = y
      · have e1 : (x != y) = false := by simpa using hxy
        ((conv => whnf); repeat ((first | refine Br.t ?_ | refine Br.f ?_ | refine ob ?_ | refine ⟨_, rfl, ?_⟩ | refine ⟨_, _, rfl, ?_⟩ | refine ⟨_, _, _, rfl, ?_⟩ | refine ⟨_, _, _, _, rfl, ?_⟩ | simp only [e1, w1]); (conv => whnf)))
        exact hK' _ _ (by omega) ⟨j + 1, rfl, by omega, eq_step hx hy hall hxy, rfl⟩
      · have e1 : (x != y) = true := by simpa using hxy
        have hne : decide (a = b) = false := by simpa using ne_step (f := id) hx hy hxy
        rw [hne] at hk
        ((conv => whnf); repeat ((first | refine Br.t ?_ | refine Br.f ?_ | refine ob ?_ | refine ⟨_, rfl, ?_⟩ | refine ⟨_, _, rfl, ?_⟩ | refine ⟨_, _, _, rfl, ?_⟩ | refine ⟨_, _, _, _, rfl, ?_⟩ | simp only [e1]); (conv => whnf)))
        exact hk
def s36 : Sense := ⟨false, fun os xs K => ∃ a c, xs = [.one c] ∧ RcIn 0 a c os ∧ a.length ≤ big ∧ (a = [] → K os (.ret (.one .nil))) ∧ (a ≠ [] → ∀ mv, K (os ++ [.own 45 RT a true mv]) (.ret (.one (.own os.length))))⟩
set_option maxHeartbeats 8000000 in
theorem ok36 : SenseOK G Go.Proofs.Tryz.prog 36 s36 := SenseOK.any Γ0.ok (fun _ => [0, 3, 4]) Go.Proofs.Tryz.func36 fun os xs K h => by
  obtain ⟨a, c, rfl, ha, hab, hk0, hk1⟩ := h
  simp only [big] at hab
  rcases ha with ⟨hc, ho⟩ | ⟨hc, ho, ha0⟩ | ⟨ap, hc, ho⟩
  all_goals
    rw [hc, ho]
    rw [ho] at hk0 hk1
    try simp only [List.nil_append, List.length_nil, List.length_cons, Nat.zero_add, List.cons_append] at hk0 hk1
    by_cases hz : a = []
    · subst hz
      ((conv => whnf); repeat ((first | refine Br.t ?_ | refine Br.f ?_ | refine ob ?_ | refine ⟨_, rfl, ?_⟩ | refine ⟨_, _, rfl, ?_⟩ | refine ⟨_, _, _, rfl, ?_⟩ | refine ⟨_, _, _, _, rfl, ?_⟩); (conv => whnf)))
      refine ⟨1, ?_⟩
      ((conv => whnf); repeat ((first | refine Br.t ?_ | refine Br.f ?_ | refine ob ?_ | refine ⟨_, rfl, ?_⟩ | refine ⟨_, _, rfl, ?_⟩ | refine ⟨_, _, _, rfl, ?_⟩ | refine ⟨_, _, _, _, rfl, ?_⟩); (conv => whnf)))
      exact hk0 rfl
    first | exact absurd ha0 hz | skip
    all_goals
      ((conv => whnf); repeat ((first | refine Br.t ?_ | refine Br.f ?_ | refine ob ?_ | refine ⟨_, rfl, ?_⟩ | refine ⟨_, _, rfl, ?_⟩ | refine ⟨_, _, _, rfl, ?_⟩ | refine ⟨_, _, _, _, rfl, ?_⟩); (conv => whnf)))
      refine iter_of (I := fun k σ => ∃ (j : Nat) (mv : Bool), k = a.length - j ∧ j ≤ a.length ∧
        ((j = 0 ∧ σ = ⟨slots 19 [(0, .one c), (3, .one .nil), (4, .one (.int .i64 j))], os⟩) ∨
         (j ≠ 0 ∧ σ = ⟨slots 19 [(0, .one c), (3, .one (.own os.length)), (4, .one (.int .i64 j))], os ++ [.own 45 RT (a.take j) true mv]⟩))) ?_ a.length ⟨0, false, by omega, by omega, .inl ⟨rfl, by rw [hc, ho]; rfl⟩⟩
      rintro k σ K' ⟨j, mv, rfl, hj, hσ⟩ hK'
      rw [hc, ho] at hK' hσ
      have w1 := IntWalk.i64_in (↑j + 1) (by omega)
      by_cases h1 : j < a.length
      case neg =>
        have f1 : decide ((j : Int) < a.length) = false := by simp; omega
        obtain rfl : j = a.length := by omega
        have hne : a.length ≠ 0 := fun h => hz (List.length_eq_zero_iff.1 h)
        rcases hσ with ⟨h, _⟩ | ⟨_, rfl⟩
        · exact absurd h hne
        · rw [List.take_length]
          ((conv => whnf); repeat ((first | refine Br.t ?_ | refine Br.f ?_ | refine ob ?_ | refine ⟨_, rfl, ?_⟩ | refine ⟨_, _, rfl, ?_⟩ | refine ⟨_, _, _, rfl, ?_⟩ | refine ⟨_, _, _, _, rfl, ?_⟩ | simp only [f1]); (conv => whnf)))
          exact hk1 hz mv
      have f1 : decide ((j : Int) < a.length) = true := by simpa using h1
      obtain ⟨x, hx⟩ : ∃ x, a[j]? = some x := ⟨_, List.getElem?_eq_getElem h1⟩
      have rx := nth_of hx RT.dflt
      have ht : a.take (j + 1) = a.take j ++ [x] := by rw [List.take_add_one, hx]; rfl
      have htl : (a.take j).length = j := by rw [List.length_take]; omega
      rcases hσ with ⟨rfl, rfl⟩ | ⟨hj0, rfl⟩
      · ((conv => whnf); repeat ((first | refine Br.t ?_ | refine Br.f ?_ | refine ob ?_ | refine ⟨_, rfl, ?_⟩ | refine ⟨_, _, rfl, ?_⟩ | refine ⟨_, _, _, rfl, ?_⟩ | refine ⟨_, _, _, _, rfl, ?_⟩ | simp only [f1, rx, w1]); (conv => whnf)))
        refine hK' _ _ (by omega) ⟨1, false, rfl, by omega, .inr ⟨by omega, ?_⟩⟩
        rw [ht]
        rfl
      · ((conv => whnf); repeat ((first | refine Br.t ?_ | refine Br.f ?_ | refine ob ?_ | refine ⟨_, rfl, ?_⟩ | refine ⟨_, _, rfl, ?_⟩ | refine ⟨_, _, _, rfl, ?_⟩ | refine ⟨_, _, _, _, rfl, ?_⟩ | simp only [f1, rx, htl, w1]); (conv => whnf)))
        refine hK' _ _ (by omega) ⟨j + 1, true, rfl, by omega, .inr ⟨by omega, ?_⟩⟩
        rw [ht]
        rfl
def s21 : Sense := ⟨false, fun os xs K => ∃ a c, xs = [.one c] ∧ BsIn 0 a c os ∧ a.length ≤ big ∧ (a = [] → K os (.ret (.one .nil))) ∧ (a ≠ [] → ∀ mv, K (os ++ [.own 5 (.int .u8) a true mv]) (.ret (.one (.own os.length))))⟩
set_option maxHeartbeats 8000000 in
theorem ok21 : SenseOK G Go.Proofs.Tryz.prog 21 s21 := SenseOK.any Γ0.ok (fun _ => [0, 3, 4]) Go.Proofs.Tryz.func21 fun os xs K h => by
  obtain ⟨a, c, rfl, ha, hab, hk0, hk1⟩ := h
  simp only [big] at hab
  rcases ha with ⟨hc, ho⟩ | ⟨hc, ho, ha0⟩ | ⟨ap, hc, ho⟩
  all_goals
    rw [hc, ho]
    rw [ho] at hk0 hk1
    try simp only [List.nil_append, List.length_nil, List.length_cons, Nat.zero_add, List.cons_append] at hk0 hk1
    by_cases hz : a = []
    · subst hz
      ((conv => whnf); repeat ((first | refine Br.t ?_ | refine Br.f ?_ | refine ob ?_ | refine ⟨_, rfl, ?_⟩ | refine ⟨_, _, rfl, ?_⟩ | refine ⟨_, _, _, rfl, ?_⟩ | refine ⟨_, _, _, _, rfl, ?_⟩); (conv => whnf)))
      refine ⟨1, ?_⟩
      ((conv => whnf); repeat ((first | refine Br.t ?_ | refine Br.f ?_ | refine ob ?_ | refine ⟨_, rfl, ?_⟩ | refine ⟨_, _, rfl, ?_⟩ | refine ⟨_, _, _, rfl, ?_⟩ | refine ⟨_, _, _, _, rfl, ?_⟩); (conv => whnf)))
      exact hk0 rfl
    first | exact absurd ha0 hz | skip
    all_goals
      ((conv => whnf); repeat ((first | refine Br.t ?_ | refine Br.f ?_ | refine ob ?_ | refine ⟨_, rfl, ?_⟩ | refine ⟨_, _, rfl, ?_⟩ | refine ⟨_, _, _, rfl, ?_⟩ | refine ⟨_, _, _, _, rfl, ?_⟩); (conv => whnf)))
      refine iter_of (I := fun k σ => ∃ (j : Nat) (mv : Bool), k = a.length - j ∧ j ≤ a.length ∧
        ((j = 0 ∧ σ = ⟨slots 19 [(0, .one c), (3, .one .nil), (4, .one (.int .i64 j))], os⟩) ∨
         (j ≠ 0 ∧ σ = ⟨slots 19 [(0, .one c), (3, .one (.own os.length)), (4, .one (.int .i64 j))], os ++ [.own 5 (.int .u8) (a.take j) true mv]⟩))) ?_ a.length ⟨0, false, by omega, by omega, .inl ⟨rfl, by rw [hc, ho]; rfl⟩⟩
      rintro k σ K' ⟨j, mv, rfl, hj, hσ⟩ hK'
      rw [hc, ho] at hK' hσ
      have w1 := IntWalk.i64_in (↑j + 1) (by omega)
      by_cases h1 : j < a.length
      case neg =>
        have f1 : decide ((j : Int) < a.length) = false := by simp; omega
        obtain rfl : j = a.length := by omega
        have hne : a.length ≠ 0 := fun h => hz (List.length_eq_zero_iff.1 h)
        rcases hσ with ⟨h, _⟩ | ⟨_, rfl⟩
        · exact absurd h hne
        · rw [List.take_length]
          ((conv => whnf); repeat ((first | refine Br.t ?_ | refine Br.f ?_ | refine ob ?_ | refine ⟨_, rfl, ?_⟩ | refine ⟨_, _, rfl, ?_⟩ | refine ⟨_, _, _, rfl, ?_⟩ | refine ⟨_, _, _, _, rfl, ?_⟩ | simp only [f1]); (conv => whnf)))
          exact hk1 hz mv
      have f1 : decide ((j : Int) < a.length) = true := by simpa using h1
      obtain ⟨x, hx⟩ : ∃ x, a[j]? = some x := ⟨_, List.getElem?_eq_getElem h1⟩
      have rx := nth_of hx (Ty.int IntKind.u8).dflt
      have ht : a.take (j + 1) = a.take j ++ [x] := by rw [List.take_add_one, hx]; rfl
      have htl : (a.take j).length = j := by rw [List.length_take]; omega
      rcases hσ with ⟨rfl, rfl⟩ | ⟨hj0, rfl⟩
      · ((conv => whnf); repeat ((first | refine Br.t ?_ | refine Br.f ?_ | refine ob ?_ | refine ⟨_, rfl, ?_⟩ | refine ⟨_, _, rfl, ?_⟩ | refine ⟨_, _, _, rfl, ?_⟩ | refine ⟨_, _, _, _, rfl, ?_⟩ | simp only [f1, rx, w1]); (conv => whnf)))
        refine hK' _ _ (by omega) ⟨1, false, rfl, by omega, .inr ⟨by omega, ?_⟩⟩
        rw [ht]
        rfl
      · ((conv => whnf); repeat ((first | refine Br.t ?_ | refine Br.f ?_ | refine ob ?_ | refine ⟨_, rfl, ?_⟩ | refine ⟨_, _, rfl, ?_⟩ | refine ⟨_, _, _, rfl, ?_⟩ | refine ⟨_, _, _, _, rfl, ?_⟩ | simp only [f1, rx, htl, w1]); (conv => whnf)))
        refine hK' _ _ (by omega) ⟨j + 1, true, rfl, by omega, .inr ⟨by omega, ?_⟩⟩
        rw [ht]
        rfl
end Go.Proofs.YtbhejifllgnliaaGreatDoor.Ab
namespace Go.Proofs.YtbhejifllgnliaaGreatDoor.Ab
open Go Go.RowKit Go.Proofs.YtbhejifllgnliaaGreatDoorW.PrintWords
set_option linter.unusedSimpArgs false
set_option linter.unusedVariables false
set_option maxRecDepth 100000
variable {G : World → Prop}
/-- A message, as the machine has it; c: where its recipients lie. -/
structure Md where
  (id te : Int) (nul : Bool) (fl fd : ByteArray) (rc : List RT.den) (body : ByteArray) (born : Int) (held told : Bool)
def Md.cs (m : Md) (c : C) : List C := [.int .i64 m.id, .int .i64 m.te, .bool m.nul, .str m.fl, .str m.fd, c, .str m.body, .int .i64 m.born, .bool m.held, .bool m.told]
def Md.ml (m : Md) : Ml := ⟨m.id, m.te, m.nul, bl m.fl, bl m.fd, m.rc.map rcOf, bl m.body, m.born, m.held, m.told⟩
def Γ15 : Sems := ext 46 s46 Γ0
theorem Γ15.ok : SemsOK G Go.Proofs.Tryz.prog Γ15 := Γ0.ok.ext Go.Proofs.Tryz.func46 rfl (by decide) ok46
def s15 : Sense := ⟨false, fun os xs K => ∃ (m n : Md) (c d : C) (pa pb : List Ob), xs = [.agg (m.cs c), .agg (n.cs d)] ∧ RcIn 0 m.rc c pa ∧ RcIn pa.length n.rc d pb ∧ os = pa ++ pb ∧ m.rc.length ≤ big ∧ n.rc.length ≤ big ∧ K os (.ret (.one (.bool (decide (m.ml = n.ml)))))⟩
theorem ml_ext (m n : Md) : m.ml = n.ml ↔ m.id = n.id ∧ m.te = n.te ∧ m.nul = n.nul ∧ (bl m.fl = bl n.fl ∧ bl m.fd = bl n.fd) ∧ m.rc.map rcOf = n.rc.map rcOf ∧ bl m.body = bl n.body ∧ m.born = n.born ∧ m.held = n.held ∧ m.told = n.told := by
  simp only [Md.ml, Ml.mk.injEq, and_assoc]
set_option maxHeartbeats 40000000 in
theorem ok15 : SenseOK G Go.Proofs.Tryz.prog 15 s15 := SenseOK.any Γ15.ok (fun _ => []) Go.Proofs.Tryz.func15 fun os xs K h => by
  obtain ⟨m, n, c, d, pa, pb, rfl, ha, hb, rfl, hab, hbb, hk⟩ := h
  have hm := ml_ext m n
  have no : ¬ m.ml = n.ml → K (pa ++ pb) (.ret (.one (.bool false))) := fun h => by
    have : decide (m.ml = n.ml) = false := by simpa using h
    rw [this] at hk; exact hk
  obtain ⟨mi, mt, mn, mf, mg, mr, mb, mo, mh, ml⟩ := m
  obtain ⟨ni, nt, nn, nf, ng, nr, nb, no', nh, nl⟩ := n
  simp only at hm hab hbb ha hb
  rcases ha with ⟨hc, hoa⟩ | ⟨hc, hoa, ha0⟩ | ⟨ap, hc, hoa⟩ <;> rcases hb with ⟨hd, hob⟩ | ⟨hd, hob, hb0⟩ | ⟨ap2, hd, hob⟩
  all_goals
    try simp only [hoa, List.length_nil, List.length_cons, Nat.zero_add] at hd
    try simp only [hoa, hob, List.nil_append, List.cons_append] at hk no
    rw [hc, hd, hoa, hob]
    by_cases h1 : mi = ni
    case neg =>
      have f1 : (mi == ni) = false := by simpa using h1
      ((conv => whnf); repeat ((first | refine Br.t ?_ | refine Br.f ?_ | refine ob ?_ | refine ⟨_, rfl, ?_⟩ | refine ⟨_, _, rfl, ?_⟩ | refine ⟨_, _, _, rfl, ?_⟩ | refine ⟨_, _, _, _, rfl, ?_⟩ | simp only [f1]); (conv => whnf)))
      exact no (fun h => h1 (hm.1 h).1)
    have f1 : (mi == ni) = true := by simpa using h1
    by_cases h2 : mt = nt
    case neg =>
      have f2 : (mt == nt) = false := by simpa using h2
      ((conv => whnf); repeat ((first | refine Br.t ?_ | refine Br.f ?_ | refine ob ?_ | refine ⟨_, rfl, ?_⟩ | refine ⟨_, _, rfl, ?_⟩ | refine ⟨_, _, _, rfl, ?_⟩ | refine ⟨_, _, _, _, rfl, ?_⟩ | simp only [f1, f2]); (conv => whnf)))
      exact no (fun h => h2 (hm.1 h).2.1)
    have f2 : (mt == nt) = true := by simpa using h2
    by_cases h3 : mn = nn
    case neg =>
      have f3 : (mn == nn) = false := by simpa using h3
      ((conv => whnf); repeat ((first | refine Br.t ?_ | refine Br.f ?_ | refine ob ?_ | refine ⟨_, rfl, ?_⟩ | refine ⟨_, _, rfl, ?_⟩ | refine ⟨_, _, _, rfl, ?_⟩ | refine ⟨_, _, _, _, rfl, ?_⟩ | simp only [f1, f2, f3]); (conv => whnf)))
      exact no (fun h => h3 (hm.1 h).2.2.1)
    have f3 : (mn == nn) = true := by simpa using h3
    by_cases h4 : bl mf = bl nf ∧ bl mg = bl ng
    case neg =>
      have f4 : (mf.toList == nf.toList && (mg.toList == ng.toList && true)) = false := by (rw [str_beq, str_beq]; simpa using h4)
      ((conv => whnf); repeat ((first | refine Br.t ?_ | refine Br.f ?_ | refine ob ?_ | refine ⟨_, rfl, ?_⟩ | refine ⟨_, _, rfl, ?_⟩ | refine ⟨_, _, _, rfl, ?_⟩ | refine ⟨_, _, _, _, rfl, ?_⟩ | simp only [f1, f2, f3, f4]); (conv => whnf)))
      exact no (fun h => h4 (hm.1 h).2.2.2.1)
    have f4 : (mf.toList == nf.toList && (mg.toList == ng.toList && true)) = true := by (rw [str_beq, str_beq]; simpa using h4)
    by_cases h5 : mr.map rcOf = nr.map rcOf
    case neg =>
      have f5 : decide (mr.map rcOf = nr.map rcOf) = false := by simpa using h5
      ((conv => whnf); repeat ((first | refine Br.t ?_ | refine Br.f ?_ | refine ob ?_ | refine ⟨_, rfl, ?_⟩ | refine ⟨_, _, rfl, ?_⟩ | refine ⟨_, _, _, rfl, ?_⟩ | refine ⟨_, _, _, _, rfl, ?_⟩ | simp only [f1, f2, f3, f4]); (conv => whnf)))
      refine ⟨mr, nr, _, _, _, _, rfl, (by first | exact .inl ⟨rfl, rfl⟩ | exact .inr (.inl ⟨rfl, rfl, ha0⟩) | exact .inr (.inr ⟨ap, rfl, rfl⟩)), (by first | exact .inl ⟨rfl, rfl⟩ | exact .inr (.inl ⟨rfl, rfl, hb0⟩) | exact .inr (.inr ⟨ap2, rfl, rfl⟩)), rfl, hab, hbb, ?_⟩
      ((conv => whnf); repeat ((first | refine Br.t ?_ | refine Br.f ?_ | refine ob ?_ | refine ⟨_, rfl, ?_⟩ | refine ⟨_, _, rfl, ?_⟩ | refine ⟨_, _, _, rfl, ?_⟩ | refine ⟨_, _, _, _, rfl, ?_⟩ | simp only [f1, f2, f3, f4, f5]); (conv => whnf)))
      exact no (fun h => h5 (hm.1 h).2.2.2.2.1)
    have f5 : decide (mr.map rcOf = nr.map rcOf) = true := by simpa using h5
    by_cases h6 : bl mb = bl nb
    case neg =>
      have f6 : (mb.toList == nb.toList) = false := by (rw [str_beq]; simpa using h6)
      ((conv => whnf); repeat ((first | refine Br.t ?_ | refine Br.f ?_ | refine ob ?_ | refine ⟨_, rfl, ?_⟩ | refine ⟨_, _, rfl, ?_⟩ | refine ⟨_, _, _, rfl, ?_⟩ | refine ⟨_, _, _, _, rfl, ?_⟩ | simp only [f1, f2, f3, f4]); (conv => whnf)))
      refine ⟨mr, nr, _, _, _, _, rfl, (by first | exact .inl ⟨rfl, rfl⟩ | exact .inr (.inl ⟨rfl, rfl, ha0⟩) | exact .inr (.inr ⟨ap, rfl, rfl⟩)), (by first | exact .inl ⟨rfl, rfl⟩ | exact .inr (.inl ⟨rfl, rfl, hb0⟩) | exact .inr (.inr ⟨ap2, rfl, rfl⟩)), rfl, hab, hbb, ?_⟩
      ((conv => whnf); repeat ((first | refine Br.t ?_ | refine Br.f ?_ | refine ob ?_ | refine ⟨_, rfl, ?_⟩ | refine ⟨_, _, rfl, ?_⟩ | refine ⟨_, _, _, rfl, ?_⟩ | refine ⟨_, _, _, _, rfl, ?_⟩ | simp only [f1, f2, f3, f4, f5, f6]); (conv => whnf)))
      exact no (fun h => h6 (hm.1 h).2.2.2.2.2.1)
    have f6 : (mb.toList == nb.toList) = true := by (rw [str_beq]; simpa using h6)
    by_cases h7 : mo = no'
    case neg =>
      have f7 : (mo == no') = false := by simpa using h7
      ((conv => whnf); repeat ((first | refine Br.t ?_ | refine Br.f ?_ | refine ob ?_ | refine ⟨_, rfl, ?_⟩ | refine ⟨_, _, rfl, ?_⟩ | refine ⟨_, _, _, rfl, ?_⟩ | refine ⟨_, _, _, _, rfl, ?_⟩ | simp only [f1, f2, f3, f4]); (conv => whnf)))
      refine ⟨mr, nr, _, _, _, _, rfl, (by first | exact .inl ⟨rfl, rfl⟩ | exact .inr (.inl ⟨rfl, rfl, ha0⟩) | exact .inr (.inr ⟨ap, rfl, rfl⟩)), (by first | exact .inl ⟨rfl, rfl⟩ | exact .inr (.inl ⟨rfl, rfl, hb0⟩) | exact .inr (.inr ⟨ap2, rfl, rfl⟩)), rfl, hab, hbb, ?_⟩
      ((conv => whnf); repeat ((first | refine Br.t ?_ | refine Br.f ?_ | refine ob ?_ | refine ⟨_, rfl, ?_⟩ | refine ⟨_, _, rfl, ?_⟩ | refine ⟨_, _, _, rfl, ?_⟩ | refine ⟨_, _, _, _, rfl, ?_⟩ | simp only [f1, f2, f3, f4, f5, f6, f7]); (conv => whnf)))
      exact no (fun h => h7 (hm.1 h).2.2.2.2.2.2.1)
    have f7 : (mo == no') = true := by simpa using h7
    by_cases h8 : mh = nh
    case neg =>
      have f8 : (mh == nh) = false := by simpa using h8
      ((conv => whnf); repeat ((first | refine Br.t ?_ | refine Br.f ?_ | refine ob ?_ | refine ⟨_, rfl, ?_⟩ | refine ⟨_, _, rfl, ?_⟩ | refine ⟨_, _, _, rfl, ?_⟩ | refine ⟨_, _, _, _, rfl, ?_⟩ | simp only [f1, f2, f3, f4]); (conv => whnf)))
      refine ⟨mr, nr, _, _, _, _, rfl, (by first | exact .inl ⟨rfl, rfl⟩ | exact .inr (.inl ⟨rfl, rfl, ha0⟩) | exact .inr (.inr ⟨ap, rfl, rfl⟩)), (by first | exact .inl ⟨rfl, rfl⟩ | exact .inr (.inl ⟨rfl, rfl, hb0⟩) | exact .inr (.inr ⟨ap2, rfl, rfl⟩)), rfl, hab, hbb, ?_⟩
      ((conv => whnf); repeat ((first | refine Br.t ?_ | refine Br.f ?_ | refine ob ?_ | refine ⟨_, rfl, ?_⟩ | refine ⟨_, _, rfl, ?_⟩ | refine ⟨_, _, _, rfl, ?_⟩ | refine ⟨_, _, _, _, rfl, ?_⟩ | simp only [f1, f2, f3, f4, f5, f6, f7, f8]); (conv => whnf)))
      exact no (fun h => h8 (hm.1 h).2.2.2.2.2.2.2.1)
    have f8 : (mh == nh) = true := by simpa using h8
    have hfin : decide (Md.ml ⟨mi, mt, mn, mf, mg, mr, mb, mo, mh, ml⟩ = Md.ml ⟨ni, nt, nn, nf, ng, nr, nb, no', nh, nl⟩) = (ml == nl) := by
      rw [Bool.eq_iff_iff, decide_eq_true_iff, hm]
      simp [h1, h2, h3, h4, h5, h6, h7, h8]
    rw [hfin] at hk
    ((conv => whnf); repeat ((first | refine Br.t ?_ | refine Br.f ?_ | refine ob ?_ | refine ⟨_, rfl, ?_⟩ | refine ⟨_, _, rfl, ?_⟩ | refine ⟨_, _, _, rfl, ?_⟩ | refine ⟨_, _, _, _, rfl, ?_⟩ | simp only [f1, f2, f3, f4]); (conv => whnf)))
    refine ⟨mr, nr, _, _, _, _, rfl, (by first | exact .inl ⟨rfl, rfl⟩ | exact .inr (.inl ⟨rfl, rfl, ha0⟩) | exact .inr (.inr ⟨ap, rfl, rfl⟩)), (by first | exact .inl ⟨rfl, rfl⟩ | exact .inr (.inl ⟨rfl, rfl, hb0⟩) | exact .inr (.inr ⟨ap2, rfl, rfl⟩)), rfl, hab, hbb, ?_⟩
    ((conv => whnf); repeat ((first | refine Br.t ?_ | refine Br.f ?_ | refine ob ?_ | refine ⟨_, rfl, ?_⟩ | refine ⟨_, _, rfl, ?_⟩ | refine ⟨_, _, _, rfl, ?_⟩ | refine ⟨_, _, _, _, rfl, ?_⟩ | simp only [f1, f2, f3, f4, f5, f6, f7, f8]); (conv => whnf)))
    exact hk
end Go.Proofs.YtbhejifllgnliaaGreatDoor.Ab
namespace Go.Proofs.YtbhejifllgnliaaGreatDoor.Ab
open Go Go.RowKit Go.Proofs.YtbhejifllgnliaaGreatDoorW.PrintWords
set_option linter.unusedSimpArgs false
set_option linter.unusedVariables false
set_option maxRecDepth 100000
variable {G : World → Prop}
def Γ10 : Sems := ext 36 s36 Γ0
theorem Γ10.ok : SemsOK G Go.Proofs.Tryz.prog Γ10 := Γ0.ok.ext Go.Proofs.Tryz.func36 rfl (by decide) ok36
def s10 : Sense := ⟨false, fun os xs K => ∃ (m : Md) (c : C), xs = [.agg (m.cs c)] ∧ RcIn 0 m.rc c os ∧ m.rc.length ≤ big ∧ (m.rc = [] → K os (.ret (.agg (m.cs .nil)))) ∧ (m.rc ≠ [] → ∀ mv, K (os ++ [.own 45 RT m.rc true mv]) (.ret (.agg (m.cs (.own os.length)))))⟩
set_option maxHeartbeats 8000000 in
theorem ok10 : SenseOK G Go.Proofs.Tryz.prog 10 s10 := SenseOK.any Γ10.ok (fun _ => []) Go.Proofs.Tryz.func10 fun os xs K h => by
  obtain ⟨m, c, rfl, ha, hab, hk0, hk1⟩ := h
  rcases ha with ⟨rfl, rfl⟩ | ⟨rfl, rfl, ha0⟩ | ⟨ap, rfl, rfl⟩
  · ((conv => whnf); repeat ((first | refine Br.t ?_ | refine Br.f ?_ | refine ob ?_ | refine ⟨_, rfl, ?_⟩ | refine ⟨_, _, rfl, ?_⟩ | refine ⟨_, _, _, rfl, ?_⟩ | refine ⟨_, _, _, _, rfl, ?_⟩); (conv => whnf)))
    refine ⟨m.rc, _, rfl, .inl ⟨rfl, rfl⟩, hab, fun h => ?_, fun h mv => ?_⟩
    · ((conv => whnf); repeat ((first | refine Br.t ?_ | refine Br.f ?_ | refine ob ?_ | refine ⟨_, rfl, ?_⟩ | refine ⟨_, _, rfl, ?_⟩ | refine ⟨_, _, _, rfl, ?_⟩ | refine ⟨_, _, _, _, rfl, ?_⟩); (conv => whnf)))
      exact hk0 h
    · ((conv => whnf); repeat ((first | refine Br.t ?_ | refine Br.f ?_ | refine ob ?_ | refine ⟨_, rfl, ?_⟩ | refine ⟨_, _, rfl, ?_⟩ | refine ⟨_, _, _, rfl, ?_⟩ | refine ⟨_, _, _, _, rfl, ?_⟩); (conv => whnf)))
      exact hk1 h mv
  · ((conv => whnf); repeat ((first | refine Br.t ?_ | refine Br.f ?_ | refine ob ?_ | refine ⟨_, rfl, ?_⟩ | refine ⟨_, _, rfl, ?_⟩ | refine ⟨_, _, _, rfl, ?_⟩ | refine ⟨_, _, _, _, rfl, ?_⟩); (conv => whnf)))
    refine ⟨m.rc, _, rfl, .inr (.inl ⟨rfl, rfl, ha0⟩), hab, fun h => ?_, fun h mv => ?_⟩
    · ((conv => whnf); repeat ((first | refine Br.t ?_ | refine Br.f ?_ | refine ob ?_ | refine ⟨_, rfl, ?_⟩ | refine ⟨_, _, rfl, ?_⟩ | refine ⟨_, _, _, rfl, ?_⟩ | refine ⟨_, _, _, _, rfl, ?_⟩); (conv => whnf)))
      exact hk0 h
    · exact absurd ha0 h
  · ((conv => whnf); repeat ((first | refine Br.t ?_ | refine Br.f ?_ | refine ob ?_ | refine ⟨_, rfl, ?_⟩ | refine ⟨_, _, rfl, ?_⟩ | refine ⟨_, _, _, rfl, ?_⟩ | refine ⟨_, _, _, _, rfl, ?_⟩); (conv => whnf)))
    refine ⟨m.rc, _, rfl, .inr (.inr ⟨ap, rfl, rfl⟩), hab, fun h => ?_, fun h mv => ?_⟩
    · ((conv => whnf); repeat ((first | refine Br.t ?_ | refine Br.f ?_ | refine ob ?_ | refine ⟨_, rfl, ?_⟩ | refine ⟨_, _, rfl, ?_⟩ | refine ⟨_, _, _, rfl, ?_⟩ | refine ⟨_, _, _, _, rfl, ?_⟩); (conv => whnf)))
      exact hk0 h
    · ((conv => whnf); repeat ((first | refine Br.t ?_ | refine Br.f ?_ | refine ob ?_ | refine ⟨_, rfl, ?_⟩ | refine ⟨_, _, rfl, ?_⟩ | refine ⟨_, _, _, rfl, ?_⟩ | refine ⟨_, _, _, _, rfl, ?_⟩); (conv => whnf)))
      exact hk1 h mv
theorem u8_wrap (x : Int) : IntKind.u8.wrap x = x % 256 := by
  simp [IntKind.wrap, IntKind.signed, IntKind.bits]
/-- A list of bytes of one's own, or nil. -/
def Bs0 (zs : List Int) (c : C) (os : List Ob) : Prop := (c = .nil ∧ os = [] ∧ zs = []) ∨ (c = .own 0 ∧ os = [.own 5 (.int .u8) zs true false])
def s75 : Sense := ⟨false, fun os xs K => ∃ zs c n, xs = [.one c, .one (.int .i64 n)] ∧ Bs0 zs c os ∧ zs.length ≤ 35184372088832 ∧ K [.own 5 (.int .u8) (zs ++ num6 n) true true] (.ret (.one (.own 0)))⟩
theorem num6_bits (zs : List Int) (n : Int) : zs ++ [IntKind.u8.wrap (n.fdiv (2 ^ (min (Int.toNat 40) IntKind.i64.bits)))] ++ [IntKind.u8.wrap (n.fdiv (2 ^ (min (Int.toNat (IntKind.i64.wrap (40 - 8))) IntKind.i64.bits)))] ++ [IntKind.u8.wrap (n.fdiv (2 ^ (min (Int.toNat (IntKind.i64.wrap ((IntKind.i64.wrap (40 - 8)) - 8))) IntKind.i64.bits)))] ++ [IntKind.u8.wrap (n.fdiv (2 ^ (min (Int.toNat (IntKind.i64.wrap ((IntKind.i64.wrap ((IntKind.i64.wrap (40 - 8)) - 8)) - 8))) IntKind.i64.bits)))] ++ [IntKind.u8.wrap (n.fdiv (2 ^ (min (Int.toNat (IntKind.i64.wrap ((IntKind.i64.wrap ((IntKind.i64.wrap ((IntKind.i64.wrap (40 - 8)) - 8)) - 8)) - 8))) IntKind.i64.bits)))] ++ [IntKind.u8.wrap (n.fdiv (2 ^ (min (Int.toNat (IntKind.i64.wrap ((IntKind.i64.wrap ((IntKind.i64.wrap ((IntKind.i64.wrap ((IntKind.i64.wrap (40 - 8)) - 8)) - 8)) - 8)) - 8))) IntKind.i64.bits)))] = zs ++ num6 n := by
  rw [show IntKind.i64.wrap (40 - 8) = 32 by decide, show IntKind.i64.wrap (32 - 8) = 24 by decide, show IntKind.i64.wrap (24 - 8) = 16 by decide, show IntKind.i64.wrap (16 - 8) = 8 by decide, show IntKind.i64.wrap (8 - 8) = 0 by decide]
  have hn : num6 n = [IntKind.u8.wrap (n.fdiv (2 ^ (min (Int.toNat 40) IntKind.i64.bits))), IntKind.u8.wrap (n.fdiv (2 ^ (min (Int.toNat 32) IntKind.i64.bits))), IntKind.u8.wrap (n.fdiv (2 ^ (min (Int.toNat 24) IntKind.i64.bits))), IntKind.u8.wrap (n.fdiv (2 ^ (min (Int.toNat 16) IntKind.i64.bits))), IntKind.u8.wrap (n.fdiv (2 ^ (min (Int.toNat 8) IntKind.i64.bits))), IntKind.u8.wrap (n.fdiv (2 ^ (min (Int.toNat 0) IntKind.i64.bits)))] := by
    simp only [u8_wrap]; rfl
  rw [hn]; simp only [List.append_assoc, List.cons_append, List.nil_append]
set_option maxHeartbeats 8000000 in
theorem ok75 : SenseOK G Go.Proofs.Tryz.prog 75 s75 := SenseOK.any Γ0.ok (fun _ => [0, 1, 5]) Go.Proofs.Tryz.func75 fun os xs K h => by
  obtain ⟨zs, c, n, rfl, hb, hz, hk⟩ := h
  rw [← num6_bits] at hk
  rcases hb with ⟨rfl, rfl, rfl⟩ | ⟨rfl, rfl⟩
  · ((conv => whnf); repeat ((first | refine Br.t ?_ | refine Br.f ?_ | refine ob ?_ | refine ⟨_, rfl, ?_⟩ | refine ⟨_, _, rfl, ?_⟩ | refine ⟨_, _, _, rfl, ?_⟩ | refine ⟨_, _, _, _, rfl, ?_⟩); (conv => whnf)))
    refine ⟨7, ?_⟩
    ((conv => whnf); repeat ((first | refine Br.t ?_ | refine Br.f ?_ | refine ob ?_ | refine ⟨_, rfl, ?_⟩ | refine ⟨_, _, rfl, ?_⟩ | refine ⟨_, _, _, rfl, ?_⟩ | refine ⟨_, _, _, _, rfl, ?_⟩); (conv => whnf)))
    iterate 5 (refine ⟨by decide, ?_⟩; ((conv => whnf); repeat ((first | refine Br.t ?_ | refine Br.f ?_ | refine ob ?_ | refine ⟨_, rfl, ?_⟩ | refine ⟨_, _, rfl, ?_⟩ | refine ⟨_, _, _, rfl, ?_⟩ | refine ⟨_, _, _, _, rfl, ?_⟩); (conv => whnf))))
    exact hk
  · ((conv => whnf); repeat ((first | refine Br.t ?_ | refine Br.f ?_ | refine ob ?_ | refine ⟨_, rfl, ?_⟩ | refine ⟨_, _, rfl, ?_⟩ | refine ⟨_, _, _, rfl, ?_⟩ | refine ⟨_, _, _, _, rfl, ?_⟩); (conv => whnf)))
    refine ⟨7, ?_⟩
    ((conv => whnf); repeat ((first | refine Br.t ?_ | refine Br.f ?_ | refine ob ?_ | refine ⟨_, rfl, ?_⟩ | refine ⟨_, _, rfl, ?_⟩ | refine ⟨_, _, _, rfl, ?_⟩ | refine ⟨_, _, _, _, rfl, ?_⟩); (conv => whnf)))
    iterate 5 (refine ⟨by decide, ?_⟩; ((conv => whnf); repeat ((first | refine Br.t ?_ | refine Br.f ?_ | refine ob ?_ | refine ⟨_, rfl, ?_⟩ | refine ⟨_, _, rfl, ?_⟩ | refine ⟨_, _, _, rfl, ?_⟩ | refine ⟨_, _, _, _, rfl, ?_⟩); (conv => whnf))))
    exact hk
theorem txt_bytes (zs : List Int) (s : ByteArray) : zs ++ txt (bl s) = zs ++ num6 s.size ++ bytesOf s := by
  have h : (bl s).length = s.size := by simp [bl]
  rw [txt, h, List.append_assoc]; rfl
def s76 : Sense := ⟨false, fun os xs K => ∃ zs c s, xs = [.one c, .one (.str s)] ∧ Bs0 zs c os ∧ zs.length + s.size ≤ 35184372088832 ∧ K [.own 5 (.int .u8) (zs ++ txt (bl s)) true true] (.ret (.one (.own 0)))⟩
def Γ76 : Sems := ext 75 s75 Γ10
theorem Γ76.ok : SemsOK G Go.Proofs.Tryz.prog Γ76 := Γ10.ok.ext Go.Proofs.Tryz.func75 rfl (by decide) ok75
set_option maxHeartbeats 8000000 in
theorem ok76 : SenseOK G Go.Proofs.Tryz.prog 76 s76 := SenseOK.any Γ76.ok (fun _ => []) Go.Proofs.Tryz.func76 fun os xs K h => by
  obtain ⟨zs, c, s, rfl, hb, hz, hk⟩ := h
  rcases hb with ⟨rfl, rfl, rfl⟩ | ⟨rfl, rfl⟩
  · ((conv => whnf); repeat ((first | refine Br.t ?_ | refine Br.f ?_ | refine ob ?_ | refine ⟨_, rfl, ?_⟩ | refine ⟨_, _, rfl, ?_⟩ | refine ⟨_, _, _, rfl, ?_⟩ | refine ⟨_, _, _, _, rfl, ?_⟩); (conv => whnf)))
    refine ⟨[], .nil, _, rfl, .inl ⟨rfl, rfl, rfl⟩, (by omega), ?_⟩
    ((conv => whnf); repeat ((first | refine Br.t ?_ | refine Br.f ?_ | refine ob ?_ | refine ⟨_, rfl, ?_⟩ | refine ⟨_, _, rfl, ?_⟩ | refine ⟨_, _, _, rfl, ?_⟩ | refine ⟨_, _, _, _, rfl, ?_⟩); (conv => whnf)))
    refine ⟨⟨rfl, by simp only [List.length_append, num6_len, List.length_nil] at hz ⊢; omega⟩, ?_⟩
    ((conv => whnf); repeat ((first | refine Br.t ?_ | refine Br.f ?_ | refine ob ?_ | refine ⟨_, rfl, ?_⟩ | refine ⟨_, _, rfl, ?_⟩ | refine ⟨_, _, _, rfl, ?_⟩ | refine ⟨_, _, _, _, rfl, ?_⟩); (conv => whnf)))
    rw [txt_bytes] at hk
    exact hk
  · ((conv => whnf); repeat ((first | refine Br.t ?_ | refine Br.f ?_ | refine ob ?_ | refine ⟨_, rfl, ?_⟩ | refine ⟨_, _, rfl, ?_⟩ | refine ⟨_, _, _, rfl, ?_⟩ | refine ⟨_, _, _, _, rfl, ?_⟩); (conv => whnf)))
    refine ⟨zs, .own 0, _, rfl, .inr ⟨rfl, rfl⟩, (by omega), ?_⟩
    ((conv => whnf); repeat ((first | refine Br.t ?_ | refine Br.f ?_ | refine ob ?_ | refine ⟨_, rfl, ?_⟩ | refine ⟨_, _, rfl, ?_⟩ | refine ⟨_, _, _, rfl, ?_⟩ | refine ⟨_, _, _, _, rfl, ?_⟩); (conv => whnf)))
    refine ⟨⟨rfl, by simp only [List.length_append, num6_len, List.length_nil] at hz ⊢; omega⟩, ?_⟩
    ((conv => whnf); repeat ((first | refine Br.t ?_ | refine Br.f ?_ | refine ob ?_ | refine ⟨_, rfl, ?_⟩ | refine ⟨_, _, rfl, ?_⟩ | refine ⟨_, _, _, rfl, ?_⟩ | refine ⟨_, _, _, _, rfl, ?_⟩); (conv => whnf)))
    rw [txt_bytes] at hk
    exact hk
end Go.Proofs.YtbhejifllgnliaaGreatDoor.Ab
namespace Go.Proofs.YtbhejifllgnliaaGreatDoor.Ab
open Go Go.RowKit Go.Proofs.YtbhejifllgnliaaGreatDoorW.PrintWords
set_option linter.unusedSimpArgs false
set_option linter.unusedVariables false
set_option maxRecDepth 100000
variable {G : World → Prop}
/-- One bit of the check sum, as the machine reckons it. -/
def crcB (s : Int) : Int := IntKind.u32.wrap ↑(BitVec.ofInt IntKind.u32.bits (s.fdiv (2 ^ min (Int.toNat 1) IntKind.u32.bits)) ^^^ BitVec.ofInt IntKind.u32.bits (IntKind.u32.wrap (3988292384 * IntKind.u32.wrap ↑(BitVec.ofInt IntKind.u32.bits s &&& BitVec.ofInt IntKind.u32.bits 1).toNat))).toNat
def crcN : Nat → Int → Int
  | 0, s => s
  | n + 1, s => crcB (crcN n s)
def crcX (s x : Int) : Int := IntKind.u32.wrap ↑(BitVec.ofInt IntKind.u32.bits s ^^^ BitVec.ofInt IntKind.u32.bits (IntKind.u32.wrap x)).toNat
def crcI (s : Int) : Int := IntKind.u32.wrap ↑(BitVec.ofInt IntKind.u32.bits (if IntKind.u32.signed = true then -1 else IntKind.u32.max) ^^^ BitVec.ofInt IntKind.u32.bits s).toNat
def crcL (s : Int) (l : List Int) : Int := l.foldl (fun s x => crcN 8 (crcX s x)) s
def crcS (l : List Int) : Int := crcI (crcL (crcI 0) l)
theorem crcL_next {s : Int} {l : List Int} {j : Nat} {x : Int} (h : l[j]? = some x) : crcL s (l.take (j + 1)) = crcN 8 (crcX (crcL s (l.take j)) x) := by
  rw [List.take_add_one, h, crcL, List.foldl_append]; rfl
theorem crcS_range (l : List Int) : 0 ≤ crcS l ∧ crcS l < 4294967296 := by
  have h : ∀ x, 0 ≤ IntKind.u32.wrap x ∧ IntKind.u32.wrap x < 4294967296 := fun x => by
    simp only [IntKind.wrap, IntKind.signed, IntKind.bits]; constructor
    · exact Int.emod_nonneg _ (by decide)
    · exact Int.emod_lt_of_pos _ (by decide)
  exact h _
def s77 : Sense := ⟨false, fun os xs K => ∃ l c, xs = [.one (.int .u32 0), .one c] ∧ BsIn 0 l c os ∧ l.length ≤ 35184372088832 ∧ K os (.ret (.one (.int .u32 (crcS l))))⟩
set_option maxHeartbeats 8000000 in
theorem ok77 : SenseOK G Go.Proofs.Tryz.prog 77 s77 := SenseOK.any Γ0.ok (fun r => if r = 7 then [0, 9, 10, 11, 19] else [0, 9, 10, 11]) Go.Proofs.Tryz.func77 fun os xs K h => by
  obtain ⟨a, c, rfl, ha, hab, hk⟩ := h
  rcases ha with ⟨hc, ho⟩ | ⟨hc, ho, ha0⟩ | ⟨ap, hc, ho⟩
  all_goals
    rw [hc, ho]
    rw [ho] at hk
    ((conv => whnf); repeat ((first | refine Br.t ?_ | refine Br.f ?_ | refine ob ?_ | refine ⟨_, rfl, ?_⟩ | refine ⟨_, _, rfl, ?_⟩ | refine ⟨_, _, _, rfl, ?_⟩ | refine ⟨_, _, _, _, rfl, ?_⟩); (conv => whnf)))
    refine iter_of (I := fun k σ => ∃ (j : Nat), k = a.length - j ∧ j ≤ a.length ∧ σ = ⟨slots 31 [(0, .one (.int .u32 (crcL (crcI 0) (a.take j)))), (9, .one c), (10, .one (.int .i64 a.length)), (11, .one (.int .i64 j))], os⟩) ?_ a.length ⟨0, by omega, by omega, by first | (rw [hc, ho]; rfl) | (rw [hc, ho, ha0]; rfl)⟩
    rintro k σ K' ⟨j, rfl, hj, rfl⟩ hK'
    by_cases h1 : j < a.length
    case neg =>
      have f1 : decide ((j : Int) < a.length) = false := by simp; omega
      obtain rfl : j = a.length := by omega
      rw [List.take_length]
      rw [hc, ho]
      ((conv => whnf); repeat ((first | refine Br.t ?_ | refine Br.f ?_ | refine ob ?_ | refine ⟨_, rfl, ?_⟩ | refine ⟨_, _, rfl, ?_⟩ | refine ⟨_, _, _, rfl, ?_⟩ | refine ⟨_, _, _, _, rfl, ?_⟩ | simp only [f1]); (conv => whnf)))
      exact hk
    first | (rw [ha0] at h1; exact absurd h1 (by simp)) | skip
  all_goals
    have f1 : decide ((j : Int) < a.length) = true := by simpa using h1
    obtain ⟨x, hx⟩ : ∃ x, a[j]? = some x := ⟨_, List.getElem?_eq_getElem h1⟩
    have rx := nth_of hx (Ty.int IntKind.u8).dflt
    have w1 := IntWalk.i64_in (↑j + 1) (by omega)
    rw [hc, ho]
    rw [hc, ho] at hK'
    ((conv => whnf); repeat ((first | refine Br.t ?_ | refine Br.f ?_ | refine ob ?_ | refine ⟨_, rfl, ?_⟩ | refine ⟨_, _, rfl, ?_⟩ | refine ⟨_, _, _, rfl, ?_⟩ | refine ⟨_, _, _, _, rfl, ?_⟩ | simp only [f1]); (conv => whnf)))
    rw [rx]
    refine iter_of (I := fun k σ => ∃ (i : Nat), k = 8 - i ∧ i ≤ 8 ∧ σ = ⟨slots 31 [(0, .one (.int .u32 (crcN i (crcX (crcL (crcI 0) (a.take j)) x)))), (9, .one c), (10, .one (.int .i64 a.length)), (11, .one (.int .i64 j)), (19, .one (.int .i64 i))], os⟩) ?_ 8 ⟨0, by omega, by omega, by rw [hc, ho]; rfl⟩
    rintro k σ K2 ⟨i, rfl, hi, rfl⟩ hK2
    have w2 := IntWalk.i64_in (↑i + 1) (by omega)
    by_cases h2 : i < 8
    case neg =>
      have f2 : decide ((i : Int) < 8) = false := by simp; omega
      obtain rfl : i = 8 := by omega
      rw [hc, ho]
      ((conv => whnf); repeat ((first | refine Br.t ?_ | refine Br.f ?_ | refine ob ?_ | refine ⟨_, rfl, ?_⟩ | refine ⟨_, _, rfl, ?_⟩ | refine ⟨_, _, _, rfl, ?_⟩ | refine ⟨_, _, _, _, rfl, ?_⟩ | simp only [f2, w1]); (conv => whnf)))
      exact hK' _ _ (by omega) ⟨j + 1, rfl, by omega, by rw [crcL_next hx]; rfl⟩
    have f2 : decide ((i : Int) < 8) = true := by simp; omega
    rw [hc, ho]
    rw [hc, ho] at hK2
    ((conv => whnf); repeat ((first | refine Br.t ?_ | refine Br.f ?_ | refine ob ?_ | refine ⟨_, rfl, ?_⟩ | refine ⟨_, _, rfl, ?_⟩ | refine ⟨_, _, _, rfl, ?_⟩ | refine ⟨_, _, _, _, rfl, ?_⟩ | simp only [f2, w2]); (conv => whnf)))
    exact hK2 _ _ (by omega) ⟨i + 1, rfl, by omega, rfl⟩
end Go.Proofs.YtbhejifllgnliaaGreatDoor.Ab
namespace Go.Proofs.YtbhejifllgnliaaGreatDoor.Ab
open Go Go.RowKit Go.Proofs.YtbhejifllgnliaaGreatDoorW.PrintWords
set_option linter.unusedSimpArgs false
set_option linter.unusedVariables false
set_option maxRecDepth 100000
variable {G : World → Prop}
def Γ51 : Sems := ext 77 s77 (ext 76 s76 (ext 74 s74 Γ76))
theorem Γ51.ok : SemsOK G Go.Proofs.Tryz.prog Γ51 := ((Γ76.ok.ext Go.Proofs.Tryz.func74 rfl (by decide) ok74).ext Go.Proofs.Tryz.func76 rfl (by decide) ok76).ext Go.Proofs.Tryz.func77 rfl (by decide) ok77
/-- A message, as it lies in bytes, with its check sum behind it. -/
def layS (m : Ml) : List Int := layM m ++ num6 (crcS (layM m))
def hdM (m : Md) : List Int := [m.id, m.te, bif m.nul then 1 else 0, bif m.held then 1 else 0, bif m.told then 1 else 0, m.born, m.rc.length]
theorem flat_next {α : Type} {f : α → List Int} {l : List α} {j : Nat} {x : α} (h : l[j]? = some x) : (l.take (j + 1)).flatMap f = (l.take j).flatMap f ++ f x := by
  rw [List.take_add_one, h, List.flatMap_append]; simp
theorem hd_len (l : List Int) : (l.flatMap num6).length = 6 * l.length := by
  induction l with
  | nil => rfl
  | cons x l ih => rw [List.flatMap_cons, List.length_append, ih, num6_len, List.length_cons]; omega
theorem bl_len (s : ByteArray) : (bl s).length = s.size := by simp [bl]
theorem txt_len (l : List Int) : (txt l).length = 6 + l.length := by rw [txt, List.length_append]; rfl
/-- What is laid behind j recipients. -/
def Lp (m : Md) (j : Nat) : List Int := (hdM m).flatMap num6 ++ txt (bl m.fl) ++ txt (bl m.fd) ++ ((m.rc.take j).map rcOf).flatMap layR
theorem lay_Lp (m : Md) : layM m.ml = Lp m m.rc.length ++ txt (bl m.body) := by
  rw [Lp, List.take_length]
  simp only [layM, Md.ml, hdM, bitI, List.flatMap_cons, List.flatMap_nil, List.append_nil, List.append_assoc, List.length_map]
theorem Lp_next {m : Md} {j : Nat} {r : RT.den} (h : m.rc[j]? = some r) : Lp m (j + 1) = Lp m j ++ txt (bl r.1.1) ++ txt (bl r.1.2) ++ num6 r.2.1 ++ num6 r.2.2.1 ++ num6 r.2.2.2.1 ++ num6 r.2.2.2.2 := by
  rw [Lp, List.take_add_one, h, List.map_append, List.flatMap_append]
  simp [Lp, layR, rcOf, List.append_assoc]
theorem Lp_le {m : Md} : ∀ {n j : Nat}, j + n = m.rc.length → (Lp m j).length ≤ (Lp m m.rc.length).length
  | 0, j, h => by rw [← h]; exact Nat.le_refl _
  | n + 1, j, h => by
    have h1 : j < m.rc.length := by omega
    refine Nat.le_trans ?_ (Lp_le (n := n) (j := j + 1) (by omega))
    rw [Lp_next (List.getElem?_eq_getElem h1)]
    simp only [List.length_append]; omega
theorem Lp_len {m : Md} {j : Nat} (h : j ≤ m.rc.length) : (Lp m j).length + m.body.size + 6 ≤ (layM m.ml).length := by
  have := Lp_le (m := m) (n := m.rc.length - j) (j := j) (by omega)
  rw [lay_Lp, List.length_append, txt_len, bl_len]; omega
theorem Lp_step {m : Md} {j : Nat} {r : RT.den} (h : m.rc[j]? = some r) : (Lp m j).length + r.1.1.size + r.1.2.size + 36 + m.body.size + 6 ≤ (layM m.ml).length := by
  have h1 : j < m.rc.length := (List.getElem?_eq_some_iff.1 h).1
  have h2 := Lp_len (m := m) (j := j + 1) h1
  rw [Lp_next h] at h2
  simp only [List.length_append, txt_len, bl_len, num6_len] at h2
  omega
theorem Lp_ge {m : Md} : ∀ {j : Nat}, j ≤ m.rc.length → j ≤ (Lp m j).length
  | 0, _ => Nat.zero_le _
  | j + 1, h => by
    have h1 : j < m.rc.length := h
    have h2 := Lp_ge (m := m) (j := j) (by omega)
    rw [Lp_next (List.getElem?_eq_getElem h1)]
    simp only [List.length_append, num6_len]; omega
theorem rc_le (m : Md) : m.rc.length + m.body.size + 6 ≤ (layM m.ml).length := by
  have h1 := Lp_ge (m := m) (Nat.le_refl m.rc.length)
  have h2 := Lp_len (m := m) (Nat.le_refl m.rc.length)
  omega
theorem crc_i64 (l : List Int) : IntKind.i64.wrap (crcS l) = crcS l := by
  have := crcS_range l
  exact IntWalk.i64_in _ (by omega)
def s51 : Sense := ⟨false, fun os xs K => ∃ (m : Md) (c : C), xs = [.agg (m.cs c)] ∧ RcIn 0 m.rc c os ∧ (layM m.ml).length ≤ 17592186044416 ∧ ∀ mv, K (os ++ [.own 5 (.int .u8) (layS m.ml) true mv]) (.ret (.one (.own os.length)))⟩
set_option maxHeartbeats 8000000 in
theorem ok51 : SenseOK G Go.Proofs.Tryz.prog 51 s51 := SenseOK.any Γ51.ok (fun r => if r = 13 then [1, 3, 48, 49, 50, 71, 72, 73] else if r = 9 then [1, 3, 48, 49, 50] else [1, 3, 28, 29, 30]) Go.Proofs.Tryz.func51 fun os xs K h => by
  obtain ⟨m, c, rfl, ha, hl, hk⟩ := h
  have h7 : (hdM m).length = 7 := rfl
  have u1 : IntKind.i64.wrap (0 + 1) = 1 := by decide
  have u2 : IntKind.i64.wrap (1 + 1) = 2 := by decide
  have u3 : IntKind.i64.wrap (2 + 1) = 3 := by decide
  have u4 : IntKind.i64.wrap (3 + 1) = 4 := by decide
  rcases ha with ⟨hc, ho⟩ | ⟨hc, ho, ha0⟩ | ⟨ap, hc, ho⟩
  all_goals
    rw [hc, ho]
    rw [ho] at hk
    ((conv => whnf); repeat ((first | refine Br.t ?_ | refine Br.f ?_ | refine ob ?_ | refine ⟨_, rfl, ?_⟩ | refine ⟨_, _, rfl, ?_⟩ | refine ⟨_, _, _, rfl, ?_⟩ | refine ⟨_, _, _, _, rfl, ?_⟩); (conv => whnf)))
    refine ⟨[], .take 0 (.take 1 (.take 2 (.take 3 (.take 4 (.take 5 (.take 7 (.take 8 (.take 10 (.take 11 (.take 13 (.take 14 (.take 15 (.take 16 (.take 17 (.take 20 (.br 6 (.br 9 (.br 12 (.br 18 (.take 19 .done) .nil) .nil) .nil) .nil)))))))))))))))), by kernel_rfl, ?_⟩
    ((conv => whnf); repeat ((first | refine Br.t ?_ | refine Br.f ?_ | refine ob ?_ | refine ⟨_, rfl, ?_⟩ | refine ⟨_, _, rfl, ?_⟩ | refine ⟨_, _, _, rfl, ?_⟩ | refine ⟨_, _, _, _, rfl, ?_⟩); (conv => whnf)))
    refine iter_of (I := fun k σ => ∃ (j : Nat), k = 7 - j ∧ j ≤ 7 ∧
      ((j = 0 ∧ σ = ⟨slots 91 [(1, .one (.ref os.length 0)), (3, .one .nil), (28, .one (.own (os.length + 1))), (29, .one (.int .i64 7)), (30, .one (.int .i64 j))], os ++ [.box 27 (m.cs c), .own 3 (.int .i64) (hdM m) true false]⟩) ∨
       (j ≠ 0 ∧ σ = ⟨slots 91 [(1, .one (.ref os.length 0)), (3, .one (.own (os.length + 1))), (28, .one (.own (os.length + 2))), (29, .one (.int .i64 7)), (30, .one (.int .i64 j))], os ++ [.box 27 (m.cs c), .own 5 (.int .u8) (((hdM m).take j).flatMap num6) true true, .own 3 (.int .i64) (hdM m) true false]⟩))) ?_ 7 ⟨0, by omega, by omega, .inl ⟨rfl, by first | (rw [hc, ho]; rfl) | (rw [hc, ho, hdM, ha0]; rfl)⟩⟩
    rintro k σ K' ⟨j, rfl, hj, hσ⟩ hK'
    rw [hc, ho] at hK' hσ
    have w1 := IntWalk.i64_in (↑j + 1) (by omega)
    by_cases h1 : j < 7
    case neg =>
      have f1 : decide ((j : Int) < 7) = false := by simp; omega
      obtain rfl : j = 7 := by omega
      rcases hσ with ⟨h0, _⟩ | ⟨_, rfl⟩
      · exact absurd h0 (by decide)
      rw [List.take_of_length_le (by rw [h7]; exact Nat.le_refl _)]
      have hL0 : (hdM m).flatMap num6 ++ txt (bl m.fl) ++ txt (bl m.fd) = Lp m 0 := by simp [Lp]
      have hrc := rc_le m
      have hln := Lp_len (Nat.zero_le m.rc.length)
      rw [← hL0] at hln
      simp only [List.length_append, txt_len, bl_len] at hln
      generalize hH : (hdM m).flatMap num6 = H at hL0 hln
      ((conv => whnf); repeat ((first | refine Br.t ?_ | refine Br.f ?_ | refine ob ?_ | refine ⟨_, rfl, ?_⟩ | refine ⟨_, _, rfl, ?_⟩ | refine ⟨_, _, _, rfl, ?_⟩ | refine ⟨_, _, _, _, rfl, ?_⟩ | simp only [f1]); (conv => whnf)))
      first
        | (refine ⟨[1], .take 0 (.take 1 (.take 2 (.take 3 (.take 5 (.take 6 (.take 7 (.br 4 (.br 8 (.take 9 .done) .nil) .nil))))))), by kernel_rfl, ?_⟩; ((conv => whnf); repeat ((first | refine Br.t ?_ | refine Br.f ?_ | refine ob ?_ | refine ⟨_, rfl, ?_⟩ | refine ⟨_, _, rfl, ?_⟩ | refine ⟨_, _, _, rfl, ?_⟩ | refine ⟨_, _, _, _, rfl, ?_⟩); (conv => whnf))); refine ⟨_, _, _, rfl, .inr ⟨rfl, rfl⟩, by omega, ?_⟩)
        | (refine ⟨[2], .take 0 (.take 1 (.take 2 (.take 3 (.take 5 (.take 6 (.take 7 (.br 4 (.br 8 (.take 9 .done) .nil) .nil))))))), by kernel_rfl, ?_⟩; ((conv => whnf); repeat ((first | refine Br.t ?_ | refine Br.f ?_ | refine ob ?_ | refine ⟨_, rfl, ?_⟩ | refine ⟨_, _, rfl, ?_⟩ | refine ⟨_, _, _, rfl, ?_⟩ | refine ⟨_, _, _, _, rfl, ?_⟩); (conv => whnf))); refine ⟨_, _, _, rfl, .inr ⟨rfl, rfl⟩, by omega, ?_⟩)
      ((conv => whnf); repeat ((first | refine Br.t ?_ | refine Br.f ?_ | refine ob ?_ | refine ⟨_, rfl, ?_⟩ | refine ⟨_, _, rfl, ?_⟩ | refine ⟨_, _, _, rfl, ?_⟩ | refine ⟨_, _, _, _, rfl, ?_⟩); (conv => whnf)))
      have hl1 : (H ++ txt (bl m.fl)).length + m.fd.size ≤ 35184372088832 := by
        rw [List.length_append, txt_len, bl_len]; omega
      refine ⟨_, _, _, rfl, .inr ⟨rfl, rfl⟩, hl1, ?_⟩
      rw [hL0]
      ((conv => whnf); repeat ((first | refine Br.t ?_ | refine Br.f ?_ | refine ob ?_ | refine ⟨_, rfl, ?_⟩ | refine ⟨_, _, rfl, ?_⟩ | refine ⟨_, _, _, rfl, ?_⟩ | refine ⟨_, _, _, _, rfl, ?_⟩); (conv => whnf)))
      refine iter_of (I := fun k σ => ∃ (j : Nat), k = m.rc.length - j ∧ j ≤ m.rc.length ∧ σ = ⟨slots 91 [(1, .one (.ref os.length 0)), (3, .one (.own (os.length + 1))), (48, .one c), (49, .one (.int .i64 m.rc.length)), (50, .one (.int .i64 j))], os ++ [.box 27 (m.cs c), .own 5 (.int .u8) (Lp m j) true true]⟩) ?_ m.rc.length ⟨0, by omega, by omega, by first | (rw [hc, ho]; rfl) | (rw [hc, ho, ha0]; rfl)⟩
      rintro k σ K' ⟨j, rfl, hj, rfl⟩ hK'
      rw [hc, ho] at hK' ⊢
      by_cases h2 : j < m.rc.length
      case neg =>
        have f2 : decide ((j : Int) < m.rc.length) = false := by simp; omega
        obtain rfl : j = m.rc.length := by omega
        ((conv => whnf); repeat ((first | refine Br.t ?_ | refine Br.f ?_ | refine ob ?_ | refine ⟨_, rfl, ?_⟩ | refine ⟨_, _, rfl, ?_⟩ | refine ⟨_, _, _, rfl, ?_⟩ | refine ⟨_, _, _, _, rfl, ?_⟩ | simp only [f2]); (conv => whnf)))
        refine ⟨_, _, _, rfl, .inr ⟨rfl, rfl⟩, by have := Lp_len (m := m) (Nat.le_refl m.rc.length); omega, ?_⟩
        rw [← lay_Lp]
        ((conv => whnf); repeat ((first | refine Br.t ?_ | refine Br.f ?_ | refine ob ?_ | refine ⟨_, rfl, ?_⟩ | refine ⟨_, _, rfl, ?_⟩ | refine ⟨_, _, _, rfl, ?_⟩ | refine ⟨_, _, _, _, rfl, ?_⟩); (conv => whnf)))
        refine ⟨layM m.ml, _, rfl, .inr (.inr ⟨_, rfl, rfl⟩), by omega, ?_⟩
        ((conv => whnf); repeat ((first | refine Br.t ?_ | refine Br.f ?_ | refine ob ?_ | refine ⟨_, rfl, ?_⟩ | refine ⟨_, _, rfl, ?_⟩ | refine ⟨_, _, _, rfl, ?_⟩ | refine ⟨_, _, _, _, rfl, ?_⟩); (conv => whnf)))
        refine ⟨_, _, _, rfl, .inr ⟨rfl, rfl⟩, by omega, ?_⟩
        ((conv => whnf); repeat ((first | refine Br.t ?_ | refine Br.f ?_ | refine ob ?_ | refine ⟨_, rfl, ?_⟩ | refine ⟨_, _, rfl, ?_⟩ | refine ⟨_, _, _, rfl, ?_⟩ | refine ⟨_, _, _, _, rfl, ?_⟩ | simp only [crc_i64]); (conv => whnf)))
        exact hk _
      first | (rw [ha0] at h2; exact absurd h2 (by simp)) | skip
      all_goals
        have f2 : decide ((j : Int) < m.rc.length) = true := by simp; omega
        obtain ⟨r, hr⟩ : ∃ r, m.rc[j]? = some r := ⟨_, List.getElem?_eq_getElem h2⟩
        have rr := nth_of hr RT.dflt
        have w2 := IntWalk.i64_in (↑j + 1) (by omega)
        have hst := Lp_step hr
        have hnx := Lp_next hr
        ((conv => whnf); repeat ((first | refine Br.t ?_ | refine Br.f ?_ | refine ob ?_ | refine ⟨_, rfl, ?_⟩ | refine ⟨_, _, rfl, ?_⟩ | refine ⟨_, _, _, rfl, ?_⟩ | refine ⟨_, _, _, _, rfl, ?_⟩ | simp only [f2]); (conv => whnf)))
        rw [rr]
        have hl2 : (Lp m j ++ txt (bl r.1.1)).length + r.1.2.size ≤ 35184372088832 := by
          rw [List.length_append, txt_len, bl_len]; omega
        first
          | (refine ⟨[1], .take 0 (.take 1 (.take 2 (.take 3 (.take 5 (.take 6 (.take 7 (.br 4 (.br 8 (.take 9 .done) .nil) .nil))))))), by kernel_rfl, ?_⟩; ((conv => whnf); repeat ((first | refine Br.t ?_ | refine Br.f ?_ | refine ob ?_ | refine ⟨_, rfl, ?_⟩ | refine ⟨_, _, rfl, ?_⟩ | refine ⟨_, _, _, rfl, ?_⟩ | refine ⟨_, _, _, _, rfl, ?_⟩); (conv => whnf))); refine ⟨_, _, _, rfl, .inr ⟨rfl, rfl⟩, by omega, ?_⟩)
          | (refine ⟨[2], .take 0 (.take 1 (.take 2 (.take 3 (.take 5 (.take 6 (.take 7 (.br 4 (.br 8 (.take 9 .done) .nil) .nil))))))), by kernel_rfl, ?_⟩; ((conv => whnf); repeat ((first | refine Br.t ?_ | refine Br.f ?_ | refine ob ?_ | refine ⟨_, rfl, ?_⟩ | refine ⟨_, _, rfl, ?_⟩ | refine ⟨_, _, _, rfl, ?_⟩ | refine ⟨_, _, _, _, rfl, ?_⟩); (conv => whnf))); refine ⟨_, _, _, rfl, .inr ⟨rfl, rfl⟩, by omega, ?_⟩)
        ((conv => whnf); repeat ((first | refine Br.t ?_ | refine Br.f ?_ | refine ob ?_ | refine ⟨_, rfl, ?_⟩ | refine ⟨_, _, rfl, ?_⟩ | refine ⟨_, _, _, rfl, ?_⟩ | refine ⟨_, _, _, _, rfl, ?_⟩); (conv => whnf)))
        refine ⟨_, _, _, rfl, .inr ⟨rfl, rfl⟩, hl2, ?_⟩
        ((conv => whnf); repeat ((first | refine Br.t ?_ | refine Br.f ?_ | refine ob ?_ | refine ⟨_, rfl, ?_⟩ | refine ⟨_, _, rfl, ?_⟩ | refine ⟨_, _, _, rfl, ?_⟩ | refine ⟨_, _, _, _, rfl, ?_⟩); (conv => whnf)))
        refine ⟨5, ?_⟩
        have hl3 : (Lp m j ++ txt (bl r.1.1) ++ txt (bl r.1.2)).length + 36 ≤ 35184372088832 := by
          simp only [List.length_append, txt_len, bl_len]; omega
        generalize hT : Lp m j ++ txt (bl r.1.1) ++ txt (bl r.1.2) = T at hl3 hnx
        ((conv => whnf); repeat ((first | refine Br.t ?_ | refine Br.f ?_ | refine ob ?_ | refine ⟨_, rfl, ?_⟩ | refine ⟨_, _, rfl, ?_⟩ | refine ⟨_, _, _, rfl, ?_⟩ | refine ⟨_, _, _, _, rfl, ?_⟩); (conv => whnf)))
        refine ⟨_, _, _, rfl, .inr ⟨rfl, rfl⟩, by first | omega | (simp only [List.length_append, num6_len]; omega), ?_⟩
        ((conv => whnf); repeat ((first | refine Br.t ?_ | refine Br.f ?_ | refine ob ?_ | refine ⟨_, rfl, ?_⟩ | refine ⟨_, _, rfl, ?_⟩ | refine ⟨_, _, _, rfl, ?_⟩ | refine ⟨_, _, _, _, rfl, ?_⟩ | simp only [u1, u2, u3, u4]); (conv => whnf)))
        refine ⟨_, _, _, rfl, .inr ⟨rfl, rfl⟩, by first | omega | (simp only [List.length_append, num6_len]; omega), ?_⟩
        ((conv => whnf); repeat ((first | refine Br.t ?_ | refine Br.f ?_ | refine ob ?_ | refine ⟨_, rfl, ?_⟩ | refine ⟨_, _, rfl, ?_⟩ | refine ⟨_, _, _, rfl, ?_⟩ | refine ⟨_, _, _, _, rfl, ?_⟩ | simp only [u1, u2, u3, u4]); (conv => whnf)))
        refine ⟨_, _, _, rfl, .inr ⟨rfl, rfl⟩, by first | omega | (simp only [List.length_append, num6_len]; omega), ?_⟩
        ((conv => whnf); repeat ((first | refine Br.t ?_ | refine Br.f ?_ | refine ob ?_ | refine ⟨_, rfl, ?_⟩ | refine ⟨_, _, rfl, ?_⟩ | refine ⟨_, _, _, rfl, ?_⟩ | refine ⟨_, _, _, _, rfl, ?_⟩ | simp only [u1, u2, u3, u4]); (conv => whnf)))
        refine ⟨_, _, _, rfl, .inr ⟨rfl, rfl⟩, by first | omega | (simp only [List.length_append, num6_len]; omega), ?_⟩
        ((conv => whnf); repeat ((first | refine Br.t ?_ | refine Br.f ?_ | refine ob ?_ | refine ⟨_, rfl, ?_⟩ | refine ⟨_, _, rfl, ?_⟩ | refine ⟨_, _, _, rfl, ?_⟩ | refine ⟨_, _, _, _, rfl, ?_⟩ | simp only [u1, u2, u3, u4, w2]); (conv => whnf)))
        exact hK' _ _ (by omega) ⟨j + 1, rfl, by omega, by rw [hnx]; rfl⟩
    have f1 : decide ((j : Int) < 7) = true := by simp; omega
    obtain ⟨x, hx⟩ : ∃ x, (hdM m)[j]? = some x := ⟨_, List.getElem?_eq_getElem (by omega)⟩
    have rx := nth_of hx (Ty.int IntKind.i64).dflt
    have hn := flat_next (f := num6) hx
    have hlen := hd_len ((hdM m).take j)
    rw [List.length_take, h7] at hlen
    rcases hσ with ⟨rfl, rfl⟩ | ⟨h0, rfl⟩
    · ((conv => whnf); repeat ((first | refine Br.t ?_ | refine Br.f ?_ | refine ob ?_ | refine ⟨_, rfl, ?_⟩ | refine ⟨_, _, rfl, ?_⟩ | refine ⟨_, _, _, rfl, ?_⟩ | refine ⟨_, _, _, _, rfl, ?_⟩ | simp only [f1]); (conv => whnf)))
      rw [rx]
      refine ⟨[], _, _, rfl, .inl ⟨rfl, rfl, rfl⟩, by simp, ?_⟩
      ((conv => whnf); repeat ((first | refine Br.t ?_ | refine Br.f ?_ | refine ob ?_ | refine ⟨_, rfl, ?_⟩ | refine ⟨_, _, rfl, ?_⟩ | refine ⟨_, _, _, rfl, ?_⟩ | refine ⟨_, _, _, _, rfl, ?_⟩ | simp only [w1]); (conv => whnf)))
      exact hK' _ _ (by omega) ⟨1, rfl, by omega, .inr ⟨by decide, by rw [hn]; rfl⟩⟩
    · ((conv => whnf); repeat ((first | refine Br.t ?_ | refine Br.f ?_ | refine ob ?_ | refine ⟨_, rfl, ?_⟩ | refine ⟨_, _, rfl, ?_⟩ | refine ⟨_, _, _, rfl, ?_⟩ | refine ⟨_, _, _, _, rfl, ?_⟩ | simp only [f1]); (conv => whnf)))
      rw [rx]
      refine ⟨_, _, _, rfl, .inr ⟨rfl, rfl⟩, by omega, ?_⟩
      ((conv => whnf); repeat ((first | refine Br.t ?_ | refine Br.f ?_ | refine ob ?_ | refine ⟨_, rfl, ?_⟩ | refine ⟨_, _, rfl, ?_⟩ | refine ⟨_, _, _, rfl, ?_⟩ | refine ⟨_, _, _, _, rfl, ?_⟩ | simp only [w1]); (conv => whnf)))
      exact hK' _ _ (by omega) ⟨j + 1, rfl, by omega, .inr ⟨by omega, by rw [hn]; rfl⟩⟩
end Go.Proofs.YtbhejifllgnliaaGreatDoor.Ab
namespace Go.Proofs.YtbhejifllgnliaaGreatDoor.Ab
open Go Go.RowKit Go.Proofs.YtbhejifllgnliaaGreatDoorW.PrintWords
set_option linter.unusedSimpArgs false
set_option linter.unusedVariables false
set_option maxRecDepth 100000
variable {G : World → Prop}
def s53 : Sense := pureS fun xs K => ∃ n : Int, xs = [.one (.int .i64 n)] ∧ K (.ret (.one (.int .i64 (IntKind.i64.wrap (n + 1000)))))
theorem ok53 : SenseOK G Go.Proofs.Tryz.prog 53 s53 := SenseOK.pure Γ0.ok (fun _ => []) Go.Proofs.Tryz.func53 fun xs K h => by
  obtain ⟨n, rfl, hk⟩ := h
  ((conv => whnf); repeat ((first | refine Br.t ?_ | refine Br.f ?_ | refine ob ?_ | refine ⟨_, rfl, ?_⟩ | refine ⟨_, _, rfl, ?_⟩ | refine ⟨_, _, _, rfl, ?_⟩ | refine ⟨_, _, _, _, rfl, ?_⟩); (conv => whnf)))
  exact hk
/-- A recipient that is not at its end. -/
def opn (r : RT.den) : Bool := r.2.1 == 0 || r.2.1 == 1
def overB (m : Md) : Bool := !m.rc.any opn
theorem any_take_next {α : Type} {p : α → Bool} {l : List α} {j : Nat} {x : α} (h : l[j]? = some x) (h0 : (l.take j).any p = false) (hx : p x = false) : (l.take (j + 1)).any p = false := by
  rw [List.take_add_one, h, List.any_append, h0]; simp [hx]
theorem any_at {α : Type} {p : α → Bool} {l : List α} {j : Nat} {x : α} (h : l[j]? = some x) (hx : p x = true) : l.any p = true :=
  List.any_eq_true.2 ⟨x, List.mem_of_getElem? h, hx⟩
def s32 : Sense := ⟨false, fun os xs K => ∃ (m : Md) (c : C), xs = [.agg (m.cs c)] ∧ RcIn 0 m.rc c os ∧ m.rc.length ≤ big ∧ K os (.ret (.one (.bool (overB m))))⟩
def s92 : Sense := ⟨false, fun os xs K => ∃ (x y n : Int), xs = [.one (.own 0), .one (.int .i64 n)] ∧ (∃ ap, os = [.own 3 (.int .i64) [x, y] ap false]) ∧ K os (.ret (.one (.int .i64 (bif n == x then 0 else bif n == y then 1 else -1))))⟩
set_option maxHeartbeats 8000000 in
theorem ok92 : SenseOK G Go.Proofs.Tryz.prog 92 s92 := SenseOK.any Γ0.ok (fun _ => [0, 1, 7, 8]) Go.Proofs.Tryz.func92 fun os xs K h => by
  obtain ⟨x, y, n, rfl, ⟨ap, rfl⟩, hk⟩ := h
  have u1 : IntKind.i64.wrap (0 + 1) = 1 := by decide
  have u2 : IntKind.i64.wrap (1 + 1) = 2 := by decide
  ((conv => whnf); repeat ((first | refine Br.t ?_ | refine Br.f ?_ | refine ob ?_ | refine ⟨_, rfl, ?_⟩ | refine ⟨_, _, rfl, ?_⟩ | refine ⟨_, _, _, rfl, ?_⟩ | refine ⟨_, _, _, _, rfl, ?_⟩); (conv => whnf)))
  refine ⟨3, ?_⟩
  ((conv => whnf); repeat ((first | refine Br.t ?_ | refine Br.f ?_ | refine ob ?_ | refine ⟨_, rfl, ?_⟩ | refine ⟨_, _, rfl, ?_⟩ | refine ⟨_, _, _, rfl, ?_⟩ | refine ⟨_, _, _, _, rfl, ?_⟩); (conv => whnf)))
  by_cases g0 : n = x
  · have e0 : (n == x) = true := by simpa using g0
    have e0' : (n == rdx [x, y] (Int.toNat 0) (Ty.int IntKind.i64).dflt) = true := e0
    rw [e0] at hk
    ((conv => whnf); repeat ((first | refine Br.t ?_ | refine Br.f ?_ | refine ob ?_ | refine ⟨_, rfl, ?_⟩ | refine ⟨_, _, rfl, ?_⟩ | refine ⟨_, _, _, rfl, ?_⟩ | refine ⟨_, _, _, _, rfl, ?_⟩ | simp only [e0']); (conv => whnf)))
    exact hk
  have e0 : (n == x) = false := by simpa using g0
  have e0' : (n == rdx [x, y] (Int.toNat 0) (Ty.int IntKind.i64).dflt) = false := e0
  rw [e0] at hk
  by_cases g1 : n = y
  · have e1 : (n == y) = true := by simpa using g1
    have e1' : (n == rdx [x, y] (Int.toNat 1) (Ty.int IntKind.i64).dflt) = true := e1
    rw [e1] at hk
    ((conv => whnf); repeat ((first | refine Br.t ?_ | refine Br.f ?_ | refine ob ?_ | refine ⟨_, rfl, ?_⟩ | refine ⟨_, _, rfl, ?_⟩ | refine ⟨_, _, _, rfl, ?_⟩ | refine ⟨_, _, _, _, rfl, ?_⟩ | simp only [e0', u1, e1']); (conv => whnf)))
    exact hk
  have e1 : (n == y) = false := by simpa using g1
  have e1' : (n == rdx [x, y] (Int.toNat 1) (Ty.int IntKind.i64).dflt) = false := e1
  rw [e1] at hk
  ((conv => whnf); repeat ((first | refine Br.t ?_ | refine Br.f ?_ | refine ob ?_ | refine ⟨_, rfl, ?_⟩ | refine ⟨_, _, rfl, ?_⟩ | refine ⟨_, _, _, rfl, ?_⟩ | refine ⟨_, _, _, _, rfl, ?_⟩ | simp only [e0', u1, e1', u2]); (conv => whnf)))
  exact hk
def Γ66 : Sems := ext 92 s92 Γ0
theorem Γ66.ok : SemsOK G Go.Proofs.Tryz.prog Γ66 := Γ0.ok.ext Go.Proofs.Tryz.func92 rfl (by decide) ok92
def s66 : Sense := ⟨false, fun os xs K => ∃ (x y n : Int), xs = [.one (.own 0), .one (.int .i64 n)] ∧ (∃ ap, os = [.own 3 (.int .i64) [x, y] ap false]) ∧ K os (.ret (.one (.bool (n == x || n == y))))⟩
theorem ok66 : SenseOK G Go.Proofs.Tryz.prog 66 s66 := SenseOK.any Γ66.ok (fun _ => []) Go.Proofs.Tryz.func66 fun os xs K h => by
  obtain ⟨x, y, n, rfl, ⟨ap, rfl⟩, hk⟩ := h
  ((conv => whnf); repeat ((first | refine Br.t ?_ | refine Br.f ?_ | refine ob ?_ | refine ⟨_, rfl, ?_⟩ | refine ⟨_, _, rfl, ?_⟩ | refine ⟨_, _, _, rfl, ?_⟩ | refine ⟨_, _, _, _, rfl, ?_⟩); (conv => whnf)))
  refine ⟨x, y, n, rfl, ⟨ap, rfl⟩, ?_⟩
  have hd : decide (0 ≤ (bif n == x then (0 : Int) else bif n == y then 1 else -1)) = (n == x || n == y) := by
    cases n == x <;> cases n == y <;> rfl
  rw [← hd] at hk
  ((conv => whnf); repeat ((first | refine Br.t ?_ | refine Br.f ?_ | refine ob ?_ | refine ⟨_, rfl, ?_⟩ | refine ⟨_, _, rfl, ?_⟩ | refine ⟨_, _, _, rfl, ?_⟩ | refine ⟨_, _, _, _, rfl, ?_⟩); (conv => whnf)))
  exact hk
def Γ65 : Sems := ext 66 s66 Γ0
theorem Γ65.ok : SemsOK G Go.Proofs.Tryz.prog Γ65 := Γ0.ok.ext Go.Proofs.Tryz.func66 rfl (by decide) ok66
def rcs (r : RT.den) : List C := [.str r.1.1, .str r.1.2, .int .i64 r.2.1, .int .i64 r.2.2.1, .int .i64 r.2.2.2.1, .int .i64 r.2.2.2.2]
def s65 : Sense := ⟨false, fun os xs K => ∃ (x y : Int) (r : RT.den), xs = [.agg (rcs r), .one (.ref 0 0)] ∧ (∃ ap, os = [.box 84 [.own 1], .own 3 (.int .i64) [x, y] ap false]) ∧ K os (.ret (.one (.bool (r.2.1 == x || r.2.1 == y))))⟩
theorem ok65 : SenseOK G Go.Proofs.Tryz.prog 65 s65 := SenseOK.any Γ65.ok (fun _ => []) Go.Proofs.Tryz.func65 fun os xs K h => by
  obtain ⟨x, y, r, rfl, ⟨ap, rfl⟩, hk⟩ := h
  ((conv => whnf); repeat ((first | refine Br.t ?_ | refine Br.f ?_ | refine ob ?_ | refine ⟨_, rfl, ?_⟩ | refine ⟨_, _, rfl, ?_⟩ | refine ⟨_, _, _, rfl, ?_⟩ | refine ⟨_, _, _, _, rfl, ?_⟩); (conv => whnf)))
  refine ⟨x, y, _, rfl, ⟨ap, rfl⟩, ?_⟩
  ((conv => whnf); repeat ((first | refine Br.t ?_ | refine Br.f ?_ | refine ob ?_ | refine ⟨_, rfl, ?_⟩ | refine ⟨_, _, rfl, ?_⟩ | refine ⟨_, _, _, rfl, ?_⟩ | refine ⟨_, _, _, _, rfl, ?_⟩); (conv => whnf)))
  exact hk
def Γ91 : Sems := ext 65 s65 Γ0
theorem Γ91.ok : SemsOK G Go.Proofs.Tryz.prog Γ91 := Γ0.ok.ext Go.Proofs.Tryz.func65 rfl (by decide) ok65
def isB (x y : Int) (r : RT.den) : Bool := r.2.1 == x || r.2.1 == y
def s91 : Sense := ⟨false, fun os xs K => ∃ (x y : Int) (l : List RT.den) (c : C) (pa : List Ob), xs = [.one c, .one (.fn 65 [pa.length])] ∧ RcIn 0 l c pa ∧ l.length ≤ big ∧ (∃ ap, os = pa ++ [.box 84 [.own (pa.length + 1)], .own 3 (.int .i64) [x, y] ap false]) ∧ (∀ i : Int, decide (0 ≤ i) = l.any (isB x y) → K os (.ret (.one (.int .i64 i))))⟩
set_option maxHeartbeats 8000000 in
theorem ok91 : SenseOK G Go.Proofs.Tryz.prog 91 s91 := SenseOK.any Γ91.ok (fun _ => [0, 1, 7, 8]) Go.Proofs.Tryz.func91 fun os xs K h => by
  obtain ⟨x, y, l, c, pa, rfl, ha, hb, ⟨ap, rfl⟩, hk⟩ := h
  simp only [big] at hb
  rcases ha with ⟨hc, ho⟩ | ⟨hc, ho, ha0⟩ | ⟨ap2, hc, ho⟩
  all_goals
    rw [hc, ho]
    rw [ho] at hk
    ((conv => whnf); repeat ((first | refine Br.t ?_ | refine Br.f ?_ | refine ob ?_ | refine ⟨_, rfl, ?_⟩ | refine ⟨_, _, rfl, ?_⟩ | refine ⟨_, _, _, rfl, ?_⟩ | refine ⟨_, _, _, _, rfl, ?_⟩); (conv => whnf)))
    refine iter_of (I := fun k σ => ∃ (j : Nat), k = l.length - j ∧ j ≤ l.length ∧ (l.take j).any (isB x y) = false ∧ σ = ⟨slots 19 [(0, .one c), (1, .one (.fn 65 [pa.length])), (7, .one (.int .i64 l.length)), (8, .one (.int .i64 j))], pa ++ [.box 84 [.own (pa.length + 1)], .own 3 (.int .i64) [x, y] ap false]⟩) ?_ l.length ⟨0, by omega, by omega, rfl, by first | (rw [hc, ho]; rfl) | (rw [hc, ho, ha0]; rfl)⟩
    rintro k σ K' ⟨j, rfl, hj, hn, rfl⟩ hK'
    rw [hc, ho] at hK' ⊢
    by_cases h1 : j < l.length
    case neg =>
      obtain rfl : j = l.length := by omega
      rw [List.take_length] at hn
      have f1 : decide ((l.length : Int) < l.length) = false := by simp
      ((conv => whnf); repeat ((first | refine Br.t ?_ | refine Br.f ?_ | refine ob ?_ | refine ⟨_, rfl, ?_⟩ | refine ⟨_, _, rfl, ?_⟩ | refine ⟨_, _, _, rfl, ?_⟩ | refine ⟨_, _, _, _, rfl, ?_⟩ | simp only [f1]); (conv => whnf)))
      exact hk (-1) (by rw [hn]; rfl)
    first | (rw [ha0] at h1; exact absurd h1 (by simp)) | skip
  all_goals
    have f1 : decide ((j : Int) < l.length) = true := by simp; omega
    obtain ⟨r, hr⟩ : ∃ r, l[j]? = some r := ⟨_, List.getElem?_eq_getElem h1⟩
    have rr := nth_of hr RT.dflt
    have w2 := IntWalk.i64_in (↑j + 1) (by omega)
    ((conv => whnf); repeat ((first | refine Br.t ?_ | refine Br.f ?_ | refine ob ?_ | refine ⟨_, rfl, ?_⟩ | refine ⟨_, _, rfl, ?_⟩ | refine ⟨_, _, _, rfl, ?_⟩ | refine ⟨_, _, _, _, rfl, ?_⟩ | simp only [f1]); (conv => whnf)))
    rw [rr]
    refine ⟨x, y, r, rfl, ⟨ap, rfl⟩, ?_⟩
    by_cases g0 : isB x y r = true
    · have e0 : (r.2.1 == x || r.2.1 == y) = true := g0
      ((conv => whnf); repeat ((first | refine Br.t ?_ | refine Br.f ?_ | refine ob ?_ | refine ⟨_, rfl, ?_⟩ | refine ⟨_, _, rfl, ?_⟩ | refine ⟨_, _, _, rfl, ?_⟩ | refine ⟨_, _, _, _, rfl, ?_⟩ | simp only [e0]); (conv => whnf)))
      exact hk j (by rw [any_at hr g0]; simp)
    · have g1 : isB x y r = false := by simpa using g0
      have e0 : (r.2.1 == x || r.2.1 == y) = false := g1
      ((conv => whnf); repeat ((first | refine Br.t ?_ | refine Br.f ?_ | refine ob ?_ | refine ⟨_, rfl, ?_⟩ | refine ⟨_, _, rfl, ?_⟩ | refine ⟨_, _, _, rfl, ?_⟩ | refine ⟨_, _, _, _, rfl, ?_⟩ | simp only [e0, w2]); (conv => whnf)))
      exact hK' _ _ (by omega) ⟨j + 1, rfl, by omega, any_take_next hr hn g1, rfl⟩
def Γ64 : Sems := ext 91 s91 Γ0
theorem Γ64.ok : SemsOK G Go.Proofs.Tryz.prog Γ64 := Γ0.ok.ext Go.Proofs.Tryz.func91 rfl (by decide) ok91
def s64 : Sense := ⟨false, fun os xs K => ∃ (x y : Int) (l : List RT.den) (c : C) (pa : List Ob), xs = [.one c, .one (.fn 65 [pa.length])] ∧ RcIn 0 l c pa ∧ l.length ≤ big ∧ (∃ ap, os = pa ++ [.box 84 [.own (pa.length + 1)], .own 3 (.int .i64) [x, y] ap false]) ∧ K os (.ret (.one (.bool (l.any (isB x y)))))⟩
theorem ok64 : SenseOK G Go.Proofs.Tryz.prog 64 s64 := SenseOK.any Γ64.ok (fun _ => []) Go.Proofs.Tryz.func64 fun os xs K h => by
  obtain ⟨x, y, l, c, pa, rfl, ha, hb, ⟨ap, rfl⟩, hk⟩ := h
  have ha' := ha
  rcases ha with ⟨hc, ho⟩ | ⟨hc, ho, ha0⟩ | ⟨ap2, hc, ho⟩
  all_goals
    rw [hc, ho]
    rw [ho] at hk
    ((conv => whnf); repeat ((first | refine Br.t ?_ | refine Br.f ?_ | refine ob ?_ | refine ⟨_, rfl, ?_⟩ | refine ⟨_, _, rfl, ?_⟩ | refine ⟨_, _, _, rfl, ?_⟩ | refine ⟨_, _, _, _, rfl, ?_⟩); (conv => whnf)))
    refine ⟨x, y, l, c, pa, by rw [hc, ho]; rfl, ha', hb, ⟨ap, by rw [ho]; rfl⟩, fun i hi => ?_⟩
    rw [← hi] at hk
    ((conv => whnf); repeat ((first | refine Br.t ?_ | refine Br.f ?_ | refine ob ?_ | refine ⟨_, rfl, ?_⟩ | refine ⟨_, _, rfl, ?_⟩ | refine ⟨_, _, _, rfl, ?_⟩ | refine ⟨_, _, _, _, rfl, ?_⟩); (conv => whnf)))
    exact hk
def Γ40 : Sems := ext 64 s64 Γ0
theorem Γ40.ok : SemsOK G Go.Proofs.Tryz.prog Γ40 := Γ0.ok.ext Go.Proofs.Tryz.func64 rfl (by decide) ok64
def s40 : Sense := ⟨false, fun os xs K => ∃ (x y : Int) (m : Md) (c : C) (pa : List Ob), xs = [.agg (m.cs c), .one (.own pa.length)] ∧ RcIn 0 m.rc c pa ∧ m.rc.length ≤ big ∧ (∃ ap, os = pa ++ [.own 3 (.int .i64) [x, y] ap false]) ∧ K os (.ret (.one (.bool (m.rc.any (isB x y)))))⟩
theorem ok40 : SenseOK G Go.Proofs.Tryz.prog 40 s40 := SenseOK.any Γ40.ok (fun _ => []) Go.Proofs.Tryz.func40 fun os xs K h => by
  obtain ⟨x, y, m, c, pa, rfl, ha, hb, ⟨ap, rfl⟩, hk⟩ := h
  have ha' := ha
  rcases ha with ⟨hc, ho⟩ | ⟨hc, ho, ha0⟩ | ⟨ap2, hc, ho⟩
  all_goals
    rw [hc, ho]
    rw [ho] at hk
    ((conv => whnf); repeat ((first | refine Br.t ?_ | refine Br.f ?_ | refine ob ?_ | refine ⟨_, rfl, ?_⟩ | refine ⟨_, _, rfl, ?_⟩ | refine ⟨_, _, _, rfl, ?_⟩ | refine ⟨_, _, _, _, rfl, ?_⟩); (conv => whnf)))
    refine ⟨x, y, m.rc, c, pa, by rw [hc, ho]; rfl, ha', hb, ⟨ap, by rw [ho]; rfl⟩, ?_⟩
    ((conv => whnf); repeat ((first | refine Br.t ?_ | refine Br.f ?_ | refine ob ?_ | refine ⟨_, rfl, ?_⟩ | refine ⟨_, _, rfl, ?_⟩ | refine ⟨_, _, _, rfl, ?_⟩ | refine ⟨_, _, _, _, rfl, ?_⟩); (conv => whnf)))
    exact hk
def Γ52 : Sems := ext 40 s40 Γ0
theorem Γ52.ok : SemsOK G Go.Proofs.Tryz.prog Γ52 := Γ0.ok.ext Go.Proofs.Tryz.func40 rfl (by decide) ok40
theorem ok52 : SenseOK G Go.Proofs.Tryz.prog 52 s32 := SenseOK.any Γ52.ok (fun _ => []) Go.Proofs.Tryz.func52 fun os xs K h => by
  obtain ⟨m, c, rfl, ha, hb, hk⟩ := h
  have ha' := ha
  rcases ha with ⟨hc, ho⟩ | ⟨hc, ho, ha0⟩ | ⟨ap2, hc, ho⟩
  all_goals
    rw [hc, ho]
    rw [ho] at hk
    ((conv => whnf); repeat ((first | refine Br.t ?_ | refine Br.f ?_ | refine ob ?_ | refine ⟨_, rfl, ?_⟩ | refine ⟨_, _, rfl, ?_⟩ | refine ⟨_, _, _, rfl, ?_⟩ | refine ⟨_, _, _, _, rfl, ?_⟩); (conv => whnf)))
    refine ⟨0, 1, m, c, os, by rw [hc, ho]; rfl, ha', hb, ⟨true, by rw [ho]; rfl⟩, ?_⟩
    ((conv => whnf); repeat ((first | refine Br.t ?_ | refine Br.f ?_ | refine ob ?_ | refine ⟨_, rfl, ?_⟩ | refine ⟨_, _, rfl, ?_⟩ | refine ⟨_, _, _, rfl, ?_⟩ | refine ⟨_, _, _, _, rfl, ?_⟩); (conv => whnf)))
    exact hk
end Go.Proofs.YtbhejifllgnliaaGreatDoor.Ab
namespace Go.Proofs.YtbhejifllgnliaaGreatDoor.Ab
open Go Go.RowKit Go.Proofs.YtbhejifllgnliaaGreatDoorW.PrintWords
set_option linter.unusedSimpArgs false
set_option linter.unusedVariables false
set_option maxRecDepth 100000
variable {G : World → Prop}
/-- The first j are changed. -/
def chg {α : Type} (f : α → α) (l : List α) (j : Nat) : List α := (l.take j).map f ++ l.drop j
theorem chg_all {α : Type} (f : α → α) (l : List α) : chg f l l.length = l.map f := by simp [chg]
theorem chg_len {α : Type} (f : α → α) (l : List α) (j : Nat) (h : j ≤ l.length) : (chg f l j).length = l.length := by simp [chg]; omega
theorem chg_at {α : Type} {f : α → α} {l : List α} {j : Nat} {x : α} (h : l[j]? = some x) : (chg f l j)[j]? = some x := by
  have h1 : j < l.length := (List.getElem?_eq_some_iff.1 h).1
  rw [chg, List.getElem?_append_right (by simp; omega)]
  simp [Nat.min_eq_left (Nat.le_of_lt h1), h]
theorem chg_set {α : Type} {f : α → α} {l : List α} {j : Nat} {x : α} (h : l[j]? = some x) : (chg f l j).set j (f x) = chg f l (j + 1) := by
  have h1 : j < l.length := (List.getElem?_eq_some_iff.1 h).1
  have h2 : l.drop j = x :: l.drop (j + 1) := by
    rw [List.drop_eq_getElem_cons h1]; congr 1
    exact Option.some.inj (by rw [← List.getElem?_eq_getElem h1, h])
  rw [chg, chg, h2, List.set_append_right _ _ (by simp; omega), List.take_add_one, h]
  simp [Nat.min_eq_left (Nat.le_of_lt h1)]
theorem chg_keep {α : Type} {f : α → α} {l : List α} {j : Nat} {x : α} (h : l[j]? = some x) (hx : f x = x) : chg f l j = chg f l (j + 1) := by
  have h1 : j < l.length := (List.getElem?_eq_some_iff.1 h).1
  rw [← chg_set h, hx]
  obtain ⟨h4, h5⟩ := List.getElem?_eq_some_iff.1 (chg_at (f := f) h)
  have h6 : (chg f l j).set j ((chg f l j)[j]'h4) = chg f l j := List.set_getElem_self h4
  rw [h5] at h6
  exact h6.symm
end Go.Proofs.YtbhejifllgnliaaGreatDoor.Ab
namespace Go.Proofs.YtbhejifllgnliaaGreatDoor.Ab
open Go Go.RowKit Go.Proofs.YtbhejifllgnliaaGreatDoorW.PrintWords
set_option linter.unusedSimpArgs false
set_option linter.unusedVariables false
set_option maxRecDepth 100000
variable {G : World → Prop}
/-- The panic of a reader that has too few bytes. -/
def panR : Out := .pan (.ifa 121 .i64 1)
def rdB (l : List Int) : List Ob := [.box 93 [.sl (.int .u8) l]]
def s120 : Sense := ⟨false, fun os xs K => ∃ (l : List Int) (n : Int), xs = [.one (.ref 0 0), .one (.int .i64 n)] ∧ os = rdB l ∧ 0 ≤ n ∧ (n ≤ l.length → K (rdB (l.drop n.toNat)) (.ret (.one (.sl (.int .u8) (l.take n.toNat))))) ∧ ((l.length : Int) < n → K (rdB l) panR)⟩
set_option maxHeartbeats 8000000 in
theorem ok120 : SenseOK G Go.Proofs.Tryz.prog 120 s120 := SenseOK.any Γ0.ok (fun _ => []) Go.Proofs.Tryz.func120 fun os xs K h => by
  obtain ⟨l, n, rfl, rfl, hn, hk, hp⟩ := h
  by_cases h1 : (l.length : Int) < n
  · have f1 : decide (n > l.length) = true := by simpa using h1
    ((conv => whnf); repeat ((first | refine Br.t ?_ | refine Br.f ?_ | refine ob ?_ | refine ⟨_, rfl, ?_⟩ | refine ⟨_, _, rfl, ?_⟩ | refine ⟨_, _, _, rfl, ?_⟩ | refine ⟨_, _, _, _, rfl, ?_⟩ | simp only [f1]); (conv => whnf)))
    exact hp h1
  · have f1 : decide (n > l.length) = false := by simpa using h1
    ((conv => whnf); repeat ((first | refine Br.t ?_ | refine Br.f ?_ | refine ob ?_ | refine ⟨_, rfl, ?_⟩ | refine ⟨_, _, rfl, ?_⟩ | refine ⟨_, _, _, rfl, ?_⟩ | refine ⟨_, _, _, _, rfl, ?_⟩ | simp only [f1]); (conv => whnf)))
    exact hk (by omega)
/-- Bytes. -/
def Byts (l : List Int) : Prop := ∀ x ∈ l, 0 ≤ x ∧ x < 256
theorem or_step {n c : Int} (h0 : 0 ≤ n) (h1 : n < 36028797018963968) (h2 : 0 ≤ c) (h3 : c < 256) :
    IntKind.i64.wrap ↑(BitVec.ofInt IntKind.i64.bits (IntKind.i64.wrap (n * 2 ^ (min (Int.toNat 8) IntKind.i64.bits))) ||| BitVec.ofInt IntKind.i64.bits (IntKind.i64.wrap c)).toNat = n * 256 + c := by
  obtain ⟨a, rfl⟩ := Int.eq_ofNat_of_zero_le h0
  obtain ⟨b, rfl⟩ := Int.eq_ofNat_of_zero_le h2
  have e1 : (2 : Int) ^ (min (Int.toNat 8) IntKind.i64.bits) = 256 := by decide
  have w1 : IntKind.i64.wrap ((a : Int) * 256) = a * 256 := IntWalk.i64_in _ (by omega)
  have w2 : IntKind.i64.wrap (b : Int) = b := IntWalk.i64_in _ (by omega)
  have w3 : IntKind.i64.wrap ((a : Int) * 256 + b) = a * 256 + b := IntWalk.i64_in _ (by omega)
  rw [e1, w1, w2]
  have h4 : b < 2 ^ 8 := by omega
  have e2 : (BitVec.ofInt IntKind.i64.bits ((a : Int) * 256) ||| BitVec.ofInt IntKind.i64.bits (b : Int)).toNat = a * 256 + b := by
    have e3 : (a : Int) * 256 = ((2 ^ 8 * a : Nat) : Int) := by push_cast; omega
    rw [e3, BitVec.toNat_or, BitVec.ofInt_natCast, BitVec.ofInt_natCast, BitVec.toNat_ofNat, BitVec.toNat_ofNat]
    have e4 : IntKind.i64.bits = 64 := rfl
    rw [e4, Nat.mod_eq_of_lt (by omega), Nat.mod_eq_of_lt (by omega), ← Nat.two_pow_add_eq_or_of_lt h4]
    omega
  rw [e2]
  push_cast
  exact w3
theorem val6_snoc (l : List Int) (c : Int) : ∀ n, val6 (l ++ [c]) n = val6 l n * 256 + c := by
  induction l with
  | nil => intro n; rfl
  | cons x l ih => intro n; exact ih _
theorem val6_bound {l : List Int} (hb : Byts l) : 0 ≤ val6 l 0 ∧ val6 l 0 < 256 ^ l.length := by
  suffices h : ∀ (l : List Int), Byts l → ∀ (n : Int) (k : Nat), 0 ≤ n → n < 256 ^ k → 0 ≤ val6 l n ∧ val6 l n < 256 ^ (k + l.length) by
    have := h l hb 0 0 (by decide) (by decide)
    rwa [Nat.zero_add] at this
  intro l
  induction l with
  | nil => intro _ n k h0 h1; exact ⟨h0, h1⟩
  | cons x l ih =>
    intro hb n k h0 h1
    have hx := hb x (by simp)
    have := ih (fun y hy => hb y (by simp [hy])) (n * 256 + x) (k + 1) (by omega) (by rw [Int.pow_succ]; omega)
    rw [List.length_cons, show k + (l.length + 1) = k + 1 + l.length by omega]
    exact this
def s100 : Sense := ⟨false, fun os xs K => ∃ (l : List Int), xs = [.one (.ref 0 0)] ∧ os = rdB l ∧ Byts l ∧ (∀ n l', rdN l = some (n, l') → K (rdB l') (.ret (.one (.int .i64 n)))) ∧ (rdN l = none → ∀ l', K (rdB l') panR)⟩
def Γ100 : Sems := ext 120 s120 Γ0
theorem Γ100.ok : SemsOK G Go.Proofs.Tryz.prog Γ100 := Γ0.ok.ext Go.Proofs.Tryz.func120 rfl (by decide) ok120
set_option maxHeartbeats 8000000 in
theorem ok100 : SenseOK G Go.Proofs.Tryz.prog 100 s100 := SenseOK.any Γ100.ok (fun _ => [2, 6, 7, 8]) Go.Proofs.Tryz.func100 fun os xs K h => by
  obtain ⟨l, rfl, rfl, hl, hk, hp⟩ := h
  ((conv => whnf); repeat ((first | refine Br.t ?_ | refine Br.f ?_ | refine ob ?_ | refine ⟨_, rfl, ?_⟩ | refine ⟨_, _, rfl, ?_⟩ | refine ⟨_, _, _, rfl, ?_⟩ | refine ⟨_, _, _, _, rfl, ?_⟩); (conv => whnf)))
  refine ⟨l, 6, rfl, rfl, by decide, fun h6 => ?_, fun h6 => ?_⟩
  · ((conv => whnf); repeat ((first | refine Br.t ?_ | refine Br.f ?_ | refine ob ?_ | refine ⟨_, rfl, ?_⟩ | refine ⟨_, _, rfl, ?_⟩ | refine ⟨_, _, _, rfl, ?_⟩ | refine ⟨_, _, _, _, rfl, ?_⟩); (conv => whnf)))
    have hk := hk _ _ (if_pos (show 6 ≤ l.length by omega))
    have hT : (l.take (Int.toNat 6)).length = 6 := by rw [List.length_take, show Int.toNat 6 = 6 from rfl]; omega
    have hD : rdB (l.drop 6) = [.box 93 [.sl (.int .u8) (l.drop (Int.toNat 6))]] := rfl
    have hV : val6 (l.take 6) 0 = val6 (l.take (Int.toNat 6)) 0 := rfl
    have hB : Byts (l.take (Int.toNat 6)) := fun x hx => hl x (List.mem_of_mem_take hx)
    rw [hD, hV] at hk
    generalize l.take (Int.toNat 6) = t at hT hk hB ⊢
    generalize l.drop (Int.toNat 6) = d at hk ⊢
    refine iter_of (I := fun k σ => ∃ (j : Nat), k = 6 - j ∧ j ≤ 6 ∧ σ = ⟨slots 19 [(2, .one (.int .i64 (val6 (t.take j) 0))), (6, .one (.sl (.int .u8) t)), (7, .one (.int .i64 t.length)), (8, .one (.int .i64 j))], [.box 93 [.sl (.int .u8) d]]⟩) ?_ 6 ⟨0, by omega, by omega, rfl⟩
    rintro k σ K' ⟨j, rfl, hj, rfl⟩ hK'
    have w1 := IntWalk.i64_in (↑j + 1) (by omega)
    by_cases h1 : j < 6
    case neg =>
      have f1 : decide ((j : Int) < t.length) = false := by simp; omega
      obtain rfl : j = 6 := by omega
      rw [List.take_of_length_le (by omega)]
      ((conv => whnf); repeat ((first | refine Br.t ?_ | refine Br.f ?_ | refine ob ?_ | refine ⟨_, rfl, ?_⟩ | refine ⟨_, _, rfl, ?_⟩ | refine ⟨_, _, _, rfl, ?_⟩ | refine ⟨_, _, _, _, rfl, ?_⟩ | simp only [f1]); (conv => whnf)))
      exact hk
    have f1 : decide ((j : Int) < t.length) = true := by simp; omega
    obtain ⟨x, hx⟩ : ∃ x, t[j]? = some x := ⟨_, List.getElem?_eq_getElem (by omega)⟩
    have rx := nth_of hx (Ty.int IntKind.u8).dflt
    ((conv => whnf); repeat ((first | refine Br.t ?_ | refine Br.f ?_ | refine ob ?_ | refine ⟨_, rfl, ?_⟩ | refine ⟨_, _, rfl, ?_⟩ | refine ⟨_, _, _, rfl, ?_⟩ | refine ⟨_, _, _, _, rfl, ?_⟩ | simp only [f1, w1]); (conv => whnf)))
    rw [rx]
    have hx2 := hB x (List.mem_of_getElem? hx)
    have hv := val6_bound (l := t.take j) (fun y hy => hB y (List.mem_of_mem_take hy))
    have hv2 : (256 ^ (t.take j).length : Nat) ≤ 256 ^ 5 := Nat.pow_le_pow_right (by decide) (by rw [List.length_take]; omega)
    have hv3 : (256 : Int) ^ (t.take j).length = ((256 ^ (t.take j).length : Nat) : Int) := by rw [Int.natCast_pow]; rfl
    rw [hv3] at hv
    generalize (256 ^ (t.take j).length : Nat) = q at hv hv2
    have ho := or_step hv.1 (by omega) hx2.1 hx2.2
    rw [ho]
    refine hK' _ _ (by omega) ⟨j + 1, rfl, by omega, ?_⟩
    rw [List.take_add_one, hx, Option.toList_some, val6_snoc]
    rfl
  · ((conv => whnf); repeat ((first | refine Br.t ?_ | refine Br.f ?_ | refine ob ?_ | refine ⟨_, rfl, ?_⟩ | refine ⟨_, _, rfl, ?_⟩ | refine ⟨_, _, _, rfl, ?_⟩ | refine ⟨_, _, _, _, rfl, ?_⟩); (conv => whnf)))
    exact hp (if_neg (by omega)) _
theorem byts_drop {l : List Int} (h : Byts l) (n : Nat) : Byts (l.drop n) := fun x hx => h x (List.mem_of_mem_drop hx)
theorem byts_take {l : List Int} (h : Byts l) (n : Nat) : Byts (l.take n) := fun x hx => h x (List.mem_of_mem_take hx)
theorem rdN_byts {l l' : List Int} {n : Int} (h : rdN l = some (n, l')) (hl : Byts l) : 0 ≤ n ∧ Byts l' := by
  unfold rdN at h
  split at h
  · cases h; exact ⟨(val6_bound (byts_take hl 6)).1, byts_drop hl 6⟩
  · cases h
def s102 : Sense := ⟨false, fun os xs K => ∃ (l : List Int), xs = [.one (.ref 0 0)] ∧ os = rdB l ∧ Byts l ∧ (∀ t l', rdT l = some (t, l') → K (rdB l') (.ret (.one (.str (strOfNums t))))) ∧ (rdT l = none → ∀ l', K (rdB l') panR)⟩
def Γ102 : Sems := ext 100 s100 Γ100
theorem Γ102.ok : SemsOK G Go.Proofs.Tryz.prog Γ102 := Γ100.ok.ext Go.Proofs.Tryz.func100 rfl (by decide) ok100
set_option maxHeartbeats 8000000 in
theorem ok102 : SenseOK G Go.Proofs.Tryz.prog 102 s102 := SenseOK.any Γ102.ok (fun _ => []) Go.Proofs.Tryz.func102 fun os xs K h => by
  obtain ⟨l, rfl, rfl, hl, hk, hp⟩ := h
  ((conv => whnf); repeat ((first | refine Br.t ?_ | refine Br.f ?_ | refine ob ?_ | refine ⟨_, rfl, ?_⟩ | refine ⟨_, _, rfl, ?_⟩ | refine ⟨_, _, _, rfl, ?_⟩ | refine ⟨_, _, _, _, rfl, ?_⟩); (conv => whnf)))
  refine ⟨l, rfl, rfl, hl, fun n l1 hn => ?_, fun hn l1 => ?_⟩
  · ((conv => whnf); repeat ((first | refine Br.t ?_ | refine Br.f ?_ | refine ob ?_ | refine ⟨_, rfl, ?_⟩ | refine ⟨_, _, rfl, ?_⟩ | refine ⟨_, _, _, rfl, ?_⟩ | refine ⟨_, _, _, _, rfl, ?_⟩); (conv => whnf)))
    refine ⟨l1, n, rfl, rfl, (rdN_byts hn hl).1, fun h7 => ?_, fun h7 => ?_⟩
    · ((conv => whnf); repeat ((first | refine Br.t ?_ | refine Br.f ?_ | refine ob ?_ | refine ⟨_, rfl, ?_⟩ | refine ⟨_, _, rfl, ?_⟩ | refine ⟨_, _, _, rfl, ?_⟩ | refine ⟨_, _, _, _, rfl, ?_⟩); (conv => whnf)))
      exact hk _ _ (by rw [rdT, hn]; exact if_pos h7)
    · ((conv => whnf); repeat ((first | refine Br.t ?_ | refine Br.f ?_ | refine ob ?_ | refine ⟨_, rfl, ?_⟩ | refine ⟨_, _, rfl, ?_⟩ | refine ⟨_, _, _, rfl, ?_⟩ | refine ⟨_, _, _, _, rfl, ?_⟩); (conv => whnf)))
      exact hp (by rw [rdT, hn]; exact if_neg (by simpa using h7)) _
  · ((conv => whnf); repeat ((first | refine Br.t ?_ | refine Br.f ?_ | refine ob ?_ | refine ⟨_, rfl, ?_⟩ | refine ⟨_, _, rfl, ?_⟩ | refine ⟨_, _, _, rfl, ?_⟩ | refine ⟨_, _, _, _, rfl, ?_⟩); (conv => whnf)))
    exact hp (by rw [rdT, hn]; rfl) _
theorem rdT_some {l t l' : List Int} (h : rdT l = some (t, l')) : ∃ k m, t = (l.drop k).take m ∧ l' = l.drop m ∨ ∃ k m, t = (l.drop k).take m ∧ l' = (l.drop k).drop m := by
  unfold rdT at h
  cases hn : rdN l with
  | none => rw [hn] at h; cases h
  | some x =>
    rw [hn] at h
    simp only [Option.bind_some] at h
    split at h
    · unfold rdN at hn
      split at hn
      · cases hn; cases h
        exact ⟨0, 0, .inr ⟨6, _, rfl, rfl⟩⟩
      · cases hn
    · cases h
theorem rdT_byts {l t l' : List Int} (h : rdT l = some (t, l')) (hl : Byts l) : Byts t ∧ Byts l' := by
  obtain ⟨k, m, h | ⟨k, m, h⟩⟩ := rdT_some h
  · exact ⟨h.1 ▸ byts_take (byts_drop hl _) _, h.2 ▸ byts_drop hl _⟩
  · exact ⟨h.1 ▸ byts_take (byts_drop hl _) _, h.2 ▸ byts_drop (byts_drop hl _) _⟩
def rdX (l : List Int) : Option ((List Int × List Int) × List Int) := (rdT l).bind fun a => (rdT a.2).bind fun b => some ((a.1, b.1), b.2)
def s101 : Sense := ⟨false, fun os xs K => ∃ (l : List Int), xs = [.one (.ref 0 0)] ∧ os = rdB l ∧ Byts l ∧ (∀ a b l', rdX l = some ((a, b), l') → K (rdB l') (.ret (.agg [.str (strOfNums a), .str (strOfNums b)]))) ∧ (rdX l = none → ∀ l', K (rdB l') panR)⟩
def Γ101 : Sems := ext 102 s102 Γ0
theorem Γ101.ok : SemsOK G Go.Proofs.Tryz.prog Γ101 := Γ0.ok.ext Go.Proofs.Tryz.func102 rfl (by decide) ok102
set_option maxHeartbeats 8000000 in
theorem ok101 : SenseOK G Go.Proofs.Tryz.prog 101 s101 := SenseOK.any Γ101.ok (fun _ => []) Go.Proofs.Tryz.func101 fun os xs K h => by
  obtain ⟨l, rfl, rfl, hl, hk, hp⟩ := h
  ((conv => whnf); repeat ((first | refine Br.t ?_ | refine Br.f ?_ | refine ob ?_ | refine ⟨_, rfl, ?_⟩ | refine ⟨_, _, rfl, ?_⟩ | refine ⟨_, _, _, rfl, ?_⟩ | refine ⟨_, _, _, _, rfl, ?_⟩); (conv => whnf)))
  refine ⟨l, rfl, rfl, hl, fun a l1 h1 => ?_, fun h1 l1 => ?_⟩
  · ((conv => whnf); repeat ((first | refine Br.t ?_ | refine Br.f ?_ | refine ob ?_ | refine ⟨_, rfl, ?_⟩ | refine ⟨_, _, rfl, ?_⟩ | refine ⟨_, _, _, rfl, ?_⟩ | refine ⟨_, _, _, _, rfl, ?_⟩); (conv => whnf)))
    refine ⟨l1, rfl, rfl, (rdT_byts h1 hl).2, fun b l2 h2 => ?_, fun h2 l2 => ?_⟩
    · ((conv => whnf); repeat ((first | refine Br.t ?_ | refine Br.f ?_ | refine ob ?_ | refine ⟨_, rfl, ?_⟩ | refine ⟨_, _, rfl, ?_⟩ | refine ⟨_, _, _, rfl, ?_⟩ | refine ⟨_, _, _, _, rfl, ?_⟩); (conv => whnf)))
      exact hk _ _ _ (by rw [rdX, h1, Option.bind_some]; show (rdT l1).bind _ = _; rw [h2]; rfl)
    · ((conv => whnf); repeat ((first | refine Br.t ?_ | refine Br.f ?_ | refine ob ?_ | refine ⟨_, rfl, ?_⟩ | refine ⟨_, _, rfl, ?_⟩ | refine ⟨_, _, _, rfl, ?_⟩ | refine ⟨_, _, _, _, rfl, ?_⟩); (conv => whnf)))
      exact hp (by rw [rdX, h1, Option.bind_some]; show (rdT l1).bind _ = _; rw [h2]; rfl) _
  · ((conv => whnf); repeat ((first | refine Br.t ?_ | refine Br.f ?_ | refine ob ?_ | refine ⟨_, rfl, ?_⟩ | refine ⟨_, _, rfl, ?_⟩ | refine ⟨_, _, _, rfl, ?_⟩ | refine ⟨_, _, _, _, rfl, ?_⟩); (conv => whnf)))
    exact hp (by rw [rdX, h1]; rfl) _
end Go.Proofs.YtbhejifllgnliaaGreatDoor.Ab
namespace Go.Proofs.YtbhejifllgnliaaGreatDoor.Ab
open Go Go.RowKit Go.Proofs.YtbhejifllgnliaaGreatDoorW.PrintWords
set_option linter.unusedSimpArgs false
set_option linter.unusedVariables false
set_option maxRecDepth 100000
theorem own : ownKnob Tryz.prog.godebug = none := by kernel_rfl
theorem laidOut : laidOutB Tryz.prog = true := by kernel_rfl
/-- A world that meets the condition: the door's own, and the one table that is pinned. -/
noncomputable def laidWorld (os : Os) : World :=
  { World.doorLaid Tryz.prog 400 os with heap := (World.doorLaid Tryz.prog 400 os).heap.modify 3 fun
      | .cells _ t frozen => .cells (Go.Pinned.utf8FirstZ.map fun z => Value.int .u8 (Int.ofNat z)).toArray t frozen
      | o => o }
theorem door_met (os : Os) (args : Array Value) : laidMetH Tryz.prog laidL ((laidWorld os).forCall (fun _ _ => 0) ⟨#[], args, []⟩).memory := by
  rw [MakeChecks.laidMetH_plain _ _ _ (by kernel_rfl)]
  exact laidMet_of_run' 8 (by kernel_rfl) (by kernel_rfl)
end Go.Proofs.YtbhejifllgnliaaGreatDoor.Ab
namespace Go.Proofs.YtbhejifllgnliaaGreatDoor.Ab
open Go Go.RowKit Go.Proofs.YtbhejifllgnliaaGreatDoorW.PrintWords
set_option linter.unusedSimpArgs false
set_option linter.unusedVariables false
theorem bulk_one {H : Type} (d : DataW H) : 1 ≤ Rows.uptoBulk d := by
  cases d with
  | lit l => cases l <;> simp [Rows.uptoBulk]
  | nil => simp [Rows.uptoBulk]
  | ptr d => simp [Rows.uptoBulk]
  | slice elems spare => simp [Rows.uptoBulk]
  | agg parts => simp [Rows.uptoBulk]
  | iface t d => simp [Rows.uptoBulk]
  | map entries => simp [Rows.uptoBulk]
  | held h => simp [Rows.uptoBulk]
theorem bulk_part {H : Type} {d : DataW H} {l : List (DataW H)} (h : d ∈ l) : Rows.uptoBulk d ≤ Rows.uptoBulkAll l := by
  induction l with
  | nil => cases h
  | cons x r ih =>
    simp only [Rows.uptoBulkAll]
    cases List.mem_cons.1 h with
    | inl e => subst e; omega
    | inr e => have := ih e; omega
theorem bulk_len {H : Type} (l : List (DataW H)) : l.length ≤ Rows.uptoBulkAll l := by
  induction l with
  | nil => simp [Rows.uptoBulkAll]
  | cons x r ih => have := bulk_one x; simp only [Rows.uptoBulkAll, List.length_cons]; omega
/-- What came in as_ a value of type t is of the kind d, and of the form wf, if its bulk is at most B. -/
structure OpnB (P : Program) (B : Nat) (t : TypeId) (d : Ty) (wf : d.den → Prop) : Prop where
  cells : P.cellsOf t = d.sz
  op : ∀ {H : Type} {enc : TypeId × Value → H} {w : World} {base : Nat} {spare : Nat → Bool} {fuel : Nat} {cs : List Value} {D : DataW H} {ps : List MemPlace},
    DataW.trod enc P w base spare true fuel t cs = some (D, ps) → (∀ n ∈ D.weights P t, n ≤ reachBytes) → Rows.uptoBulk D ≤ B → ∃ x, TRep w (· < w.heap.size) d x cs ∧ wf x
theorem OpnB.imp {P : Program} {B : Nat} {t : TypeId} {d : Ty} {wf wf' : d.den → Prop} (h : OpnB P B t d wf) (hi : ∀ x, wf x → wf' x) : OpnB P B t d wf' :=
  ⟨h.cells, fun ht hw hb => let ⟨x, hk, hx⟩ := h.op ht hw hb; ⟨x, hk, hi x hx⟩⟩
theorem Opn.b {P : Program} {B : Nat} {t : TypeId} {d : Ty} {wf : d.den → Prop} (h : Opn P t d wf) : OpnB P B t d wf := ⟨h.cells, fun ht hw _ => h.op ht hw⟩
theorem OpnB.string {P : Program} {B : Nat} {t : TypeId} (hc : P.cellsOf t = 1) (hu : P.underlying t = some .string) : OpnB P B t .str (fun x => x.size ≤ B) :=
  ⟨hc, fun ht hw hb => by
    obtain ⟨s, rfl, hx, _⟩ := DataW.trod_string hu ht
    obtain ⟨rfl, rfl⟩ := Prod.mk.inj hx
    refine ⟨s, rfl, ?_⟩
    simp only [Rows.uptoBulk, Array.length_toList] at hb
    show s.data.size ≤ B
    omega⟩
theorem OpnB.slice {P : Program} {B : Nat} {t e : TypeId} {d : Ty} {wf : d.den → Prop} (hc : P.cellsOf t = 1) (hu : P.underlying t = some (.slice e)) (he : OpnB P B e d wf) :
    OpnB P B t (.slice e d) (fun xs => xs.length ≤ B ∧ ∀ x ∈ xs, wf x) :=
  ⟨hc, by
    intro H enc w base spare fuel cs D ps ht hw hbk
    rcases Go.Deep.open_slice hu ht with ⟨rfl, hx⟩ | ⟨a, len, cap, m, n, Dd, Pl, rfl, _, hl, hm, hmm, hx, hi⟩
    · exact ⟨[], ⟨none, 0, rfl, Nat.le_refl _, by simp, fun h => absurd h (by simp)⟩, by simp, fun x h => by simp at h⟩
    · obtain ⟨rfl, rfl⟩ := Prod.mk.inj hx
      have hlm : len ≤ m := by rw [hmm]; split <;> omega
      have hwt : ∀ i, i < len → ∀ k ∈ (Dd i).weights P e, k ≤ reachBytes := by
        intro i hil k hk
        refine hw k ?_
        simp only [DataW.weights, hu]
        refine List.mem_cons_of_mem _ (List.mem_append_left _ ?_)
        have : ∀ (l : List (DataW H)) (z : DataW H), z ∈ l → ∀ k ∈ z.weights P e, k ∈ DataW.weightsAll P e l := by
          intro l z hz
          induction l with
          | nil => simp at hz
          | cons y l ih =>
            intro k hk
            simp only [DataW.weightsAll, List.mem_append]
            rcases List.mem_cons.1 hz with rfl | hz
            · exact Or.inl hk
            · exact Or.inr (ih hz k hk)
        exact this _ (Dd i) (List.mem_map.2 ⟨i, List.mem_range.2 hil, rfl⟩) k hk
      have hbe : Rows.uptoBulkAll ((List.range len).map Dd) ≤ B := by
        simp only [Rows.uptoBulk] at hbk
        omega
      obtain ⟨xs, hxl, hxs⟩ := all_lt (Q := fun i x => (∃ c, c.length = d.sz ∧ TRep w (· < w.heap.size) d x c ∧ ∀ j u, c[j]? = some u → w.cell? (a.add (i * d.sz + j)) = some u) ∧ wf x) len (by
        intro i hil
        obtain ⟨cs', h1, h2⟩ := hi i (by omega)
        obtain ⟨x, hk, hx⟩ := he.op h2 (hwt i hil) (Nat.le_trans (bulk_part (List.mem_map.2 ⟨i, List.mem_range.2 hil, rfl⟩)) hbe)
        obtain ⟨_, hlen, hcell⟩ := World.cells?_some h1
        refine ⟨x, ⟨cs', by rw [hlen, he.cells], hk, fun j u hj => ?_⟩, hx⟩
        have hjl : j < P.cellsOf e := by rw [← hlen]; exact (List.getElem?_eq_some_iff.1 hj).1
        have := hcell j hjl
        rw [hj] at this
        rw [← this, ← he.cells]
        rw [Go.Addr.add_add])
      subst hxl
      refine ⟨xs, ⟨some a, cap, rfl, hl, ?_, fun hp => ⟨a, rfl, ?_, fun j x hj => (hxs j x hj).1⟩⟩, ?_, fun x hx => ?_⟩
      · simp only [maxLen] at hm; omega
      · obtain ⟨⟨c, hcl, hT, hc⟩, _⟩ := hxs 0 xs[0] (List.getElem?_eq_getElem hp)
        have := Ty.sz_pos d
        have h0 := hc 0 c[0] (List.getElem?_eq_getElem (by omega))
        have := World.block_lt_of_cell? w _ h0
        rwa [add_block'] at this
      · have := bulk_len ((List.range xs.length).map Dd)
        simp only [List.length_map, List.length_range] at this
        omega
      · obtain ⟨i, hil, rfl⟩ := List.mem_iff_getElem.1 hx
        exact (hxs i _ (List.getElem?_eq_getElem hil)).2⟩
/-- The same of fields that lie one behind the other from off on. -/
structure OpnBs (P : Program) (B : Nat) (fs : List Field) (off : Nat) (d : Ty) (wf : d.den → Prop) : Prop where
  op : ∀ {H : Type} {enc : TypeId × Value → H} {w : World} {base : Nat} {spare : Nat → Bool} {n : Nat} {cs : List Value} (ys : List (DataW H × List MemPlace)),
    (∀ (i : Nat) (f : Field), fs[i]? = some f → DataW.trod enc P w base spare true n f.type ((cs.drop f.offset).take (P.cellsOf f.type)) = ys[i]?) → ys.length = fs.length →
    (∀ k ∈ DataW.weightsEach P (fs.map (·.type)) (ys.map (·.1)), k ≤ reachBytes) → Rows.uptoBulkAll (ys.map (·.1)) ≤ B → ∃ x, TRep w (· < w.heap.size) d x ((cs.drop off).take d.sz) ∧ wf x
theorem OpnBs.one {P : Program} {B : Nat} {f : Field} {off : Nat} {d : Ty} {wf : d.den → Prop} (h : OpnB P B f.type d wf) (ho : f.offset = off) : OpnBs P B [f] off d wf :=
  ⟨by
    intro H enc w base spare n cs ys hy hl hw hbk
    match ys, hl with
    | [y], _ =>
      have h0 := hy 0 f rfl
      simp only [List.getElem?_cons_zero] at h0
      obtain ⟨x, hk, hx⟩ := h.op (D := y.1) (ps := y.2) h0 (fun k hk => hw k (by simp [DataW.weightsEach, hk])) (by simp only [List.map_cons, Rows.uptoBulkAll] at hbk; omega)
      rw [h.cells, ho] at hk
      exact ⟨x, hk, hx⟩⟩
theorem OpnBs.cons {P : Program} {B : Nat} {f : Field} {fs : List Field} {off : Nat} {a b : Ty} {wa : a.den → Prop} {wb : b.den → Prop} (h : OpnB P B f.type a wa) (ho : f.offset = off) (hr : OpnBs P B fs (off + a.sz) b wb) :
    OpnBs P B (f :: fs) off (.pair a b) (fun x => wa x.1 ∧ wb x.2) :=
  ⟨by
    intro H enc w base spare n cs ys hy hl hw hbk
    match ys, hl with
    | y :: ys, hl =>
      have h0 := hy 0 f rfl
      simp only [List.getElem?_cons_zero] at h0
      obtain ⟨x, hk, hx⟩ := h.op (D := y.1) (ps := y.2) h0 (fun k hk => hw k (by simp [DataW.weightsEach, hk])) (by simp only [List.map_cons, Rows.uptoBulkAll] at hbk; omega)
      obtain ⟨z, hkz, hz⟩ := hr.op ys (fun i g hg => by simpa using hy (i + 1) g (by simpa using hg)) (by simpa using hl) (fun k hk => hw k (by simp only [List.map_cons, DataW.weightsEach, List.mem_append]; exact Or.inr hk)) (by simp only [List.map_cons, Rows.uptoBulkAll] at hbk; omega)
      rw [h.cells, ho] at hk
      refine ⟨(x, z), ⟨_, _, ?_, hk, hkz⟩, hx, hz⟩
      show (cs.drop off).take (a.sz + b.sz) = _
      rw [List.take_add, List.drop_drop]⟩
theorem OpnB.struct {P : Program} {B : Nat} {t : TypeId} {fs : Array Field} {d : Ty} {wf : d.den → Prop} (hc : P.cellsOf t = d.sz) (hu : P.underlying t = some (.struct fs)) (hf : OpnBs P B fs.toList 0 d wf) : OpnB P B t d wf :=
  ⟨hc, by
    intro H enc w base spare fuel cs D ps ht hw hbk
    obtain ⟨xs, n, _, hx, hl, hlen, hy⟩ := DataW.trod_struct hu ht
    obtain ⟨rfl, rfl⟩ := Prod.mk.inj hx
    obtain ⟨x, hk, hx⟩ := hf.op xs (fun i f hi => hy i f (by simpa using hi)) (by simpa using hlen) (fun k hk => hw k (by simp only [DataW.weights, hu]; exact hk)) (by simp only [Rows.uptoBulk] at hbk; omega)
    rw [List.drop_zero, ← hc, ← hl, List.take_length] at hk
    exact ⟨x, hk, hx⟩⟩
end Go.Proofs.YtbhejifllgnliaaGreatDoor.Ab
namespace Go.Proofs.YtbhejifllgnliaaGreatDoor.Ab
open Go Go.RowKit Go.Proofs.YtbhejifllgnliaaGreatDoorW.PrintWords
set_option linter.unusedSimpArgs false
set_option linter.unusedVariables false
set_option maxRecDepth 100000
variable {G : World → Prop}
theorem rdM_eq (l : List Int) : rdM l = (rdN l).bind fun a => (rdN a.2).bind fun b => (rdN b.2).bind fun c => (rdN c.2).bind fun d => (rdN d.2).bind fun e => (rdN e.2).bind fun f => (rdN f.2).bind fun g =>
    (rdX g.2).bind fun h => (rdRs (min g.1 8).toNat h.2).bind fun j => (rdT j.2).bind fun k =>
    some (⟨a.1, b.1, decide (c.1 = 1), h.1.1, h.1.2, j.1, k.1, f.1, decide (d.1 = 1), decide (e.1 = 1)⟩, k.2) := by
  simp only [rdM, rdX, Option.bind_assoc, Option.bind_some]
theorem rdR_eq (l : List Int) : rdR l = (rdX l).bind fun h => (rdN h.2).bind fun c => (rdN c.2).bind fun d => (rdN d.2).bind fun e => (rdN e.2).bind fun f => some (⟨h.1.1, h.1.2, c.1, d.1, e.1, f.1⟩, f.2) := by
  simp only [rdR, rdX, Option.bind_assoc, Option.bind_some]
theorem rdX_byts {l a b l' : List Int} (h : rdX l = some ((a, b), l')) (hl : Byts l) : Byts l' := by
  unfold rdX at h
  cases h1 : rdT l with
  | none => rw [h1] at h; cases h
  | some x =>
    rw [h1, Option.bind_some] at h
    cases h2 : rdT x.2 with
    | none => rw [h2] at h; cases h
    | some y =>
      rw [h2, Option.bind_some] at h
      cases h
      exact (rdT_byts h2 (rdT_byts (l' := x.2) h1 hl).2).2
/-- A recipient, out of what was read. -/
def rcMk (r : Rc) : RT.den := ((strOfNums r.bl_, strOfNums r.bd), (r.st, (r.at_, (r.nx, r.co))))
def mdMk (m : Ml) : Md := ⟨m.id, m.te, m.nul, strOfNums m.fl, strOfNums m.fd, m.rc.map rcMk, strOfNums m.body, m.born, m.held, m.told⟩
def s73 : Sense := ⟨false, fun os xs K => ∃ (l : List Int), xs = [.one (.ref 0 0)] ∧ os = rdB l ∧ Byts l ∧
  (∀ m l', rdM l = some (m, l') → m.rc = [] → K (rdB l') (.ret (.agg ((mdMk m).cs .nil)))) ∧
  (∀ m l', rdM l = some (m, l') → m.rc ≠ [] → ∀ mv, K (rdB l' ++ [.own 45 RT (mdMk m).rc true mv]) (.ret (.agg ((mdMk m).cs (.own 1))))) ∧
  (rdM l = none → ∀ l', K (rdB l') panR)⟩
def Γ73 : Sems := ext 102 s102 (ext 101 s101 (ext 100 s100 Γ0))
theorem Γ73.ok : SemsOK G Go.Proofs.Tryz.prog Γ73 := ((Γ0.ok.ext Go.Proofs.Tryz.func100 rfl (by decide) ok100).ext Go.Proofs.Tryz.func101 rfl (by decide) ok101).ext Go.Proofs.Tryz.func102 rfl (by decide) ok102
set_option maxHeartbeats 16000000 in
theorem ok73 : SenseOK G Go.Proofs.Tryz.prog 73 s73 := SenseOK.any Γ73.ok (fun _ => [0, 2, 32, 33]) Go.Proofs.Tryz.func73 fun os xs K h => by
  obtain ⟨l0, rfl, rfl, b0, hk0, hk1, hp⟩ := h
  have hq := rdM_eq l0
  ((conv => whnf); repeat ((first | refine Br.t ?_ | refine Br.f ?_ | refine ob ?_ | refine ⟨_, rfl, ?_⟩ | refine ⟨_, _, rfl, ?_⟩ | refine ⟨_, _, _, rfl, ?_⟩ | refine ⟨_, _, _, _, rfl, ?_⟩); (conv => whnf)))
  refine ⟨l0, rfl, rfl, b0, fun n1 l1 h1 => ?_, fun h1 l1 => ?_⟩
  rotate_left
  · ((conv => whnf); repeat ((first | refine Br.t ?_ | refine Br.f ?_ | refine ob ?_ | refine ⟨_, rfl, ?_⟩ | refine ⟨_, _, rfl, ?_⟩ | refine ⟨_, _, _, rfl, ?_⟩ | refine ⟨_, _, _, _, rfl, ?_⟩); (conv => whnf)))
    exact hp (by simp only [hq, Option.bind_some, h1, Option.bind_none]) _
  have b1 := (rdN_byts h1 b0).2
  ((conv => whnf); repeat ((first | refine Br.t ?_ | refine Br.f ?_ | refine ob ?_ | refine ⟨_, rfl, ?_⟩ | refine ⟨_, _, rfl, ?_⟩ | refine ⟨_, _, _, rfl, ?_⟩ | refine ⟨_, _, _, _, rfl, ?_⟩); (conv => whnf)))
  refine ⟨l1, rfl, rfl, b1, fun n2 l2 h2 => ?_, fun h2 l2 => ?_⟩
  rotate_left
  · ((conv => whnf); repeat ((first | refine Br.t ?_ | refine Br.f ?_ | refine ob ?_ | refine ⟨_, rfl, ?_⟩ | refine ⟨_, _, rfl, ?_⟩ | refine ⟨_, _, _, rfl, ?_⟩ | refine ⟨_, _, _, _, rfl, ?_⟩); (conv => whnf)))
    exact hp (by simp only [hq, h1, Option.bind_some, h2, Option.bind_none]) _
  have b2 := (rdN_byts h2 b1).2
  ((conv => whnf); repeat ((first | refine Br.t ?_ | refine Br.f ?_ | refine ob ?_ | refine ⟨_, rfl, ?_⟩ | refine ⟨_, _, rfl, ?_⟩ | refine ⟨_, _, _, rfl, ?_⟩ | refine ⟨_, _, _, _, rfl, ?_⟩); (conv => whnf)))
  refine ⟨l2, rfl, rfl, b2, fun n3 l3 h3 => ?_, fun h3 l3 => ?_⟩
  rotate_left
  · ((conv => whnf); repeat ((first | refine Br.t ?_ | refine Br.f ?_ | refine ob ?_ | refine ⟨_, rfl, ?_⟩ | refine ⟨_, _, rfl, ?_⟩ | refine ⟨_, _, _, rfl, ?_⟩ | refine ⟨_, _, _, _, rfl, ?_⟩); (conv => whnf)))
    exact hp (by simp only [hq, h1, h2, Option.bind_some, h3, Option.bind_none]) _
  have b3 := (rdN_byts h3 b2).2
  ((conv => whnf); repeat ((first | refine Br.t ?_ | refine Br.f ?_ | refine ob ?_ | refine ⟨_, rfl, ?_⟩ | refine ⟨_, _, rfl, ?_⟩ | refine ⟨_, _, _, rfl, ?_⟩ | refine ⟨_, _, _, _, rfl, ?_⟩); (conv => whnf)))
  refine ⟨l3, rfl, rfl, b3, fun n4 l4 h4 => ?_, fun h4 l4 => ?_⟩
  rotate_left
  · ((conv => whnf); repeat ((first | refine Br.t ?_ | refine Br.f ?_ | refine ob ?_ | refine ⟨_, rfl, ?_⟩ | refine ⟨_, _, rfl, ?_⟩ | refine ⟨_, _, _, rfl, ?_⟩ | refine ⟨_, _, _, _, rfl, ?_⟩); (conv => whnf)))
    exact hp (by simp only [hq, h1, h2, h3, Option.bind_some, h4, Option.bind_none]) _
  have b4 := (rdN_byts h4 b3).2
  ((conv => whnf); repeat ((first | refine Br.t ?_ | refine Br.f ?_ | refine ob ?_ | refine ⟨_, rfl, ?_⟩ | refine ⟨_, _, rfl, ?_⟩ | refine ⟨_, _, _, rfl, ?_⟩ | refine ⟨_, _, _, _, rfl, ?_⟩); (conv => whnf)))
  refine ⟨l4, rfl, rfl, b4, fun n5 l5 h5 => ?_, fun h5 l5 => ?_⟩
  rotate_left
  · ((conv => whnf); repeat ((first | refine Br.t ?_ | refine Br.f ?_ | refine ob ?_ | refine ⟨_, rfl, ?_⟩ | refine ⟨_, _, rfl, ?_⟩ | refine ⟨_, _, _, rfl, ?_⟩ | refine ⟨_, _, _, _, rfl, ?_⟩); (conv => whnf)))
    exact hp (by simp only [hq, h1, h2, h3, h4, Option.bind_some, h5, Option.bind_none]) _
  have b5 := (rdN_byts h5 b4).2
  ((conv => whnf); repeat ((first | refine Br.t ?_ | refine Br.f ?_ | refine ob ?_ | refine ⟨_, rfl, ?_⟩ | refine ⟨_, _, rfl, ?_⟩ | refine ⟨_, _, _, rfl, ?_⟩ | refine ⟨_, _, _, _, rfl, ?_⟩); (conv => whnf)))
  refine ⟨l5, rfl, rfl, b5, fun n6 l6 h6 => ?_, fun h6 l6 => ?_⟩
  rotate_left
  · ((conv => whnf); repeat ((first | refine Br.t ?_ | refine Br.f ?_ | refine ob ?_ | refine ⟨_, rfl, ?_⟩ | refine ⟨_, _, rfl, ?_⟩ | refine ⟨_, _, _, rfl, ?_⟩ | refine ⟨_, _, _, _, rfl, ?_⟩); (conv => whnf)))
    exact hp (by simp only [hq, h1, h2, h3, h4, h5, Option.bind_some, h6, Option.bind_none]) _
  have b6 := (rdN_byts h6 b5).2
  ((conv => whnf); repeat ((first | refine Br.t ?_ | refine Br.f ?_ | refine ob ?_ | refine ⟨_, rfl, ?_⟩ | refine ⟨_, _, rfl, ?_⟩ | refine ⟨_, _, _, rfl, ?_⟩ | refine ⟨_, _, _, _, rfl, ?_⟩); (conv => whnf)))
  refine ⟨l6, rfl, rfl, b6, fun n7 l7 h7 => ?_, fun h7 l7 => ?_⟩
  rotate_left
  · ((conv => whnf); repeat ((first | refine Br.t ?_ | refine Br.f ?_ | refine ob ?_ | refine ⟨_, rfl, ?_⟩ | refine ⟨_, _, rfl, ?_⟩ | refine ⟨_, _, _, rfl, ?_⟩ | refine ⟨_, _, _, _, rfl, ?_⟩); (conv => whnf)))
    exact hp (by simp only [hq, h1, h2, h3, h4, h5, h6, Option.bind_some, h7, Option.bind_none]) _
  have b7 := (rdN_byts h7 b6).2
  ((conv => whnf); repeat ((first | refine Br.t ?_ | refine Br.f ?_ | refine ob ?_ | refine ⟨_, rfl, ?_⟩ | refine ⟨_, _, rfl, ?_⟩ | refine ⟨_, _, _, rfl, ?_⟩ | refine ⟨_, _, _, _, rfl, ?_⟩); (conv => whnf)))
  refine ⟨l7, rfl, rfl, b7, fun fl fd l8 h8 => ?_, fun h8 l8 => ?_⟩
  rotate_left
  · ((conv => whnf); repeat ((first | refine Br.t ?_ | refine Br.f ?_ | refine ob ?_ | refine ⟨_, rfl, ?_⟩ | refine ⟨_, _, rfl, ?_⟩ | refine ⟨_, _, _, rfl, ?_⟩ | refine ⟨_, _, _, _, rfl, ?_⟩); (conv => whnf)))
    exact hp (by simp only [hq, h1, h2, h3, h4, h5, h6, h7, Option.bind_some, h8, Option.bind_none]) _
  have b8 := rdX_byts h8 b7
  simp only [h1, h2, h3, h4, h5, h6, h7, h8, Option.bind_some] at hq
  ((conv => whnf); repeat ((first | refine Br.t ?_ | refine Br.f ?_ | refine ob ?_ | refine ⟨_, rfl, ?_⟩ | refine ⟨_, _, rfl, ?_⟩ | refine ⟨_, _, _, rfl, ?_⟩ | refine ⟨_, _, _, _, rfl, ?_⟩); (conv => whnf)))
  have hN : ((min n7 8).toNat : Int) = (if 8 < n7 then (8 : Int) else n7) := by
    have := (rdN_byts h7 b6).1
    split <;> omega
  generalize hNN : (min n7 8).toNat = N at hq hN
  generalize hMM : (if 8 < n7 then (8 : Int) else n7) = M7 at hN ⊢
  refine iter_of (I := fun k σ => ∃ (rs : List Rc) (lj : List Int), k = N - rs.length ∧ rs.length ≤ N ∧ Byts lj ∧ rdRs N l8 = (rdRs (N - rs.length) lj).map (fun x => (rs ++ x.1, x.2)) ∧
    ((rs = [] ∧ σ = ⟨slots 61 [(0, .one (.ref 0 0)), (2, .one (.ref 1 0)), (32, .one (.int .i64 M7)), (33, .one (.int .i64 rs.length))], rdB lj ++ [.box 27 (Md.cs ⟨n1, n2, n3 == 1, strOfNums fl, strOfNums fd, [], ByteArray.empty, n6, n4 == 1, n5 == 1⟩ .nil)]⟩) ∨
     (rs ≠ [] ∧ ∃ mv, σ = ⟨slots 61 [(0, .one (.ref 0 0)), (2, .one (.ref 1 0)), (32, .one (.int .i64 M7)), (33, .one (.int .i64 rs.length))], rdB lj ++ [.box 27 (Md.cs ⟨n1, n2, n3 == 1, strOfNums fl, strOfNums fd, [], ByteArray.empty, n6, n4 == 1, n5 == 1⟩ (.own 2)), .own 45 RT (rs.map rcMk) true mv]⟩))) ?_ N ⟨[], l8, by simp, by simp, b8, by simp, .inl ⟨rfl, rfl⟩⟩
  rintro k σ K' ⟨rs, lj, rfl, hj, bj, hrs, hσ⟩ hK'
  have w1 := IntWalk.i64_in ((rs.length : Int) + 1) (by omega)
  by_cases hlt : rs.length < N
  case neg =>
    have f1 : decide ((rs.length : Int) < M7) = false := by simp; omega
    have hE : rs.length = N := by omega
    rw [hE, Nat.sub_self] at hrs
    simp only [rdRs, Option.map_some, List.append_nil] at hrs
    simp only [hrs, Option.bind_some] at hq
    rcases hσ with ⟨rfl, rfl⟩ | ⟨hne, mv, rfl⟩
    · ((conv => whnf); repeat ((first | refine Br.t ?_ | refine Br.f ?_ | refine ob ?_ | refine ⟨_, rfl, ?_⟩ | refine ⟨_, _, rfl, ?_⟩ | refine ⟨_, _, _, rfl, ?_⟩ | refine ⟨_, _, _, _, rfl, ?_⟩ | simp only [f1]); (conv => whnf)))
      refine ⟨lj, by first | rfl | trivial, rfl, bj, fun t l9 h9 => ?_, fun h9 l9 => ?_⟩
      · ((conv => whnf); repeat ((first | refine Br.t ?_ | refine Br.f ?_ | refine ob ?_ | refine ⟨_, rfl, ?_⟩ | refine ⟨_, _, rfl, ?_⟩ | refine ⟨_, _, _, rfl, ?_⟩ | refine ⟨_, _, _, _, rfl, ?_⟩); (conv => whnf)))
        rw [h9, Option.bind_some] at hq
        exact hk0 _ _ hq rfl
      · ((conv => whnf); repeat ((first | refine Br.t ?_ | refine Br.f ?_ | refine ob ?_ | refine ⟨_, rfl, ?_⟩ | refine ⟨_, _, rfl, ?_⟩ | refine ⟨_, _, _, rfl, ?_⟩ | refine ⟨_, _, _, _, rfl, ?_⟩); (conv => whnf)))
        exact hp (by rw [hq, h9]; rfl) _
    · ((conv => whnf); repeat ((first | refine Br.t ?_ | refine Br.f ?_ | refine ob ?_ | refine ⟨_, rfl, ?_⟩ | refine ⟨_, _, rfl, ?_⟩ | refine ⟨_, _, _, rfl, ?_⟩ | refine ⟨_, _, _, _, rfl, ?_⟩ | simp only [f1]); (conv => whnf)))
      refine ⟨lj, by first | rfl | trivial, rfl, bj, fun t l9 h9 => ?_, fun h9 l9 => ?_⟩
      · ((conv => whnf); repeat ((first | refine Br.t ?_ | refine Br.f ?_ | refine ob ?_ | refine ⟨_, rfl, ?_⟩ | refine ⟨_, _, rfl, ?_⟩ | refine ⟨_, _, _, rfl, ?_⟩ | refine ⟨_, _, _, _, rfl, ?_⟩); (conv => whnf)))
        rw [h9, Option.bind_some] at hq
        exact hk1 _ _ hq hne _
      · ((conv => whnf); repeat ((first | refine Br.t ?_ | refine Br.f ?_ | refine ob ?_ | refine ⟨_, rfl, ?_⟩ | refine ⟨_, _, rfl, ?_⟩ | refine ⟨_, _, _, rfl, ?_⟩ | refine ⟨_, _, _, _, rfl, ?_⟩); (conv => whnf)))
        exact hp (by rw [hq, h9]; rfl) _
  have f1 : decide ((rs.length : Int) < M7) = true := by simp; omega
  obtain ⟨N', hN'⟩ : ∃ N', N - rs.length = N' + 1 := ⟨N - rs.length - 1, by omega⟩
  have hR := rdR_eq lj
  have bad : rdR lj = none → ∀ l', K (rdB l') panR := fun h l' => hp (by rw [hq, hrs, hN', rdRs, h]; rfl) _
  have good : ∀ r l', rdR lj = some (r, l') → rdRs N l8 = (rdRs (N - (rs ++ [r]).length) l').map (fun x => (rs ++ [r] ++ x.1, x.2)) := fun r l' h => by
    rw [hrs, hN', rdRs, h, Option.bind_some, List.length_append, List.length_singleton, show N - (rs.length + 1) = N' by omega]
    cases rdRs N' l' with
    | none => rfl
    | some y => simp
  have hlen : ∀ r : Rc, ((rs ++ [r]).length : Int) = rs.length + 1 := fun r => by simp
  rcases hσ with ⟨rfl, rfl⟩ | ⟨hne, mv, rfl⟩
  · ((conv => whnf); repeat ((first | refine Br.t ?_ | refine Br.f ?_ | refine ob ?_ | refine ⟨_, rfl, ?_⟩ | refine ⟨_, _, rfl, ?_⟩ | refine ⟨_, _, _, rfl, ?_⟩ | refine ⟨_, _, _, _, rfl, ?_⟩ | simp only [f1]); (conv => whnf)))
    refine ⟨lj, by first | rfl | trivial, rfl, bj, fun ba bd k1 g1 => ?_, fun g1 k1 => ?_⟩
    rotate_left
    · ((conv => whnf); repeat ((first | refine Br.t ?_ | refine Br.f ?_ | refine ob ?_ | refine ⟨_, rfl, ?_⟩ | refine ⟨_, _, rfl, ?_⟩ | refine ⟨_, _, _, rfl, ?_⟩ | refine ⟨_, _, _, _, rfl, ?_⟩); (conv => whnf)))
      exact bad (by simp only [hR, g1, Option.bind_none]) _
    have c1 := rdX_byts g1 bj
    ((conv => whnf); repeat ((first | refine Br.t ?_ | refine Br.f ?_ | refine ob ?_ | refine ⟨_, rfl, ?_⟩ | refine ⟨_, _, rfl, ?_⟩ | refine ⟨_, _, _, rfl, ?_⟩ | refine ⟨_, _, _, _, rfl, ?_⟩); (conv => whnf)))
    refine ⟨k1, by first | rfl | trivial, rfl, c1, fun v2 k2 g2 => ?_, fun g2 k2 => ?_⟩
    rotate_left
    · ((conv => whnf); repeat ((first | refine Br.t ?_ | refine Br.f ?_ | refine ob ?_ | refine ⟨_, rfl, ?_⟩ | refine ⟨_, _, rfl, ?_⟩ | refine ⟨_, _, _, rfl, ?_⟩ | refine ⟨_, _, _, _, rfl, ?_⟩); (conv => whnf)))
      exact bad (by simp only [hR, g1, Option.bind_some, g2, Option.bind_none]) _
    have c2 := (rdN_byts g2 c1).2
    ((conv => whnf); repeat ((first | refine Br.t ?_ | refine Br.f ?_ | refine ob ?_ | refine ⟨_, rfl, ?_⟩ | refine ⟨_, _, rfl, ?_⟩ | refine ⟨_, _, _, rfl, ?_⟩ | refine ⟨_, _, _, _, rfl, ?_⟩ | simp only [w1]); (conv => whnf)))
    refine ⟨k2, by first | rfl | trivial, rfl, c2, fun v3 k3 g3 => ?_, fun g3 k3 => ?_⟩
    rotate_left
    · ((conv => whnf); repeat ((first | refine Br.t ?_ | refine Br.f ?_ | refine ob ?_ | refine ⟨_, rfl, ?_⟩ | refine ⟨_, _, rfl, ?_⟩ | refine ⟨_, _, _, rfl, ?_⟩ | refine ⟨_, _, _, _, rfl, ?_⟩); (conv => whnf)))
      exact bad (by simp only [hR, g1, g2, Option.bind_some, g3, Option.bind_none]) _
    have c3 := (rdN_byts g3 c2).2
    ((conv => whnf); repeat ((first | refine Br.t ?_ | refine Br.f ?_ | refine ob ?_ | refine ⟨_, rfl, ?_⟩ | refine ⟨_, _, rfl, ?_⟩ | refine ⟨_, _, _, rfl, ?_⟩ | refine ⟨_, _, _, _, rfl, ?_⟩ | simp only [w1]); (conv => whnf)))
    refine ⟨k3, by first | rfl | trivial, rfl, c3, fun v4 k4 g4 => ?_, fun g4 k4 => ?_⟩
    rotate_left
    · ((conv => whnf); repeat ((first | refine Br.t ?_ | refine Br.f ?_ | refine ob ?_ | refine ⟨_, rfl, ?_⟩ | refine ⟨_, _, rfl, ?_⟩ | refine ⟨_, _, _, rfl, ?_⟩ | refine ⟨_, _, _, _, rfl, ?_⟩); (conv => whnf)))
      exact bad (by simp only [hR, g1, g2, g3, Option.bind_some, g4, Option.bind_none]) _
    have c4 := (rdN_byts g4 c3).2
    ((conv => whnf); repeat ((first | refine Br.t ?_ | refine Br.f ?_ | refine ob ?_ | refine ⟨_, rfl, ?_⟩ | refine ⟨_, _, rfl, ?_⟩ | refine ⟨_, _, _, rfl, ?_⟩ | refine ⟨_, _, _, _, rfl, ?_⟩ | simp only [w1]); (conv => whnf)))
    refine ⟨k4, by first | rfl | trivial, rfl, c4, fun v5 k5 g5 => ?_, fun g5 k5 => ?_⟩
    rotate_left
    · ((conv => whnf); repeat ((first | refine Br.t ?_ | refine Br.f ?_ | refine ob ?_ | refine ⟨_, rfl, ?_⟩ | refine ⟨_, _, rfl, ?_⟩ | refine ⟨_, _, _, rfl, ?_⟩ | refine ⟨_, _, _, _, rfl, ?_⟩); (conv => whnf)))
      exact bad (by simp only [hR, g1, g2, g3, g4, Option.bind_some, g5, Option.bind_none]) _
    have c5 := (rdN_byts g5 c4).2
    ((conv => whnf); repeat ((first | refine Br.t ?_ | refine Br.f ?_ | refine ob ?_ | refine ⟨_, rfl, ?_⟩ | refine ⟨_, _, rfl, ?_⟩ | refine ⟨_, _, _, rfl, ?_⟩ | refine ⟨_, _, _, _, rfl, ?_⟩ | simp only [w1]); (conv => whnf)))
    simp only [g1, g2, g3, g4, g5, Option.bind_some] at hR
    exact hK' _ _ (by rw [List.length_append, List.length_singleton]; omega) ⟨[] ++ [⟨ba, bd, v2, v3, v4, v5⟩], k5, rfl, by rw [List.length_append, List.length_singleton]; omega, c5, good _ _ hR, .inr ⟨by simp, false, rfl⟩⟩
  · ((conv => whnf); repeat ((first | refine Br.t ?_ | refine Br.f ?_ | refine ob ?_ | refine ⟨_, rfl, ?_⟩ | refine ⟨_, _, rfl, ?_⟩ | refine ⟨_, _, _, rfl, ?_⟩ | refine ⟨_, _, _, _, rfl, ?_⟩ | simp only [f1]); (conv => whnf)))
    refine ⟨lj, by first | rfl | trivial, rfl, bj, fun ba bd k1 g1 => ?_, fun g1 k1 => ?_⟩
    rotate_left
    · ((conv => whnf); repeat ((first | refine Br.t ?_ | refine Br.f ?_ | refine ob ?_ | refine ⟨_, rfl, ?_⟩ | refine ⟨_, _, rfl, ?_⟩ | refine ⟨_, _, _, rfl, ?_⟩ | refine ⟨_, _, _, _, rfl, ?_⟩); (conv => whnf)))
      exact bad (by simp only [hR, g1, Option.bind_none]) _
    have c1 := rdX_byts g1 bj
    ((conv => whnf); repeat ((first | refine Br.t ?_ | refine Br.f ?_ | refine ob ?_ | refine ⟨_, rfl, ?_⟩ | refine ⟨_, _, rfl, ?_⟩ | refine ⟨_, _, _, rfl, ?_⟩ | refine ⟨_, _, _, _, rfl, ?_⟩); (conv => whnf)))
    refine ⟨k1, by first | rfl | trivial, rfl, c1, fun v2 k2 g2 => ?_, fun g2 k2 => ?_⟩
    rotate_left
    · ((conv => whnf); repeat ((first | refine Br.t ?_ | refine Br.f ?_ | refine ob ?_ | refine ⟨_, rfl, ?_⟩ | refine ⟨_, _, rfl, ?_⟩ | refine ⟨_, _, _, rfl, ?_⟩ | refine ⟨_, _, _, _, rfl, ?_⟩); (conv => whnf)))
      exact bad (by simp only [hR, g1, Option.bind_some, g2, Option.bind_none]) _
    have c2 := (rdN_byts g2 c1).2
    ((conv => whnf); repeat ((first | refine Br.t ?_ | refine Br.f ?_ | refine ob ?_ | refine ⟨_, rfl, ?_⟩ | refine ⟨_, _, rfl, ?_⟩ | refine ⟨_, _, _, rfl, ?_⟩ | refine ⟨_, _, _, _, rfl, ?_⟩ | simp only [w1]); (conv => whnf)))
    refine ⟨k2, by first | rfl | trivial, rfl, c2, fun v3 k3 g3 => ?_, fun g3 k3 => ?_⟩
    rotate_left
    · ((conv => whnf); repeat ((first | refine Br.t ?_ | refine Br.f ?_ | refine ob ?_ | refine ⟨_, rfl, ?_⟩ | refine ⟨_, _, rfl, ?_⟩ | refine ⟨_, _, _, rfl, ?_⟩ | refine ⟨_, _, _, _, rfl, ?_⟩); (conv => whnf)))
      exact bad (by simp only [hR, g1, g2, Option.bind_some, g3, Option.bind_none]) _
    have c3 := (rdN_byts g3 c2).2
    ((conv => whnf); repeat ((first | refine Br.t ?_ | refine Br.f ?_ | refine ob ?_ | refine ⟨_, rfl, ?_⟩ | refine ⟨_, _, rfl, ?_⟩ | refine ⟨_, _, _, rfl, ?_⟩ | refine ⟨_, _, _, _, rfl, ?_⟩ | simp only [w1]); (conv => whnf)))
    refine ⟨k3, by first | rfl | trivial, rfl, c3, fun v4 k4 g4 => ?_, fun g4 k4 => ?_⟩
    rotate_left
    · ((conv => whnf); repeat ((first | refine Br.t ?_ | refine Br.f ?_ | refine ob ?_ | refine ⟨_, rfl, ?_⟩ | refine ⟨_, _, rfl, ?_⟩ | refine ⟨_, _, _, rfl, ?_⟩ | refine ⟨_, _, _, _, rfl, ?_⟩); (conv => whnf)))
      exact bad (by simp only [hR, g1, g2, g3, Option.bind_some, g4, Option.bind_none]) _
    have c4 := (rdN_byts g4 c3).2
    ((conv => whnf); repeat ((first | refine Br.t ?_ | refine Br.f ?_ | refine ob ?_ | refine ⟨_, rfl, ?_⟩ | refine ⟨_, _, rfl, ?_⟩ | refine ⟨_, _, _, rfl, ?_⟩ | refine ⟨_, _, _, _, rfl, ?_⟩ | simp only [w1]); (conv => whnf)))
    refine ⟨k4, by first | rfl | trivial, rfl, c4, fun v5 k5 g5 => ?_, fun g5 k5 => ?_⟩
    rotate_left
    · ((conv => whnf); repeat ((first | refine Br.t ?_ | refine Br.f ?_ | refine ob ?_ | refine ⟨_, rfl, ?_⟩ | refine ⟨_, _, rfl, ?_⟩ | refine ⟨_, _, _, rfl, ?_⟩ | refine ⟨_, _, _, _, rfl, ?_⟩); (conv => whnf)))
      exact bad (by simp only [hR, g1, g2, g3, g4, Option.bind_some, g5, Option.bind_none]) _
    have c5 := (rdN_byts g5 c4).2
    ((conv => whnf); repeat ((first | refine Br.t ?_ | refine Br.f ?_ | refine ob ?_ | refine ⟨_, rfl, ?_⟩ | refine ⟨_, _, rfl, ?_⟩ | refine ⟨_, _, _, rfl, ?_⟩ | refine ⟨_, _, _, _, rfl, ?_⟩ | simp only [w1]); (conv => whnf)))
    simp only [g1, g2, g3, g4, g5, Option.bind_some] at hR
    refine hK' _ _ (by rw [List.length_append, List.length_singleton]; omega) ⟨rs ++ [⟨ba, bd, v2, v3, v4, v5⟩], k5, rfl, by rw [List.length_append, List.length_singleton]; omega, c5, good _ _ hR, .inr ⟨by simp, true, ?_⟩⟩
    rw [hlen, List.map_append]
    rfl
end Go.Proofs.YtbhejifllgnliaaGreatDoor.Ab
