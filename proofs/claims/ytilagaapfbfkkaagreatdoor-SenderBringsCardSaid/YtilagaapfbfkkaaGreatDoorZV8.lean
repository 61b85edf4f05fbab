/- Part 8 of 10 of the texts that the sender's rows rest on, put together by a program; no condition. -/
import Derived.Test.YtilagaapfbfkkaaGreatDoorZV7
import Derived.Test.YtilagaapfbfkkaaGreatDoorZV6
import Derived.Shelf.Strings.Prefix
import Derived.Test.YtilagaapfbfkkaaGreatDoorProg
import Derived.Shelf.Strings.BuilderK
import Derived.Test.YtilagaapfbfkkaaGreatDoorZV5
import Derived.RangeFuncNested
import Derived.RangeFuncBound
import Derived.RangeFuncCalls
import Derived.RangeFuncLeaves
import Derived.Shelf.Abstract
import Derived.Shelf.RegionOpen
import Derived.WalkKit
import Derived.OwnWalkIn
import Derived.TacticsInMore
import Derived.LoopNIn
import Derived.LoopIn
set_option maxHeartbeats 128000000
set_option linter.unusedSimpArgs false
set_option linter.unusedVariables false
namespace Go.Proofs.YtilagaapfbfkkaaGreatDoor.Ab
open Go Go.RowKit Go.Proofs.YtilagaapfbfkkaaGreatDoorW.PrintWords
set_option maxRecDepth 100000
variable {G : World → Prop}
def Γ79 : Sems := ext 47 s58 (ext 44 s55 Γ0)
theorem Γ79.ok : SemsOK Gr Tryz.prog Γ79 := (Γ0.ok.ext Tryz.func44 rfl (by decide) ok55).ext Tryz.func47 rfl (by decide) ok58
def small (r : RT.den) : Prop := r.1.1.size + r.1.2.size < mid
def s79 : Sense := pureS fun xs K => ∃ r : RT.den, xs = [.agg (RT.cs r)] ∧ small r ∧ K (.ret (.one (.bool (rcP (rcOf r)))))
theorem ok79 : SenseOK Gr Tryz.prog 85 s79 := SenseOK.pure Γ79.ok (fun _ => []) Tryz.func85 fun xs K h => by
  obtain ⟨r, rfl, hb, hk⟩ := h
  obtain ⟨⟨a, d⟩, st, at_, nx, co⟩ := r
  have e1 : ∀ x : Int, (!decide (x < 0)) = decide (0 ≤ x) := fun x => by rw [Bool.eq_iff_iff]; simp
  have e2 : ∀ x : Int, (!decide (x > 4)) = decide (x ≤ 4) := fun x => by rw [Bool.eq_iff_iff]; simp
  have hr : rcP (rcOf ((a, d), st, at_, nx, co)) = (mayA a d && ((decide ((0 : Int) ≤ st) && decide ((st : Int) ≤ 4)) && ((decide ((0 : Int) ≤ at_) && decide ((at_ : Int) ≤ 1048576)) && ((decide ((0 : Int) ≤ nx) && decide ((nx : Int) ≤ 2199023255552)) && (decide ((0 : Int) ≤ co) && decide ((co : Int) ≤ 599)))))) := by
    show (mayR (bl a) (bl d) && !decide ((st : Int) < 0) && !decide ((st : Int) > 4) && _ && _ && _) = _
    rw [e1, e2]
    simp only [mayA, Bool.and_assoc]
    rfl
  rw [hr] at hk
  have hb' : a.size + d.size < mid := hb
  refine zs0 ?_
  cases h1 : mayA a d with
  | false => rw [h1] at hk; refine zs0 ?_; exact hk
  | true =>
  cases h2 : (decide ((0 : Int) ≤ st) && decide ((st : Int) ≤ 4)) with
  | false => rw [h1, h2] at hk; refine zs1 h2 ?_; exact hk
  | true =>
  cases h3 : (decide ((0 : Int) ≤ at_) && decide ((at_ : Int) ≤ 1048576)) with
  | false => rw [h1, h2, h3] at hk; refine zs2 h2 h3 ?_; exact hk
  | true =>
  cases h4 : (decide ((0 : Int) ≤ nx) && decide ((nx : Int) ≤ 2199023255552)) with
  | false => rw [h1, h2, h3, h4] at hk; refine zs3 h2 h3 h4 ?_; exact hk
  | true =>
    rw [h1, h2, h3, h4] at hk
    refine zs3 h2 h3 h4 ?_
    exact hk
abbrev BT : Ty := .pair .str .str
def s56 : Sense := ⟨false, fun os xs K => ∃ (l : List RT.den) (c : C), xs = [.one c] ∧ RcIn 0 l c os ∧ l.length ≤ big ∧ (∀ r ∈ l, small r) ∧ K os (.ret (.one (.bool (rcsP [] (l.map rcOf) && (decide (1 ≤ (l.length : Int)) && decide ((l.length : Int) ≤ 8))))))⟩
def Γ56 : Sems := ext 85 s79 (ext 44 s55 Γ0)
theorem Γ56.ok : SemsOK Gr Tryz.prog Γ56 := (Γ0.ok.ext Tryz.func44 rfl (by decide) ok55).ext Tryz.func85 rfl (by decide) ok79
theorem key24 : KeyEq TT 29 (.pair .str .str) := fun x y => by
  show some ((x.1.toList == y.1.toList) && ((x.2.toList == y.2.toList) && true)) = _
  rw [Bool.and_true]; rfl
theorem memT_any (y : BT.den) (r : Rc) (hr : r.bl_ = bl y.1 ∧ r.bd = bl y.2) : ∀ l : List RT.den, memT BT y (l.map fun x => x.1) = (l.map rcOf).any (sameA r)
  | [] => rfl
  | x :: l => by
    rw [List.map_cons, List.map_cons, List.any_cons, memT, memT_any y r hr l]
    congr 1
    show (y.1.toList == x.1.1.toList && y.2.toList == x.1.2.toList) = (decide (bl x.1.1 = r.bl_) && decide (bl x.1.2 = r.bd))
    rw [str_beq, str_beq, hr.1, hr.2]
    rw [Bool.eq_iff_iff]
    simp only [Bool.and_eq_true, decide_eq_true_eq]
    exact ⟨fun h => ⟨h.1.symm, h.2.symm⟩, fun h => ⟨h.1.symm, h.2.symm⟩⟩
theorem ok56 : SenseOK Gr Tryz.prog 45 s56 := SenseOK.any Γ56.ok (fun _ => [0, 3, 7, 8, 9]) Tryz.func45 fun os xs K h => by
  obtain ⟨l, c, rfl, ha, hb, hs, hk⟩ := h
  simp only [big] at hb
  rcases ha with ⟨hc, ho⟩ | ⟨hc, ho, ha0⟩ | ⟨ap, hc, ho⟩
  case inr.inl =>
    subst ha0
    rw [hc, ho]
    rw [ho] at hk
    refine zv ?_
    refine iter_of (I := fun k σ => σ = ⟨slots 29 [(0, .one .nil), (3, .one (.mp 0)), (7, .one .nil), (8, .one (.int .i64 0)), (9, .one (.int .i64 0))], [.mset BT []]⟩) ?_ 0 rfl
    rintro k σ K' rfl hK'
    refine zv ?_
    exact hk
  case inl =>
    rw [hc, ho]
    rw [ho] at hk
    refine zv ?_
    refine iter_of (I := fun k σ => ∃ j : Nat, k = l.length - j ∧ j ≤ l.length ∧ rcsP [] (l.map rcOf) = rcsP ((l.take j).map rcOf) ((l.drop j).map rcOf) ∧ σ = ⟨slots 29 [(0, .one (.sl RT l)), (3, .one (.mp 0)), (7, .one (.sl RT l)), (8, .one (.int .i64 l.length)), (9, .one (.int .i64 j))], [.mset BT ((l.take j).map fun x => x.1)]⟩) ?_ l.length ⟨0, by omega, by omega, rfl, rfl⟩
    rintro k σ K' ⟨j, rfl, hj, hn, rfl⟩ hK'
    have w1 := IntWalk.i64_in ((j : Int) + 1) (by omega)
    by_cases h1 : j < l.length
    case neg =>
      have f1 : decide ((j : Int) < l.length) = false := by simp; omega
      obtain rfl : j = l.length := by omega
      have hd : l.drop l.length = [] := List.drop_eq_nil_iff.2 (Nat.le_refl _)
      rw [hd] at hn
      have hn' : rcsP [] (l.map rcOf) = true := hn
      rw [hn', Bool.true_and] at hk
      refine zs1 f1 ?_
      exact hk
    have f1 : decide ((j : Int) < l.length) = true := by simpa using h1
    obtain ⟨r, hr⟩ : ∃ r, l[j]? = some r := ⟨_, List.getElem?_eq_getElem h1⟩
    have rr := nth_of hr RT.dflt
    have hd : l.drop j = r :: l.drop (j + 1) := by
      rw [List.drop_eq_getElem_cons h1]; congr 1; exact (List.getElem?_eq_some_iff.1 hr).2
    have hnx : rcsP [] (l.map rcOf) = (rcP (rcOf r) && !((l.take j).map rcOf).any (sameA (rcOf r)) && rcsP ((l.take (j + 1)).map rcOf) ((l.drop (j + 1)).map rcOf)) := by
      rw [hn, hd, List.map_cons, rcsP, List.take_add_one, hr, List.map_append]; rfl
    have hmem := memT_any r.1 (rcOf r) ⟨rfl, rfl⟩ (l.take j)
    have hsm : small r := hs r (List.mem_of_getElem? hr)
    refine zs2 f1 rr ?_
    cases e1 : rcP (rcOf r) with
    | false =>
      have : rcsP [] (l.map rcOf) = false := by rw [hnx, e1]; rfl
      rw [this, Bool.false_and] at hk
      refine zs1 e1 ?_
      exact hk
    | true =>
      refine zs1 e1 ?_
      refine ⟨key24, ?_⟩
      cases e2 : memT BT r.1 ((l.take j).map fun x => x.1) with
      | true =>
        have : rcsP [] (l.map rcOf) = false := by rw [hnx, ← hmem, e2, Bool.not_true, Bool.and_false]; rfl
        rw [this, Bool.false_and] at hk
        refine zs2 e1 e2 ?_
        exact hk
      | false =>
        refine zs2 e1 e2 ?_
        refine ⟨key24, ?_⟩
        have hadd : addT BT r.1 ((l.take j).map fun x => x.1) = (l.take (j + 1)).map fun x => x.1 := by
          rw [addT, e2, List.take_add_one, hr, List.map_append]; rfl
        refine zs3 e1 e2 w1 ?_
        exact hK' _ _ (by omega) ⟨j + 1, rfl, by omega, by rw [hnx, ← hmem, e1, e2]; rfl, by rw [← hadd]; rfl⟩
  case inr.inr =>
    rw [hc, ho]
    rw [ho] at hk
    refine zv ?_
    refine iter_of (I := fun k σ => ∃ j : Nat, k = l.length - j ∧ j ≤ l.length ∧ rcsP [] (l.map rcOf) = rcsP ((l.take j).map rcOf) ((l.drop j).map rcOf) ∧ σ = ⟨slots 29 [(0, .one (.own 0)), (3, .one (.mp 1)), (7, .one (.own 0)), (8, .one (.int .i64 l.length)), (9, .one (.int .i64 j))], [.own 39 RT l ap false, .mset BT ((l.take j).map fun x => x.1)]⟩) ?_ l.length ⟨0, by omega, by omega, rfl, rfl⟩
    rintro k σ K' ⟨j, rfl, hj, hn, rfl⟩ hK'
    have w1 := IntWalk.i64_in ((j : Int) + 1) (by omega)
    by_cases h1 : j < l.length
    case neg =>
      have f1 : decide ((j : Int) < l.length) = false := by simp; omega
      obtain rfl : j = l.length := by omega
      have hd : l.drop l.length = [] := List.drop_eq_nil_iff.2 (Nat.le_refl _)
      rw [hd] at hn
      have hn' : rcsP [] (l.map rcOf) = true := hn
      rw [hn', Bool.true_and] at hk
      refine zs1 f1 ?_
      exact hk
    have f1 : decide ((j : Int) < l.length) = true := by simpa using h1
    obtain ⟨r, hr⟩ : ∃ r, l[j]? = some r := ⟨_, List.getElem?_eq_getElem h1⟩
    have rr := nth_of hr RT.dflt
    have hd : l.drop j = r :: l.drop (j + 1) := by
      rw [List.drop_eq_getElem_cons h1]; congr 1; exact (List.getElem?_eq_some_iff.1 hr).2
    have hnx : rcsP [] (l.map rcOf) = (rcP (rcOf r) && !((l.take j).map rcOf).any (sameA (rcOf r)) && rcsP ((l.take (j + 1)).map rcOf) ((l.drop (j + 1)).map rcOf)) := by
      rw [hn, hd, List.map_cons, rcsP, List.take_add_one, hr, List.map_append]; rfl
    have hmem := memT_any r.1 (rcOf r) ⟨rfl, rfl⟩ (l.take j)
    have hsm : small r := hs r (List.mem_of_getElem? hr)
    refine zs2 f1 rr ?_
    cases e1 : rcP (rcOf r) with
    | false =>
      have : rcsP [] (l.map rcOf) = false := by rw [hnx, e1]; rfl
      rw [this, Bool.false_and] at hk
      refine zs1 e1 ?_
      exact hk
    | true =>
      refine zs1 e1 ?_
      refine ⟨key24, ?_⟩
      cases e2 : memT BT r.1 ((l.take j).map fun x => x.1) with
      | true =>
        have : rcsP [] (l.map rcOf) = false := by rw [hnx, ← hmem, e2, Bool.not_true, Bool.and_false]; rfl
        rw [this, Bool.false_and] at hk
        refine zs2 e1 e2 ?_
        exact hk
      | false =>
        refine zs2 e1 e2 ?_
        refine ⟨key24, ?_⟩
        have hadd : addT BT r.1 ((l.take j).map fun x => x.1) = (l.take (j + 1)).map fun x => x.1 := by
          rw [addT, e2, List.take_add_one, hr, List.map_append]; rfl
        refine zs3 e1 e2 w1 ?_
        exact hK' _ _ (by omega) ⟨j + 1, rfl, by omega, by rw [hnx, ← hmem, e1, e2]; rfl, by rw [← hadd]; rfl⟩
def Γ37 : Sems := ext 47 s58 (ext 46 s57 (ext 45 s56 (ext 44 s55 Γ0)))
theorem Γ37.ok : SemsOK Gr Tryz.prog Γ37 := (((Γ0.ok.ext Tryz.func44 rfl (by decide) ok55).ext Tryz.func45 rfl (by decide) ok56).ext Tryz.func46 rfl (by decide) ok57).ext Tryz.func47 rfl (by decide) ok58
def Md.sml (m : Md) : Prop := m.fl.size + m.fd.size < mid ∧ (∀ r ∈ m.rc, small r) ∧ m.rc.length ≤ big
def s37 : Sense := ⟨false, fun os xs K => ∃ (m : Md) (c : C), xs = [.agg (m.cs c)] ∧ RcIn 0 m.rc c os ∧ m.sml ∧ K os (.ret (.one (.bool (mailP m.ml))))⟩
theorem ok37 : SenseOK Gr Tryz.prog 32 s37 := SenseOK.any Γ37.ok (fun _ => []) Tryz.func32 fun os xs K h => by
  obtain ⟨m, c, rfl, ha, ⟨hf, hrs, hl⟩, hk⟩ := h
  have hm : mailP m.ml = ((decide (1 ≤ m.id) && decide (m.id ≤ 1099511627776)) && ((decide (0 ≤ m.te) && decide (m.te ≤ 3)) && ((decide (0 ≤ m.born) && decide (m.born ≤ 1099511627776)) && ((rcsP [] (m.rc.map rcOf) && (decide (1 ≤ (m.rc.length : Int)) && decide ((m.rc.length : Int) ≤ 8))) && (frmP m.ml && mayT (bl m.body)))))) := by
    have h1 : m.ml.rc.length = m.rc.length := List.length_map _
    rw [mailP, h1]
    have e1 : (!decide (m.id < 1)) = decide (1 ≤ m.id) := by rw [Bool.eq_iff_iff]; simp
    have e2 : (!decide (m.id > 1099511627776)) = decide (m.id ≤ 1099511627776) := by rw [Bool.eq_iff_iff]; simp
    have e3 : (!decide ((m.rc.length : Int) < 1)) = decide (1 ≤ (m.rc.length : Int)) := by rw [Bool.eq_iff_iff]; simp
    have e4 : (!decide ((m.rc.length : Int) > 8)) = decide ((m.rc.length : Int) ≤ 8) := by rw [Bool.eq_iff_iff]; simp
    show (!decide (m.id < 1) && !decide (m.id > 1099511627776) && (decide (0 ≤ m.te) && decide (m.te ≤ 3)) && !decide ((m.rc.length : Int) < 1) && !decide ((m.rc.length : Int) > 8) && (decide (0 ≤ m.born) && decide (m.born ≤ 1099511627776)) && frmP m.ml && rcsP [] (m.rc.map rcOf) && mayT (bl m.body)) = _
    rw [e1, e2, e3, e4]
    show (decide (1 ≤ m.id) && decide (m.id ≤ 1099511627776) && (decide (0 ≤ m.te) && decide (m.te ≤ 3)) && decide (1 ≤ (m.rc.length : Int)) && decide ((m.rc.length : Int) ≤ 8) && (decide (0 ≤ m.born) && decide (m.born ≤ 1099511627776)) && frmP m.ml && rcsP [] (m.rc.map rcOf) && mayT (bl m.body)) = _
    generalize decide (1 ≤ m.id) = a1
    generalize decide (m.id ≤ 1099511627776) = a2
    generalize (decide (0 ≤ m.te) && decide (m.te ≤ 3)) = a3
    generalize (decide (0 ≤ m.born) && decide (m.born ≤ 1099511627776)) = a4
    generalize decide (1 ≤ (m.rc.length : Int)) = a5
    generalize decide ((m.rc.length : Int) ≤ 8) = a6
    generalize rcsP [] (m.rc.map rcOf) = a7
    generalize frmP m.ml = a8
    generalize mayT (bl m.body) = a9
    cases a1 <;> cases a2 <;> cases a3 <;> cases a4 <;> cases a5 <;> cases a6 <;> cases a7 <;> cases a8 <;> cases a9 <;> rfl
  rw [hm] at hk
  have bl0 : bl ByteArray.empty = [] := rfl
  have hfrN : m.nul = true → frmP m.ml = (m.fl.toList == ByteArray.empty.toList && (m.fd.toList == ByteArray.empty.toList && true)) := fun e => by
    rw [str_beq, str_beq, bl0, Bool.and_true]
    show (bif m.nul then _ else _) = _
    rw [e, cond_true]; rfl
  have hfrY : m.nul = false → frmP m.ml = mayA m.fl m.fd := fun e => by
    show (bif m.nul then _ else _) = _
    rw [e, cond_false]; rfl
  rcases ha with ⟨hc, ho⟩ | ⟨hc, ho, ha0⟩ | ⟨ap, hc, ho⟩
  all_goals
    rw [hc, ho]
    rw [ho] at hk
    refine zs0 ?_
    cases e1 : (decide (1 ≤ m.id) && decide (m.id ≤ 1099511627776)) with
    | false => rw [e1] at hk; refine zs1 e1 ?_; exact hk
    | true =>
    refine zs1 e1 ?_
    cases e2 : (decide (0 ≤ m.te) && decide (m.te ≤ 3)) with
    | false => rw [e1, e2] at hk; refine zs1 e2 ?_; exact hk
    | true =>
    refine zs1 e2 ?_
    cases e3 : (decide (0 ≤ m.born) && decide (m.born ≤ 1099511627776)) with
    | false => rw [e1, e2, e3] at hk; refine zs1 e3 ?_; exact hk
    | true =>
    refine zs1 e3 ?_
    refine ⟨m.rc, _, rfl, by first | exact .inl ⟨rfl, rfl⟩ | exact .inr (.inl ⟨rfl, rfl, ha0⟩) | exact .inr (.inr ⟨ap, rfl, rfl⟩), hl, hrs, ?_⟩
    cases e4 : (rcsP [] (m.rc.map rcOf) && (decide (1 ≤ (m.rc.length : Int)) && decide ((m.rc.length : Int) ≤ 8))) with
    | false => rw [e1, e2, e3, e4] at hk; refine zs1 e4 ?_; exact hk
    | true =>
    rw [e1, e2, e3, e4] at hk
    cases e5 : m.nul with
    | true =>
      rw [hfrN e5] at hk
      refine zs2 e4 e5 ?_
      cases e8 : (m.fl.toList == ByteArray.empty.toList && (m.fd.toList == ByteArray.empty.toList && true)) with
      | false => rw [e8] at hk; refine zs1 e8 ?_; exact hk
      | true => rw [e8] at hk; refine zs1 e8 ?_; exact hk
    | false =>
      rw [hfrY e5] at hk
      refine zs2 e4 e5 ?_
      cases e8 : mayA m.fl m.fd with
      | false => rw [e8] at hk; refine zs1 e8 ?_; exact hk
      | true => rw [e8] at hk; refine zs1 e8 ?_; exact hk
def Γm : Sems := ext 32 s37 Γ0
theorem Γm.ok : SemsOK Gr Tryz.prog Γm := Γ0.ok.ext Tryz.func32 rfl (by decide) ok37
structure Red (l : List Int) (m : Ml) : Prop where
  fl : m.fl.length + m.fd.length ≤ l.length
  body : m.body.length ≤ l.length
  rc : m.rc.length ≤ 8
  rcs : ∀ r ∈ m.rc, r.bl_.length + r.bd.length ≤ l.length ∧ Byts r.bl_ ∧ Byts r.bd
  b1 : Byts m.fl
  b2 : Byts m.fd
  b3 : Byts m.body
theorem byt255 {l : List Int} (h : Byts l) : ∀ c ∈ l, 0 ≤ c ∧ c ≤ 255 := fun c hc => ⟨(h c hc).1, by have := (h c hc).2; omega⟩
theorem strOf_size {l : List Int} (h : Byts l) : (strOfNums l).size = l.length := by rw [← bl_length, bl_nums _ (byt255 h)]
def tlI (u : List Int) : List Int := if u.getLast? = some 13 then [13] else []
def stI (u : List Int) (s : Bool) : List Int × Bool := if s = true ∨ 512 ≤ u.length then (tlI u, true) else (u, false)
def lnI (u : List Int) (s : Bool) : List Int × Bool := if s = true ∨ 512 < u.length + 2 then ([], true) else (u, false)
def scanI : List Int → Bool → List Int → List (List Int × Bool) × List Int × Bool
  | u, s, [] => ([], u, s)
  | u, s, c :: cs => if u.getLast? = some 13 ∧ c = 10 then (lnI u.dropLast s :: (scanI [] false cs).1, (scanI [] false cs).2) else scanI (u ++ [c]) s cs
def frmM (u : List Int) (s : Bool) (b : List Int) : (List Int × Bool) × List (List Int × Bool) := (stI (scanI u s b).2.1 (scanI u s b).2.2, (scanI u s b).1)
theorem scanI_end {u : List Int} {s : Bool} {X : List Int} : scanI (u ++ [13]) s (10 :: X) = (lnI u s :: (scanI [] false X).1, (scanI [] false X).2) := by
  rw [scanI, if_pos ⟨by simp, rfl⟩]
  simp
theorem scanI_cut : ∀ (X u : List Int) (s : Bool), cutI u = none → scanI u s X = match cutI (u ++ X) with
    | none => ([], u ++ X, s)
    | some (l, r) => (lnI l s :: (scanI [] false r).1, (scanI [] false r).2)
  | [], u, s, h => by rw [List.append_nil, h, scanI]
  | c :: X, u, s, h => by
    by_cases hc : u.getLast? = some 13 ∧ c = 10
    · obtain ⟨h1, rfl⟩ := hc
      obtain ⟨v, rfl⟩ : ∃ v, u = v ++ [13] := by
        cases hu : u.getLast? with
        | none => rw [hu] at h1; cases h1
        | some y =>
          rw [hu] at h1; cases h1
          have hne : u ≠ [] := fun h => by subst h; cases hu
          exact ⟨u.dropLast, by
            have := List.dropLast_concat_getLast hne
            rw [List.getLast?_eq_some_getLast hne] at hu
            simp at hu
            rw [hu] at this; exact this.symm⟩
      rw [scanI_end, List.append_assoc, List.singleton_append, cutI_none_app h]
    · rw [scanI, if_neg hc, scanI_cut X (u ++ [c]) s (cutI_snoc h hc), List.append_assoc, List.singleton_append]
theorem scanI_all {u b : List Int} {s : Bool} (h : cutI u = none) : scanI [] s (u ++ b) = scanI u s b := by
  rw [scanI_cut (u ++ b) [] s rfl, List.nil_append, scanI_cut b u s h]
def fmP (u : List Int) (s : Bool) : Bool := bif s then decide (u = []) || decide (u = [13]) else decide (u.length < 512) && (cutI u).isNone
theorem fmP_cut {u : List Int} {s : Bool} (h : fmP u s = true) : cutI u = none := by
  cases s with
  | true =>
    simp only [fmP, cond_true, Bool.or_eq_true, decide_eq_true_eq] at h
    rcases h with rfl | rfl <;> simp [cutI]
  | false =>
    simp only [fmP, cond_false, Bool.and_eq_true, Option.isNone_iff_eq_none] at h
    exact h.2
abbrev LT : Ty := .pair .str .bool
def lnB (p : LT.den) : List Int × Bool := (bl p.1, p.2)
theorem bl_nil {s : ByteArray} : (s.toList == (⟨#[]⟩ : ByteArray).toList) = decide (bl s = []) := by rw [str_beq]; rfl
theorem bl_cr {s : ByteArray} : (s.toList == (⟨#[13]⟩ : ByteArray).toList) = decide (bl s = [13]) := by rw [str_beq]; rfl
def Γ102q : Sems := ext 55 s84 (Γ0)
theorem Γ102q.ok : SemsOK G Tryz.prog Γ102q := (Γ0.ok.ext Tryz.func55 rfl (by decide) ok59)
theorem suf13 (l : List Int) : suf [13] l = decide (l.getLast? = some 13) := by
  rcases List.eq_nil_or_concat l with rfl | ⟨v, x, rfl⟩
  · rfl
  · unfold suf
    simp
def q102 : Sense := pureS fun xs K => ∃ (s : ByteArray) (k : Bool), xs = [.agg [.str s, .bool k]] ∧ s.size ≤ big ∧ ∀ r : ByteArray, bl r = (stI (bl s) k).1 → K (.ret (.agg [.str r, .bool (stI (bl s) k).2]))
theorem qk102 : SenseOK G Tryz.prog 102 q102 := SenseOK.pure Γ102q.ok (fun _ => []) Tryz.func102 fun xs K h => by
  obtain ⟨s, k, rfl, hb, hk⟩ := h
  have hlen := bl_len s
  have hb' := hb
  simp only [big] at hb'
  by_cases hc : k = true ∨ 512 ≤ s.size
  case neg =>
    obtain ⟨rfl, h5⟩ : k = false ∧ s.size < 512 := ⟨by cases k <;> simp_all, by omega⟩
    have e1 : decide ((s.size : Int) < 512) = true := decide_eq_true (by omega)
    rw [stI, if_neg (by rw [hlen]; exact hc)] at hk
    refine zs1 e1 ?_
    exact hk s rfl
  have hc' : k = true ∨ 512 ≤ (bl s).length := by rw [hlen]; exact hc
  rw [stI, if_pos hc'] at hk
  have e2 : suf (bl ⟨#[13]⟩) (bl s) = decide ((bl s).getLast? = some 13) := suf13 (bl s)
  have e1 : k = false → decide ((s.size : Int) < 512) = false := fun h => decide_eq_false (by rcases hc with h' | h'; rw [h] at h'; cases h'; omega)
  by_cases hl : (bl s).getLast? = some 13
  · rw [decide_eq_true hl] at e2
    have hr : bl ⟨#[13]⟩ = tlI (bl s) := by rw [tlI, if_pos hl]; rfl
    cases k with
    | true =>
      refine zs1 e2 ?_
      exact hk _ hr
    | false =>
      have e1 := e1 rfl
      refine zs2 e1 e2 ?_
      exact hk _ hr
  · rw [decide_eq_false hl] at e2
    have hr : bl ByteArray.empty = tlI (bl s) := by rw [tlI, if_neg hl]; rfl
    cases k with
    | true =>
      refine zs1 e2 ?_
      exact hk _ hr
    | false =>
      have e1 := e1 rfl
      refine zs2 e1 e2 ?_
      exact hk _ hr
def q103 : Sense := pureS fun xs K => ∃ (s : ByteArray) (k : Bool), xs = [.one (.str s), .one (.bool k)] ∧ s.size ≤ big ∧ ∀ r : ByteArray, bl r = (lnI (bl s) k).1 → K (.ret (.agg [.str r, .bool (lnI (bl s) k).2]))
theorem qk103 : SenseOK G Tryz.prog 103 q103 := SenseOK.pure Γ0.ok (fun _ => []) Tryz.func103 fun xs K h => by
  obtain ⟨s, k, rfl, hb, hk⟩ := h
  have hlen := bl_len s
  simp only [big] at hb
  have w1 : IntKind.i64.wrap ((s.size : Int) + 2) = (s.size : Int) + 2 := IntWalk.i64_in _ (by omega)
  cases k with
  | true =>
    rw [lnI, if_pos (.inl rfl)] at hk
    refine zs0 ?_
    exact hk _ rfl
  | false =>
    by_cases h5 : 512 < s.size + 2
    · have e1 : decide ((s.size : Int) + 2 > 512) = true := decide_eq_true (by omega)
      rw [lnI, if_pos (.inr (by rw [hlen]; exact h5))] at hk
      refine zs2 w1 e1 ?_
      exact hk _ rfl
    · have e1 : decide ((s.size : Int) + 2 > 512) = false := decide_eq_false (by omega)
      rw [lnI, if_neg (by rintro (h | h); cases h; rw [hlen] at h; exact h5 h)] at hk
      refine zs2 w1 e1 ?_
      exact hk _ rfl
def frmR (u s : List Int) (k : Bool) (K : List Ob → Out → Prop) : Prop :=
  ((frmM u k s).2 = [] → ∀ r : ByteArray, bl r = (frmM u k s).1.1 → K [] (.ret (.tup [.agg [.str r, .bool (frmM u k s).1.2], .one .nil]))) ∧
  (∀ T : List LT.den, T.map lnB = (frmM u k s).2 → T ≠ [] → ∀ (mv : Bool) (r : ByteArray), bl r = (frmM u k s).1.1 → K [.own 101 LT T true mv] (.ret (.tup [.agg [.str r, .bool (frmM u k s).1.2], .one (.own 0)])))
def Γ60q : Sems := ext 86 s80 (ext 102 q102 (ext 103 q103 (Γ0)))
theorem Γ60q.ok : SemsOK Gr Tryz.prog Γ60q := (((Γ0.ok.ext Tryz.func103 rfl (by decide) qk103).ext Tryz.func102 rfl (by decide) qk102).ext Tryz.func86 rfl (by decide) ok80)
def q60 : Sense := ⟨false, fun os xs K => ∃ (u : ByteArray) (k : Bool) (b : List Int), xs = [.agg [.str u, .bool k], .one (.sl (.int .u8) b)] ∧ os = [] ∧ u.size + b.length ≤ big ∧ Byts b ∧ cutI (bl u) = none ∧ frmR (bl u) b k K⟩
theorem qk60 : SenseOK Gr Tryz.prog 60 q60 := SenseOK.of TT.ok Γ60q.ok (fun n => match n with | 4 => [4, 6, 7, 8] | _ => []) q60 Tryz.func60 (fun h => by cases h) fun os xs K h => by
  obtain ⟨u, k, b, rfl, rfl, hb, hy, hcu, hk0, hk1⟩ := h
  have hb' := hb
  simp only [big] at hb'
  have hlen := bl_len u
  have hbb := bl_nums b (byt255 hy)
  have hsz : (strOfNums b).size = b.length := strOf_size hy
  have hs : u.size + (strOfNums b).size ≤ 9223372036854775807 := by omega
  have hx0 : bl (u ++ strOfNums b) = bl u ++ b := by rw [bl_append, hbb]
  have hxs : (u ++ strOfNums b).size = u.size + b.length := by rw [ByteArray.size_append, hsz]
  have hall : scanI [] k (bl (u ++ strOfNums b)) = scanI (bl u) k b := by rw [hx0, scanI_all hcu]
  refine zv ?_
  refine iter_of (I := fun n σ => ∃ (T : List LT.den) (x : ByteArray) (sk : Bool), n = x.size ∧ T.length + x.size ≤ u.size + b.length ∧ T.map lnB ++ (scanI [] sk (bl x)).1 = (scanI (bl u) k b).1 ∧ (scanI [] sk (bl x)).2 = (scanI (bl u) k b).2 ∧
    ((T = [] ∧ σ = ⟨slots 39 [(4, .one (.ref 0 0)), (6, .one .nil), (7, .one (.str x)), (8, .one (.bool sk))], [.box 41 [.str ByteArray.empty, .bool false]]⟩) ∨
     (T ≠ [] ∧ ∃ mv, σ = ⟨slots 39 [(4, .one (.ref 0 0)), (6, .one (.own 1)), (7, .one (.str x)), (8, .one (.bool sk))], [.box 41 [.str ByteArray.empty, .bool false], .own 101 LT T true mv]⟩))) ?_ (u.size + b.length) ⟨[], u ++ strOfNums b, k, hxs.symm, by rw [hxs]; simp, by rw [hall]; rfl, by rw [hall], .inl ⟨rfl, rfl⟩⟩
  rintro n σ K' ⟨T, x, sk, rfl, hT, hl1, hl2, hσ⟩ hK'
  have hxl := bl_len x
  have hxb : x.size ≤ big := by simp only [big]; omega
  have hsc := scanI_cut (bl x) [] sk rfl
  rw [List.nil_append] at hsc
  have key : cutI (bl x) = none → (frmM (bl u) k b).1 = stI (bl x) sk ∧ T.map lnB = (frmM (bl u) k b).2 := fun hn => by
    rw [hn] at hsc
    simp only [hsc, List.append_nil] at hl1 hl2
    rw [frmM, ← hl2, ← hl1]
    exact ⟨rfl, rfl⟩
  have key2 : ∀ l r : ByteArray, cutI (bl x) = some (bl l, bl r) → r.size < x.size ∧ l.size ≤ x.size ∧ ∀ y : ByteArray, bl y = (lnI (bl l) sk).1 → (T ++ [(y, (lnI (bl l) sk).2)]).map lnB ++ (scanI [] false (bl r)).1 = (scanI (bl u) k b).1 ∧ (scanI [] false (bl r)).2 = (scanI (bl u) k b).2 := fun l r hc => by
    have h1 := congrArg List.length (cutI_app hc)
    simp only [List.length_append, List.length_cons, bl_len] at h1
    rw [hc] at hsc
    simp only [hsc] at hl1 hl2
    refine ⟨by omega, by omega, fun y hy => ⟨?_, hl2⟩⟩
    rw [List.map_append, List.map_cons, List.map_nil, List.append_assoc, List.singleton_append]
    unfold lnB
    rw [hy]
    exact hl1
  rcases hσ with ⟨rfl, rfl⟩ | ⟨hT0, mv, rfl⟩
  · refine zs0 ?_
    refine ⟨fun hn => ?_, fun l r hc => ?_⟩
    · obtain ⟨k1, k2⟩ := key hn
      refine zs0 ?_
      intro y hy
      refine zs0 ?_
      rw [k1] at hk0
      exact hk0 k2.symm y hy
    · obtain ⟨c1, c2, c3⟩ := key2 l r hc
      have c4 : l.size ≤ big := by simp only [big] at hxb ⊢; omega
      refine zs0 ?_
      intro y hy
      obtain ⟨d1, d2⟩ := c3 y hy
      refine zs0 ?_
      exact hK' _ _ c1 ⟨_, r, false, rfl, by simp; omega, d1, d2, .inr ⟨by simp, _, rfl⟩⟩
  · refine zs0 ?_
    refine ⟨fun hn => ?_, fun l r hc => ?_⟩
    · obtain ⟨k1, k2⟩ := key hn
      refine zs0 ?_
      intro y hy
      refine zs0 ?_
      rw [k1] at hk1
      exact hk1 T k2 hT0 _ y hy
    · obtain ⟨c1, c2, c3⟩ := key2 l r hc
      have c4 : l.size ≤ big := by simp only [big] at hxb ⊢; omega
      refine zs0 ?_
      intro y hy
      obtain ⟨d1, d2⟩ := c3 y hy
      have hT1 : (T.length + [(y, (lnI (bl l) sk).2)].length) * 24 ≤ 140737488355328 := by simp; omega
      refine zs0 ?_
      exact hK' _ _ c1 ⟨_, r, false, rfl, by simp; omega, d1, d2, .inr ⟨by simp, _, rfl⟩⟩
theorem contains_U (l : List UInt8) : Lib.contains l [13, 10] = (cutI (nums l)).isSome := by
  rw [cutI_U, Lib.contains]
  by_cases h : 0 ≤ Lib.index l [13, 10]
  · rw [if_pos h, decide_eq_true h]; rfl
  · rw [if_neg h, decide_eq_false h]; rfl
def q92 : Sense := pureS fun xs K => ∃ s, xs = [.one (.str s), .one (.str ⟨#[13, 10]⟩)] ∧ s.size ≤ big ∧ K (.ret (.one (.bool (cutI (bl s)).isSome)))
theorem qk92 : SenseOK Gr Tryz.prog 92 q92 := SenseOK.lib2 fun xs K h => by
  obtain ⟨s, rfl, hb, hk⟩ := h
  have hb' := hb
  simp only [big] at hb'
  have hv : ∀ (w : World) (I : Nat → Prop) (lk vs : List Value), All2 (VRep w I lk) [V.one (.str s), V.one (.str ⟨#[13, 10]⟩)] vs → vs = [.string s, .string ⟨#[13, 10]⟩] := fun w I lk vs hv => by
    obtain ⟨v1, m1, rfl, h1, h2⟩ := hv.cons_inv
    obtain ⟨v2, m2, rfl, h3, h4⟩ := h2.cons_inv
    obtain rfl := h4.nil_inv
    rw [show v1 = .string s from h1, show v2 = _ from h3]
  refine ⟨_, hv, _, hk, fun w hw => ?_⟩
  obtain ⟨m, hm⟩ := hw.mlen
  refine (Tryz.strings_Contains s ⟨#[13, 10]⟩ m w (by omega) hm).mono ?_
  rintro e w' ⟨rfl, hw'⟩
  rw [hw']
  exact ⟨fun I lk => ⟨_, rfl, by rw [show (⟨#[13, 10]⟩ : ByteArray).data.toList = [13, 10] from rfl, contains_U]; rfl⟩, Below.refl _ _⟩
def Γ50q : Sems := ext 92 q92 (Γ0)
theorem Γ50q.ok : SemsOK Gr Tryz.prog Γ50q := (Γ0.ok.ext Tryz.func92 rfl (by decide) qk92)
def q50 : Sense := pureS fun xs K => ∃ (s : ByteArray) (k : Bool), xs = [.agg [.str s, .bool k]] ∧ s.size ≤ big ∧ K (.ret (.one (.bool (fmP (bl s) k))))
theorem fm_true (s : ByteArray) : fmP (bl s) true = ((s.toList == (⟨#[]⟩ : ByteArray).toList) || (s.toList == (⟨#[13]⟩ : ByteArray).toList)) := by
  rw [bl_nil, bl_cr]; rfl
theorem qk50 : SenseOK Gr Tryz.prog 50 q50 := SenseOK.pure Γ50q.ok (fun _ => []) Tryz.func50 fun xs K h => by
  obtain ⟨s, k, rfl, hb, hk⟩ := h
  have hlen := bl_len s
  cases k with
  | true =>
    rw [fm_true] at hk
    generalize e1 : (s.toList == (⟨#[]⟩ : ByteArray).toList) = c1 at hk
    generalize e2 : (s.toList == (⟨#[13]⟩ : ByteArray).toList) = c2 at hk
    cases c1 <;> cases c2 <;> (refine zs2 e1 e2 ?_; exact hk)
  | false =>
    simp only [fmP, cond_false, hlen] at hk
    by_cases h5 : s.size < 512
    · have e1 : decide ((s.size : Int) < 512) = true := decide_eq_true (by omega)
      rw [decide_eq_true h5, Bool.true_and] at hk
      cases hc : cutI (bl s) with
      | none => rw [hc] at hk; refine zs2 e1 hc ?_; exact hk
      | some x => rw [hc] at hk; refine zs2 e1 hc ?_; exact hk
    · have e1 : decide ((s.size : Int) < 512) = false := decide_eq_false (by omega)
      rw [decide_eq_false h5] at hk
      refine zs1 e1 ?_
      exact hk
def endB (l : List Int) : Bool := decide (l.dropLast.getLast? = some 13) && decide (l.getLast? = some 10)
def q148 : Sense := pureS fun xs K => ∃ s, xs = [.one (.str s)] ∧ s.size ≤ big ∧ K (.ret (.one (.bool (endB (bl s)))))
theorem qk148 : SenseOK G Tryz.prog 148 q148 := SenseOK.pure Γ0.ok (fun _ => []) Tryz.func148 fun xs K h => by
  obtain ⟨s, rfl, hb, hk⟩ := h
  have hlen := bl_len s
  simp only [big] at hb
  by_cases h2 : 2 ≤ s.size
  case neg =>
    have e1 : decide ((s.size : Int) ≥ 2) = false := decide_eq_false (by omega)
    have hn : (bl s).dropLast = [] := List.length_eq_zero_iff.1 (by rw [List.length_dropLast]; omega)
    have hq : endB (bl s) = false := by rw [endB, hn]; rfl
    rw [hq] at hk
    refine zs1 e1 ?_
    exact hk
  have e1 : decide ((s.size : Int) ≥ 2) = true := decide_eq_true (by omega)
  have w1 : IntKind.i64.wrap ((s.size : Int) - 1) = (s.size : Int) - 1 := IntWalk.i64_in _ (by omega)
  have w2 : IntKind.i64.wrap ((s.size : Int) - 2) = (s.size : Int) - 2 := IntWalk.i64_in _ (by omega)
  have hq : endB (bl s) = ((bt s ((s.size : Int) - 2) == 13) && (bt s ((s.size : Int) - 1) == 10)) := by
    have h3 : (bl s).getLast? = some (bt s ((s.size : Int) - 1)) := bl_last (by omega)
    have h4 : (bl s).dropLast.getLast? = some (bt s ((s.size : Int) - 2)) := by
      rw [List.getLast?_dropLast, if_neg (by omega), hlen, bl_get (by omega)]
      congr 2; omega
    rw [endB, h3, h4, Bool.eq_iff_iff]
    simp
  rw [hq] at hk
  generalize g1 : (bt s ((s.size : Int) - 2) == 13) = c1 at hk
  generalize g2 : (bt s ((s.size : Int) - 1) == 10) = c2 at hk
  have i1 : 0 ≤ (s.size : Int) - 1 ∧ (s.size : Int) - 1 < s.size := ⟨by omega, by omega⟩
  have i2 : 0 ≤ (s.size : Int) - 2 ∧ (s.size : Int) - 2 < s.size := ⟨by omega, by omega⟩
  cases c1 with
  | false => refine zs5 e1 w1 w2 g1 g2 ?_; exact hk
  | true => refine zs5 e1 w1 w2 g1 g2 ?_; exact hk
def q150 : Sense := pureS fun xs K => ∃ c, xs = [.one (.int .u8 c)] ∧ ∀ r : ByteArray, bl r = (if c = 13 then [13] else []) → K (.ret (.one (.str r)))
theorem qk150 : SenseOK G Tryz.prog 150 q150 := SenseOK.pure Γ0.ok (fun _ => []) Tryz.func150 fun xs K h => by
  obtain ⟨c, rfl, hk⟩ := h
  by_cases h1 : c = 13
  · have e1 : (c == 13) = true := by simpa using h1
    rw [if_pos h1] at hk
    refine zs1 e1 ?_
    exact hk _ rfl
  · have e1 : (c == 13) = false := by simpa using h1
    rw [if_neg h1] at hk
    refine zs1 e1 ?_
    exact hk _ rfl
def Γ114q : Sems := ext 148 q148 (Γ0)
theorem Γ114q.ok : SemsOK G Tryz.prog Γ114q := (Γ0.ok.ext Tryz.func148 rfl (by decide) qk148)
def Γ124q : Sems := ext 148 q148 (ext 150 q150 (Γ0))
theorem Γ124q.ok : SemsOK G Tryz.prog Γ124q := ((Γ0.ok.ext Tryz.func150 rfl (by decide) qk150).ext Tryz.func148 rfl (by decide) qk148)
def prevB (p : Option Int) (x : Int) : Bool := match p with | none => true | some q => decide (q < x)
def risF (m : Int) : Option Int → List Int → Bool
  | _, [] => true
  | p, x :: l => (decide (0 ≤ x) && decide (x ≤ m - 1)) && (prevB p x && risF m (some x) l)
def risB (l : List Int) (m : Int) : Bool := risF m none l
def q48 : Sense := pureS fun xs K => ∃ a b c, xs = [.one (.int .i64 a), .one (.int .i64 b), .one (.int .i64 c)] ∧ K (.ret (.one (.bool (decide (b ≤ a) && decide (a ≤ c)))))
theorem qk48 : SenseOK G Tryz.prog 48 q48 := SenseOK.pure Γ0.ok (fun _ => []) Tryz.func48 fun xs K h => by
  obtain ⟨a, b, c, rfl, hk⟩ := h
  generalize g1 : decide (b ≤ a) = c1 at hk
  generalize g2 : decide (a ≤ c) = c2 at hk
  have g1' : decide (a ≥ b) = c1 := g1
  cases c1 with
  | false => refine zs1 g1' ?_; exact hk
  | true => refine zs2 g1' g2 ?_; exact hk
theorem risF_cons (m x : Int) (p : Option Int) (l : List Int) : risF m p (x :: l) = ((decide (0 ≤ x) && decide (x ≤ m - 1)) && (prevB p x && risF m (some x) l)) := rfl
theorem int_drop {l : List Int} {j : Nat} {x : Int} (h : l[j]? = some x) : l.drop j = x :: l.drop (j + 1) := by
  obtain ⟨h1, h2⟩ := List.getElem?_eq_some_iff.1 h
  rw [List.drop_eq_getElem_cons h1, h2]
def risAt (m : Int) (l : List Int) (j : Nat) : Bool := risF m (l.take j).getLast? (l.drop j)
theorem risAt_next {m : Int} {l : List Int} {j : Nat} {x : Int} (h : l[j]? = some x) : risAt m l j = ((decide (0 ≤ x) && decide (x ≤ m - 1)) && (prevB (l.take j).getLast? x && risAt m l (j + 1))) := by
  rw [risAt, int_drop h, risF_cons, risAt]
  have : (l.take (j + 1)).getLast? = some x := by
    rw [List.take_add_one, h]; simp
  rw [this]
theorem ris_prev {l : List Int} {j : Nat} (hj : 0 < j) (hl : j ≤ l.length) : (l.take j).getLast? = l[j - 1]? := by
  rw [List.getLast?_eq_getElem?, List.length_take, Nat.min_eq_left hl, List.getElem?_take, if_pos (by omega)]
def Γ90q : Sems := ext 48 q48 (Γ0)
theorem Γ90q.ok : SemsOK G Tryz.prog Γ90q := (Γ0.ok.ext Tryz.func48 rfl (by decide) qk48)
def q90 : Sense := pureS fun xs K => ∃ (l : List Int) (m : Int), xs = [.one (.sl IT l), .one (.int .i64 m)] ∧ l.length ≤ big ∧ 0 ≤ m ∧ m ≤ big ∧ K (.ret (.one (.bool (risB l m))))
theorem qk90 : SenseOK G Tryz.prog 90 q90 := SenseOK.pure Γ90q.ok (fun _ => [0, 1, 7, 8, 9]) Tryz.func90 fun xs K h => by
  obtain ⟨l, m, rfl, hb, hm0, hm1, hk⟩ := h
  simp only [big] at hb hm1
  have wm : IntKind.i64.wrap (m - 1) = m - 1 := IntWalk.i64_in _ (by omega)
  refine zv ?_
  refine iter_of (I := fun n σ => ∃ j : Nat, n = l.length - j ∧ j ≤ l.length ∧ risB l m = risAt m l j ∧ σ = ⟨slots 33 [(0, .one (.sl IT l)), (1, .one (.int .i64 m)), (7, .one (.sl IT l)), (8, .one (.int .i64 l.length)), (9, .one (.int .i64 j))], []⟩) ?_ l.length ⟨0, by omega, by omega, rfl, rfl⟩
  rintro n σ K' ⟨j, rfl, hj, hr, rfl⟩ hK'
  have w1 := IntWalk.i64_in ((j : Int) + 1) (by omega)
  by_cases h1 : j < l.length
  case neg =>
    have f1 : decide ((j : Int) < l.length) = false := decide_eq_false (by omega)
    rw [risAt, List.drop_of_length_le (by omega)] at hr
    rw [hr] at hk
    refine zs1 f1 ?_
    exact hk
  have f1 : decide ((j : Int) < l.length) = true := decide_eq_true (by omega)
  obtain ⟨x, hx⟩ : ∃ x, l[j]? = some x := ⟨_, List.getElem?_eq_getElem h1⟩
  have rr := nth_of hx IT.dflt
  have ii : (0 : Int) ≤ j ∧ (j : Int) < l.length := ⟨by omega, by omega⟩
  rw [risAt_next hx] at hr
  cases hc : (decide (0 ≤ x) && decide (x ≤ m - 1)) with
  | false =>
    rw [hc] at hr
    rw [hr] at hk
    refine zs4 f1 rr wm hc ?_
    exact hk
  | true =>
  rw [hc, Bool.true_and] at hr
  by_cases j0 : j = 0
  · subst j0
    have f2 : decide (((0 : Nat) : Int) > 0) = false := decide_eq_false (by omega)
    refine zs6 f1 rr wm hc f2 w1 ?_
    exact hK' _ _ (by omega) ⟨1, rfl, by omega, hr, rfl⟩
  have f2 : decide ((j : Int) > 0) = true := decide_eq_true (by omega)
  have wj : IntKind.i64.wrap ((j : Int) - 1) = ((j - 1 : Nat) : Int) := by rw [IntWalk.i64_in _ (by omega)]; omega
  obtain ⟨y, hy⟩ : ∃ y, l[j - 1]? = some y := ⟨_, List.getElem?_eq_getElem (by omega)⟩
  have ry := nth_of hy IT.dflt
  have ij : (0 : Int) ≤ ((j - 1 : Nat) : Int) ∧ ((j - 1 : Nat) : Int) < l.length := ⟨by omega, by omega⟩
  rw [ris_prev (by omega) (by omega), hy] at hr
  by_cases hyx : y ≥ x
  · have f3 : decide (y ≥ x) = true := decide_eq_true hyx
    simp only [prevB, decide_eq_false (show ¬ y < x by omega), Bool.false_and] at hr
    rw [hr] at hk
    refine zs8 f1 rr wm hc f2 wj ry f3 ?_
    exact hk
  · have f3 : decide (y ≥ x) = false := decide_eq_false hyx
    simp only [prevB, decide_eq_true (show y < x by omega), Bool.true_and] at hr
    ((conv => whnf); repeat ((first | refine Br.t ?_ | refine Br.f ?_ | refine ob ?_ | refine ⟨_, rfl, ?_⟩ | refine ⟨_, _, rfl, ?_⟩ | refine ⟨_, _, _, rfl, ?_⟩ | refine ⟨_, _, _, _, rfl, ?_⟩ | simp only [f1, rr, wm, hc, f2, wj, ry, f3, w1]); (conv => whnf)))
    exact hK' _ _ (by omega) ⟨j + 1, rfl, by omega, hr, rfl⟩
def offD (m : Md) (d : ByteArray) (i : Int) : Bool := match m.rc[i.toNat]? with | none => false | some r => !decide (r.1.2 = d)
def q91 : Sense := ⟨false, fun os xs K => ∃ (i : Int) (m : Md) (j : Jb), xs = [.one (.int .i64 i), .one (.ref 0 0), .one (.ref 1 0)] ∧ os = [.box 32 (m.cs (.sl RT m.rc)), .box 36 j.fz] ∧ 0 ≤ i ∧ i < m.rc.length ∧ K os (.ret (.one (.bool (offD m j.dom i))))⟩
theorem qk91 : SenseOK G Tryz.prog 91 q91 := SenseOK.any Γ0.ok (fun _ => []) Tryz.func91 fun os xs K h => by
  obtain ⟨i, m, j, rfl, rfl, h0, h1, hk⟩ := h
  obtain ⟨k, rfl⟩ : ∃ k : Nat, i = k := ⟨i.toNat, by omega⟩
  obtain ⟨r, hr⟩ : ∃ r, m.rc[k]? = some r := ⟨_, List.getElem?_eq_getElem (by omega)⟩
  have rr := nth_of hr RT.dflt
  have hq : offD m j.dom k = (r.1.2.toList != j.dom.toList) := by
    rw [offD, Int.toNat_natCast, hr, bne, seq_eq]
  rw [hq] at hk
  refine zv ?_
  refine ⟨[], (.take 0 (.take 1 (.take 2 (.take 3 (.take 4 (.take 5 (.take 6 (.take 7 (.take 8 (.take 9 (.take 10 .done))))))))))), ⟨by kernel_rfl⟩, ?_⟩
  refine zs1 rr ?_
  exact hk
def badK (c : Int) : Bool := !(decide (0 ≤ c) && decide (c ≤ 599))
def Γ52q : Sems := ext 48 q48 (Γ0)
theorem Γ52q.ok : SemsOK G Tryz.prog Γ52q := (Γ0.ok.ext Tryz.func48 rfl (by decide) qk48)
def q52 : Sense := pureS fun xs K => ∃ c, xs = [.one (.int .i64 c)] ∧ K (.ret (.one (.bool (badK c))))
theorem qk52 : SenseOK G Tryz.prog 52 q52 := SenseOK.pure Γ52q.ok (fun _ => []) Tryz.func52 fun xs K h => by
  obtain ⟨c, rfl, hk⟩ := h
  refine zv ?_
  exact hk
def Γ93q : Sems := ext 52 q52 (ext 91 q91 (Γ0))
theorem Γ93q.ok : SemsOK G Tryz.prog Γ93q := ((Γ0.ok.ext Tryz.func91 rfl (by decide) qk91).ext Tryz.func52 rfl (by decide) qk52)
def q93 : Sense := ⟨false, fun os xs K => ∃ (l : List Int), l.length ≤ big ∧
  ((xs = [.one (.sl IT l), .one (.fn 52 [])] ∧ os = [] ∧ ∀ i : Int, decide (i ≥ 0) = l.any badK → K [] (.ret (.one (.int .i64 i)))) ∨
   (∃ (m : Md) (j : Jb), xs = [.one (.sl IT l), .one (.fn 91 [0, 1])] ∧ os = [.box 32 (m.cs (.sl RT m.rc)), .box 36 j.fz] ∧ (∀ i ∈ l, 0 ≤ i ∧ i < m.rc.length) ∧ ∀ i : Int, decide (i ≥ 0) = l.any (offD m j.dom) → K os (.ret (.one (.int .i64 i)))))⟩
theorem qk93 : SenseOK G Tryz.prog 93 q93 := SenseOK.any Γ93q.ok (fun _ => [0, 1, 7, 8]) Tryz.func93 fun os xs K h => by
  obtain ⟨l, hb, ⟨rfl, rfl, hk⟩ | ⟨m, jb, rfl, rfl, hin, hk⟩⟩ := h
  · simp only [big] at hb
    refine zv ?_
    refine iter_of (I := fun k σ => ∃ (j : Nat), k = l.length - j ∧ j ≤ l.length ∧ (l.take j).any badK = false ∧ σ = ⟨slots 19 [(0, .one (.sl IT l)), (1, .one (.fn 52 [])), (7, .one (.int .i64 l.length)), (8, .one (.int .i64 j))], []⟩) ?_ l.length ⟨0, by omega, by omega, rfl, rfl⟩
    rintro k σ K' ⟨j, rfl, hj, hn, rfl⟩ hK'
    have w2 := IntWalk.i64_in ((j : Int) + 1) (by omega)
    by_cases h1 : j < l.length
    case neg =>
      have f1 : decide ((j : Int) < l.length) = false := decide_eq_false (by omega)
      rw [List.take_of_length_le (by omega)] at hn
      refine zs1 f1 ?_
      exact hk (-1) (by rw [hn]; rfl)
    have f1 : decide ((j : Int) < l.length) = true := decide_eq_true (by omega)
    obtain ⟨x, hx⟩ : ∃ x, l[j]? = some x := ⟨_, List.getElem?_eq_getElem h1⟩
    have rr := nth_of hx IT.dflt
    have ii : (0 : Int) ≤ j ∧ (j : Int) < l.length := ⟨by omega, by omega⟩
    cases g0 : badK x with
    | true =>
      refine zs3 f1 rr g0 ?_
      exact hk j (by rw [any_at hx g0]; simp)
    | false =>
      refine zs4 f1 rr g0 w2 ?_
      exact hK' _ _ (by omega) ⟨j + 1, rfl, by omega, any_take_next hx hn g0, rfl⟩
  · simp only [big] at hb
    refine zv ?_
    refine iter_of (I := fun k σ => ∃ (j : Nat), k = l.length - j ∧ j ≤ l.length ∧ (l.take j).any (offD m jb.dom) = false ∧ σ = ⟨slots 19 [(0, .one (.sl IT l)), (1, .one (.fn 91 [0, 1])), (7, .one (.int .i64 l.length)), (8, .one (.int .i64 j))], [.box 32 (m.cs (.sl RT m.rc)), .box 36 jb.fz]⟩) ?_ l.length ⟨0, by omega, by omega, rfl, rfl⟩
    rintro k σ K' ⟨j, rfl, hj, hn, rfl⟩ hK'
    have w2 := IntWalk.i64_in ((j : Int) + 1) (by omega)
    by_cases h1 : j < l.length
    case neg =>
      have f1 : decide ((j : Int) < l.length) = false := decide_eq_false (by omega)
      rw [List.take_of_length_le (by omega)] at hn
      refine zs1 f1 ?_
      exact hk (-1) (by rw [hn]; rfl)
    have f1 : decide ((j : Int) < l.length) = true := decide_eq_true (by omega)
    obtain ⟨x, hx⟩ : ∃ x, l[j]? = some x := ⟨_, List.getElem?_eq_getElem h1⟩
    have rr := nth_of hx IT.dflt
    have ii : (0 : Int) ≤ j ∧ (j : Int) < l.length := ⟨by omega, by omega⟩
    obtain ⟨hx0, hx1⟩ := hin x (List.mem_of_getElem? hx)
    refine zs2 f1 rr ?_
    refine ⟨x, m, jb, rfl, rfl, hx0, hx1, ?_⟩
    cases g0 : offD m jb.dom x with
    | true =>
      refine zs1 g0 ?_
      exact hk j (by rw [any_at hx g0]; simp)
    | false =>
      refine zs2 g0 w2 ?_
      exact hK' _ _ (by omega) ⟨j + 1, rfl, by omega, any_take_next hx hn g0, rfl⟩
def Γ51q : Sems := ext 93 q93 (Γ0)
theorem Γ51q.ok : SemsOK G Tryz.prog Γ51q := (Γ0.ok.ext Tryz.func93 rfl (by decide) qk93)
def q51 : Sense := ⟨false, fun os xs K => ∃ (l : List Int), l.length ≤ big ∧
  ((xs = [.one (.sl IT l), .one (.fn 52 [])] ∧ os = [] ∧ K [] (.ret (.one (.bool (l.any badK))))) ∨
   (∃ (m : Md) (j : Jb), xs = [.one (.sl IT l), .one (.fn 91 [0, 1])] ∧ os = [.box 32 (m.cs (.sl RT m.rc)), .box 36 j.fz] ∧ (∀ i ∈ l, 0 ≤ i ∧ i < m.rc.length) ∧ K os (.ret (.one (.bool (l.any (offD m j.dom)))))))⟩
theorem qk51 : SenseOK G Tryz.prog 51 q51 := SenseOK.any Γ51q.ok (fun _ => []) Tryz.func51 fun os xs K h => by
  obtain ⟨l, hb, ⟨rfl, rfl, hk⟩ | ⟨m, jb, rfl, rfl, hin, hk⟩⟩ := h
  · refine zv ?_
    refine ⟨l, hb, .inl ⟨rfl, rfl, fun i hi => ?_⟩⟩
    refine zs1 hi ?_
    exact hk
  · refine zv ?_
    refine ⟨l, hb, .inr ⟨m, jb, rfl, rfl, hin, fun i hi => ?_⟩⟩
    refine zs1 hi ?_
    exact hk
def jobP (j : Jb) (m : Md) : Bool := (j.m == m.id) && ((j.t == m.te) && (domL (bl j.dom) && (!(j.rc.length == 0) && (risB j.rc m.rc.length && !j.rc.any (offD m j.dom)))))
theorem ris_in {m : Int} : ∀ {l : List Int} {p : Option Int}, risF m p l = true → ∀ i ∈ l, 0 ≤ i ∧ i < m
  | [], _, _, i, hi => by cases hi
  | x :: l, p, h, i, hi => by
    rw [risF_cons] at h
    simp only [Bool.and_eq_true, decide_eq_true_eq] at h
    rcases List.mem_cons.1 hi with rfl | hi
    · omega
    · exact ris_in h.2.2 i hi
def Γ49q : Sems := ext 34 s38 (ext 90 q90 (ext 51 q51 (Γ0)))
theorem Γ49q.ok : SemsOK Gr Tryz.prog Γ49q := (((Γ0.ok.ext Tryz.func51 rfl (by decide) qk51).ext Tryz.func90 rfl (by decide) qk90).ext Tryz.func34 rfl (by decide) ok38)
def Jb.sml (j : Jb) : Prop := j.rc.length ≤ big ∧ j.dom.size ≤ mid
def q49 : Sense := ⟨false, fun os xs K => ∃ (j : Jb) (m : Md), xs = [.agg j.fz, .agg (m.cs (.sl RT m.rc))] ∧ os = [] ∧ j.sml ∧ m.rc.length ≤ big ∧ K [] (.ret (.one (.bool (jobP j m))))⟩
theorem qk49 : SenseOK Gr Tryz.prog 49 q49 := SenseOK.any Γ49q.ok (fun _ => []) Tryz.func49 fun os xs K h => by
  obtain ⟨j, m, rfl, rfl, ⟨hb, hd⟩, hm, hk⟩ := h
  have hm' := hm
  simp only [big] at hm'
  have hb' := hb
  simp only [big] at hb'
  have hk' : ∀ b, jobP j m = b → K [] (.ret (.one (.bool b))) := fun b h => h ▸ hk
  unfold jobP at hk'
  cases h1 : (j.m == m.id) with
  | false =>
    have f1 : (j.m != m.id) = true := by rw [bne, h1]; rfl
    rw [h1] at hk'
    refine zs1 f1 ?_
    exact hk' _ rfl
  | true =>
  have f1 : (j.m != m.id) = false := by rw [bne, h1]; rfl
  rw [h1] at hk'
  cases h2 : (j.t == m.te) with
  | false =>
    have f2 : (j.t != m.te) = true := by rw [bne, h2]; rfl
    rw [h2] at hk'
    refine zs2 f1 f2 ?_
    exact hk' _ rfl
  | true =>
  have f2 : (j.t != m.te) = false := by rw [bne, h2]; rfl
  rw [h2] at hk'
  cases h3 : domL (bl j.dom) with
  | false =>
    rw [h3] at hk'
    refine zs3 f1 f2 h3 ?_
    exact hk' _ rfl
  | true =>
  rw [h3] at hk'
  cases h4 : ((j.rc.length : Int) == 0) with
  | true =>
    have h4' : (j.rc.length == 0) = true := by simpa using h4
    rw [h4'] at hk'
    refine zs4 f1 f2 h3 h4 ?_
    exact hk' _ rfl
  | false =>
  have h4' : (j.rc.length == 0) = false := by simpa using h4
  rw [h4'] at hk'
  cases h5 : risB j.rc (m.rc.length : Int) with
  | false =>
    rw [h5] at hk'
    refine zs5 f1 f2 h3 h4 h5 ?_
    exact hk' _ rfl
  | true =>
  rw [h5] at hk'
  refine zs5 f1 f2 h3 h4 h5 ?_
  refine ⟨j.rc, hb, .inr ⟨m, j, rfl, rfl, ris_in h5, ?_⟩⟩
  refine zv ?_
  exact hk' _ rfl
def badC (c : Int) : Bool := decide (c < 32) || decide (c > 126)
def plainT (l : List Int) : Bool := !l.any badC && decide (l.length ≤ 506)
def q191 : Sense := pureS fun xs K => ∃ s, xs = [.one (.str s)] ∧ s.size ≤ big ∧ K (.ret (.one (.bool (plainT (bl s)))))
theorem qk191 : SenseOK G Tryz.prog 191 q191 := SenseOK.pure Γ0.ok (fun _ => [0, 5, 6]) Tryz.func191 fun xs K h => by
  obtain ⟨s, rfl, hb, hk⟩ := h
  simp only [big] at hb
  have hlen := bl_len s
  refine zv ?_
  refine iter_of (I := fun k σ => ∃ (j : Nat), k = s.size - j ∧ j ≤ s.size ∧ ((bl s).take j).any badC = false ∧ σ = ⟨slots 23 [(0, .one (.str s)), (5, .one (.int .i64 s.size)), (6, .one (.int .i64 j))], []⟩) ?_ s.size ⟨0, by omega, by omega, rfl, rfl⟩
  rintro k σ K' ⟨j, rfl, hj, hn, rfl⟩ hK'
  have w1 := IntWalk.i64_in ((j : Int) + 1) (by omega)
  by_cases h1 : j < s.size
  case neg =>
    have f1 : decide ((j : Int) < s.size) = false := by simp; omega
    obtain rfl : j = s.size := by omega
    rw [List.take_of_length_le (by omega)] at hn
    have hc : plainT (bl s) = decide ((s.size : Int) ≤ 506) := by rw [plainT, hn, hlen]; simp; omega
    rw [hc] at hk
    refine zs1 f1 ?_
    exact hk
  have f1 : decide ((j : Int) < s.size) = true := by simpa using h1
  have hg := bl_get h1
  by_cases g1 : bt s j < 32
  · have e1 : decide (bt s j < 32) = true := decide_eq_true g1
    have hc : plainT (bl s) = false := by rw [plainT, any_at hg (by rw [badC, e1]; rfl)]; rfl
    rw [hc] at hk
    refine zs2 f1 e1 ?_
    exact hk
  have e1 : decide (bt s j < 32) = false := decide_eq_false g1
  by_cases g2 : bt s j > 126
  · have e2 : decide (bt s j > 126) = true := decide_eq_true g2
    have hc : plainT (bl s) = false := by rw [plainT, any_at hg (by rw [badC, e2, Bool.or_true])]; rfl
    rw [hc] at hk
    refine zs3 f1 e1 e2 ?_
    exact hk
  have e2 : decide (bt s j > 126) = false := decide_eq_false g2
  refine zs4 f1 e1 e2 w1 ?_
  exact hK' _ _ (by omega) ⟨j + 1, rfl, by omega, any_take_next hg hn (by rw [badC, e1, e2]; rfl), rfl⟩
def q178 : Sense := pureS fun xs K => ∃ s, xs = [.one (.str s), .one (.int .u8 32)] ∧ s.size ≤ big ∧ K (.ret (.one (.bool (!(bl s).any badC))))
theorem qk178 : SenseOK G Tryz.prog 178 q178 := SenseOK.pure Γ0.ok (fun _ => [0, 1, 5]) Tryz.func178 fun xs K h => by
  obtain ⟨s, rfl, hb, hk⟩ := h
  simp only [big] at hb
  have hlen := bl_len s
  refine zv ?_
  refine iter_of (I := fun k σ => ∃ (j : Nat), k = s.size - j ∧ j ≤ s.size ∧ ((bl s).take j).any badC = false ∧ σ = ⟨slots 23 [(0, .one (.str s)), (1, .one (.int .u8 32)), (5, .one (.int .i64 j))], []⟩) ?_ s.size ⟨0, by omega, by omega, rfl, rfl⟩
  rintro k σ K' ⟨j, rfl, hj, hn, rfl⟩ hK'
  have w1 := IntWalk.i64_in ((j : Int) + 1) (by omega)
  by_cases h1 : j < s.size
  case neg =>
    have f1 : decide ((j : Int) < s.size) = false := by simp; omega
    obtain rfl : j = s.size := by omega
    rw [List.take_of_length_le (by omega)] at hn
    rw [hn] at hk
    refine zs1 f1 ?_
    exact hk
  have f1 : decide ((j : Int) < s.size) = true := by simpa using h1
  have hg := bl_get h1
  by_cases g1 : bt s j < 32
  · have e1 : decide (bt s j < 32) = true := decide_eq_true g1
    rw [any_at hg (by rw [badC, e1]; rfl)] at hk
    refine zs2 f1 e1 ?_
    exact hk
  have e1 : decide (bt s j < 32) = false := decide_eq_false g1
  by_cases g2 : bt s j > 126
  · have e2 : decide (bt s j > 126) = true := decide_eq_true g2
    rw [any_at hg (by rw [badC, e2, Bool.or_true])] at hk
    refine zs3 f1 e1 e2 ?_
    exact hk
  have e2 : decide (bt s j > 126) = false := decide_eq_false g2
  refine zs4 f1 e1 e2 w1 ?_
  exact hK' _ _ (by omega) ⟨j + 1, rfl, by omega, any_take_next hg hn (by rw [badC, e1, e2]; rfl), rfl⟩
def Γ149q : Sems := ext 178 q178 (Γ0)
theorem Γ149q.ok : SemsOK G Tryz.prog Γ149q := (Γ0.ok.ext Tryz.func178 rfl (by decide) qk178)
def q161 : Sense := pureS fun xs K => ∃ b e, xs = [.one (.bool b), .one (.int .i64 e)] ∧ Br b (K (.ret (.tup []))) (K (.pan (.ifa 173 .i64 e)))
theorem qk161 : SenseOK G Tryz.prog 161 q161 := SenseOK.pure Γ0.ok (fun _ => []) Tryz.func161 fun xs K h => by
  obtain ⟨b, e, rfl, hk⟩ := h
  have hk' := Br_iff.1 hk
  refine zv ?_
  refine Br.mk (fun h1 => ?_) (fun h1 => ?_)
  · refine zv ?_
    exact hk'.2 (by simpa using h1)
  · refine zv ?_
    exact hk'.1 (by simpa using h1)
def dg (c : Int) : Bool := decide (48 ≤ c) && decide (c ≤ 57)
def rpTail (code : Int) : List Int → Option (Int × Bool)
  | [] => some (code, false)
  | d :: t => bif (decide (d = 32) || decide (d = 45)) && plainT t then some (code, decide (d = 45)) else none
def rpLine : List Int → Option (Int × Bool)
  | a :: b :: c :: r => bif (decide (50 ≤ a) && decide (a ≤ 53)) && (dg b && dg c) then rpTail (100 * (a - 48) + 10 * (b - 48) + (c - 48)) r else none
  | _ => none
def Γ162q : Sems := ext 161 q161 (ext 191 q191 (Γ0))
theorem Γ162q.ok : SemsOK G Tryz.prog Γ162q := ((Γ0.ok.ext Tryz.func191 rfl (by decide) qk191).ext Tryz.func161 rfl (by decide) qk161)
theorem bl3 {s : ByteArray} (h : 3 ≤ s.size) : bl s = bt s 0 :: bt s 1 :: bt s 2 :: (bl s).drop 3 := by
  have h0 := bl_drop (s := s) (j := 0) (by omega)
  have h1 := bl_drop (s := s) (j := 1) (by omega)
  have h2 := bl_drop (s := s) (j := 2) (by omega)
  rw [List.drop_zero] at h0
  rw [h0]
  show _ :: List.drop 1 (bl s) = _
  rw [h1]
  show _ :: _ :: List.drop 2 (bl s) = _
  rw [h2]
  rfl
theorem rpLine_short {s : ByteArray} (h : ¬ 3 ≤ s.size) : rpLine (bl s) = none := by
  have hl := bl_len s
  match hb : bl s with
  | [] => rfl
  | [_] => rfl
  | [_, _] => rfl
  | a :: b :: c :: r => rw [hb] at hl; simp at hl; omega
def q162 : Sense := pureS fun xs K => ∃ s, xs = [.one (.str s)] ∧ s.size ≤ big ∧ (rpLine (bl s) = none → K (.pan (.ifa 173 .i64 1))) ∧
  ∀ c m t, rpLine (bl s) = some (c, m) → K (.ret (.tup [.one (.int .i64 c), .one (.str t), .one (.bool m)]))
theorem qk162 : SenseOK G Tryz.prog 162 q162 := SenseOK.pure Γ162q.ok (fun _ => [0, 2, 20]) Tryz.func162 fun xs K h => by
  obtain ⟨s, rfl, hb, hk0, hk1⟩ := h
  simp only [big] at hb
  by_cases h3 : 3 ≤ s.size
  case neg =>
    have f0 : decide ((s.size : Int) ≥ 3) = false := decide_eq_false (by omega)
    refine zs1 f0 ?_
    exact hk0 (rpLine_short h3)
  have f0 : decide ((s.size : Int) ≥ 3) = true := decide_eq_true (by omega)
  have hl := bl3 h3
  rw [hl] at hk0 hk1
  by_cases a1 : 50 ≤ bt s 0
  case neg =>
    have e1 : decide (bt s 0 ≥ 50) = false := decide_eq_false a1
    refine zs2 f0 e1 ?_
    exact hk0 (by simp only [rpLine]; rw [decide_eq_false a1]; rfl)
  have e1 : decide (bt s 0 ≥ 50) = true := decide_eq_true a1
  by_cases a2 : bt s 0 ≤ 53
  case neg =>
    have e2 : decide (bt s 0 ≤ 53) = false := decide_eq_false a2
    refine zs3 f0 e1 e2 ?_
    exact hk0 (by simp only [rpLine]; rw [decide_eq_false a2]; simp)
  have e2 : decide (bt s 0 ≤ 53) = true := decide_eq_true a2
  have w01 : IntKind.i64.wrap (0 + 1) = 1 := by decide
  have w12 : IntKind.i64.wrap (1 + 1) = 2 := by decide
  have w23 : IntKind.i64.wrap (2 + 1) = 3 := by decide
  have e3 : decide (bt s 0 ≥ 48) = true := decide_eq_true (by omega)
  have e4 : decide (bt s 0 ≤ 57) = true := decide_eq_true (by omega)
  have i0 : (0 : Int) ≤ 0 ∧ (0 : Int) < s.size := ⟨by omega, by omega⟩
  have i1 : (0 : Int) ≤ 1 ∧ (1 : Int) < s.size := ⟨by omega, by omega⟩
  have i2 : (0 : Int) ≤ 2 ∧ (2 : Int) < s.size := ⟨by omega, by omega⟩
  have u1 : IntKind.i64.wrap (10 * 0) = 0 := by decide
  have u2 : IntKind.u8.wrap (bt s 0 - 48) = bt s 0 - 48 := by simp [IntKind.wrap, IntKind.signed, IntKind.bits]; omega
  have u3 : IntKind.i64.wrap (bt s 0 - 48) = bt s 0 - 48 := IntWalk.i64_in _ (by omega)
  have u4 : IntKind.i64.wrap (0 + (bt s 0 - 48)) = bt s 0 - 48 := by rw [Int.zero_add]; exact u3
  have u5 : IntKind.i64.wrap (10 * (bt s 0 - 48)) = 10 * (bt s 0 - 48) := IntWalk.i64_in _ (by omega)
  by_cases b1 : 48 ≤ bt s 1
  case neg =>
    have e5 : decide (bt s 1 ≥ 48) = false := decide_eq_false b1
    refine zs3 f0 e1 e2 ?_
    refine ⟨4, ?_⟩
    refine zs7 f0 e3 e4 e5 w01 w12 w23 ?_
    exact hk0 (by simp only [rpLine, dg]; rw [decide_eq_false b1]; simp)
  have e5 : decide (bt s 1 ≥ 48) = true := decide_eq_true b1
  by_cases b2 : bt s 1 ≤ 57
  case neg =>
    have e6 : decide (bt s 1 ≤ 57) = false := decide_eq_false b2
    refine zs3 f0 e1 e2 ?_
    refine ⟨4, ?_⟩
    refine zs8 f0 e3 e4 e5 e6 w01 w12 w23 ?_
    exact hk0 (by simp only [rpLine, dg]; rw [decide_eq_false b2]; simp)
  have e6 : decide (bt s 1 ≤ 57) = true := decide_eq_true b2
  have v2 : IntKind.u8.wrap (bt s 1 - 48) = bt s 1 - 48 := by simp [IntKind.wrap, IntKind.signed, IntKind.bits]; omega
  have v3 : IntKind.i64.wrap (bt s 1 - 48) = bt s 1 - 48 := IntWalk.i64_in _ (by omega)
  have v4 : IntKind.i64.wrap (10 * (bt s 0 - 48) + (bt s 1 - 48)) = 10 * (bt s 0 - 48) + (bt s 1 - 48) := IntWalk.i64_in _ (by omega)
  have v5 : IntKind.i64.wrap (10 * (10 * (bt s 0 - 48) + (bt s 1 - 48))) = 10 * (10 * (bt s 0 - 48) + (bt s 1 - 48)) := IntWalk.i64_in _ (by omega)
  by_cases c1 : 48 ≤ bt s 2
  case neg =>
    have e7 : decide (bt s 2 ≥ 48) = false := decide_eq_false c1
    refine zs3 f0 e1 e2 ?_
    refine ⟨4, ?_⟩
    ((conv => whnf); repeat ((first | refine Br.t ?_ | refine Br.f ?_ | refine ob ?_ | refine ⟨_, rfl, ?_⟩ | refine ⟨_, _, rfl, ?_⟩ | refine ⟨_, _, _, rfl, ?_⟩ | refine ⟨_, _, _, _, rfl, ?_⟩ | simp only [f0, e3, e4, e5, e6, e7, w01, w12, w23]); (conv => whnf)))
    exact hk0 (by simp only [rpLine, dg]; rw [decide_eq_false c1]; simp)
  have e7 : decide (bt s 2 ≥ 48) = true := decide_eq_true c1
  by_cases c2 : bt s 2 ≤ 57
  case neg =>
    have e8 : decide (bt s 2 ≤ 57) = false := decide_eq_false c2
    refine zs3 f0 e1 e2 ?_
    refine ⟨4, ?_⟩
    ((conv => whnf); repeat ((first | refine Br.t ?_ | refine Br.f ?_ | refine ob ?_ | refine ⟨_, rfl, ?_⟩ | refine ⟨_, _, rfl, ?_⟩ | refine ⟨_, _, _, rfl, ?_⟩ | refine ⟨_, _, _, _, rfl, ?_⟩ | simp only [f0, e3, e4, e5, e6, e7, e8, w01, w12, w23]); (conv => whnf)))
    exact hk0 (by simp only [rpLine, dg]; rw [decide_eq_false c2]; simp)
  have e8 : decide (bt s 2 ≤ 57) = true := decide_eq_true c2
  have x2 : IntKind.u8.wrap (bt s 2 - 48) = bt s 2 - 48 := by simp [IntKind.wrap, IntKind.signed, IntKind.bits]; omega
  have x3 : IntKind.i64.wrap (bt s 2 - 48) = bt s 2 - 48 := IntWalk.i64_in _ (by omega)
  have x4 : IntKind.i64.wrap (10 * (10 * (bt s 0 - 48) + (bt s 1 - 48)) + (bt s 2 - 48)) = 100 * (bt s 0 - 48) + 10 * (bt s 1 - 48) + (bt s 2 - 48) := by rw [IntWalk.i64_in _ (by omega)]; omega
  have hR : rpLine (bt s 0 :: bt s 1 :: bt s 2 :: (bl s).drop 3) = rpTail (100 * (bt s 0 - 48) + 10 * (bt s 1 - 48) + (bt s 2 - 48)) ((bl s).drop 3) := by
    simp only [rpLine, dg]
    rw [decide_eq_true a1, decide_eq_true a2, decide_eq_true b1, decide_eq_true b2, decide_eq_true c1, decide_eq_true c2]
    rfl
  rw [hR] at hk0 hk1
  refine zs3 f0 e1 e2 ?_
  refine ⟨4, ?_⟩
  by_cases d0 : s.size = 3
  · have e9 : ((s.size : Int) == 3) = true := by simp; omega
    have hd : (bl s).drop 3 = [] := List.drop_of_length_le (by rw [bl_len]; omega)
    rw [hd] at hk1
    ((conv => whnf); repeat ((first | refine Br.t ?_ | refine Br.f ?_ | refine ob ?_ | refine ⟨_, rfl, ?_⟩ | refine ⟨_, _, rfl, ?_⟩ | refine ⟨_, _, _, rfl, ?_⟩ | refine ⟨_, _, _, _, rfl, ?_⟩ | simp only [f0, e3, e4, e5, e6, e7, e8, e9, w01, w12, w23, u1, u2, u3, u4, u5, v2, v3, v4, v5, x2, x3, x4]); (conv => whnf)))
    exact hk1 _ _ _ rfl
  have e9 : ((s.size : Int) == 3) = false := by simp; omega
  have i3 : (0 : Int) ≤ 3 ∧ (3 : Int) < s.size := ⟨by omega, by omega⟩
  have hd : (bl s).drop 3 = bt s 3 :: (bl s).drop 4 := bl_drop (s := s) (j := 3) (by omega)
  rw [hd] at hk0 hk1
  have i4 : (0 : Int) ≤ 4 ∧ (4 : Int) ≤ s.size := ⟨by omega, by omega⟩
  have hex : bl (s.extract (Int.toNat 4) s.size) = (bl s).drop 4 := by
    rw [bl_extract, List.take_of_length_le (by rw [bl_len]; omega)]; rfl
  have hsz : (s.extract (Int.toNat 4) s.size).size ≤ big := by
    rw [← bl_len, hex, List.length_drop, bl_len]; simp only [big]; omega
  by_cases d1 : bt s 3 = 32
  · have g1 : (bt s 3 == 32) = true := by simpa using d1
    have g2 : (bt s 3 == 45) = false := by simp; omega
    cases hp : plainT ((bl s).drop 4) with
    | false =>
      have hp' : plainT (bl (s.extract (Int.toNat 4) s.size)) = false := by rw [hex]; exact hp
      ((conv => whnf); repeat ((first | refine Br.t ?_ | refine Br.f ?_ | refine ob ?_ | refine ⟨_, rfl, ?_⟩ | refine ⟨_, _, rfl, ?_⟩ | refine ⟨_, _, _, rfl, ?_⟩ | refine ⟨_, _, _, _, rfl, ?_⟩ | simp only [f0, e3, e4, e5, e6, e7, e8, e9, w01, w12, w23, u1, u2, u3, u4, u5, v2, v3, v4, v5, x2, x3, x4, g1, g2, hp']); (conv => whnf)))
      exact hk0 (by simp only [rpTail]; rw [hp]; simp)
    | true =>
      have hp' : plainT (bl (s.extract (Int.toNat 4) s.size)) = true := by rw [hex]; exact hp
      ((conv => whnf); repeat ((first | refine Br.t ?_ | refine Br.f ?_ | refine ob ?_ | refine ⟨_, rfl, ?_⟩ | refine ⟨_, _, rfl, ?_⟩ | refine ⟨_, _, _, rfl, ?_⟩ | refine ⟨_, _, _, _, rfl, ?_⟩ | simp only [f0, e3, e4, e5, e6, e7, e8, e9, w01, w12, w23, u1, u2, u3, u4, u5, v2, v3, v4, v5, x2, x3, x4, g1, g2, hp']); (conv => whnf)))
      refine ⟨[], (.take 0 (.take 1 (.take 3 (.take 4 (.take 5 (.take 6 (.br 2 (.take 7 (.take 8 .done)) .nil))))))), ⟨by kernel_rfl⟩, ?_⟩
      ((conv => whnf); repeat ((first | refine Br.t ?_ | refine Br.f ?_ | refine ob ?_ | refine ⟨_, rfl, ?_⟩ | refine ⟨_, _, rfl, ?_⟩ | refine ⟨_, _, _, rfl, ?_⟩ | refine ⟨_, _, _, _, rfl, ?_⟩ | simp only [f0, e3, e4, e5, e6, e7, e8, e9, w01, w12, w23, u1, u2, u3, u4, u5, v2, v3, v4, v5, x2, x3, x4, g1, g2, hp']); (conv => whnf)))
      exact hk1 _ _ _ (by simp only [rpTail]; rw [hp, d1]; rfl)
  have g1 : (bt s 3 == 32) = false := by simpa using d1
  by_cases d2 : bt s 3 = 45
  · have g2 : (bt s 3 == 45) = true := by simpa using d2
    cases hp : plainT ((bl s).drop 4) with
    | false =>
      have hp' : plainT (bl (s.extract (Int.toNat 4) s.size)) = false := by rw [hex]; exact hp
      ((conv => whnf); repeat ((first | refine Br.t ?_ | refine Br.f ?_ | refine ob ?_ | refine ⟨_, rfl, ?_⟩ | refine ⟨_, _, rfl, ?_⟩ | refine ⟨_, _, _, rfl, ?_⟩ | refine ⟨_, _, _, _, rfl, ?_⟩ | simp only [f0, e3, e4, e5, e6, e7, e8, e9, w01, w12, w23, u1, u2, u3, u4, u5, v2, v3, v4, v5, x2, x3, x4, g1, g2, hp']); (conv => whnf)))
      exact hk0 (by simp only [rpTail]; rw [hp]; simp)
    | true =>
      have hp' : plainT (bl (s.extract (Int.toNat 4) s.size)) = true := by rw [hex]; exact hp
      ((conv => whnf); repeat ((first | refine Br.t ?_ | refine Br.f ?_ | refine ob ?_ | refine ⟨_, rfl, ?_⟩ | refine ⟨_, _, rfl, ?_⟩ | refine ⟨_, _, _, rfl, ?_⟩ | refine ⟨_, _, _, _, rfl, ?_⟩ | simp only [f0, e3, e4, e5, e6, e7, e8, e9, w01, w12, w23, u1, u2, u3, u4, u5, v2, v3, v4, v5, x2, x3, x4, g1, g2, hp']); (conv => whnf)))
      refine ⟨[], (.take 0 (.take 1 (.take 3 (.take 4 (.take 5 (.take 6 (.br 2 (.take 7 (.take 8 .done)) .nil))))))), ⟨by kernel_rfl⟩, ?_⟩
      ((conv => whnf); repeat ((first | refine Br.t ?_ | refine Br.f ?_ | refine ob ?_ | refine ⟨_, rfl, ?_⟩ | refine ⟨_, _, rfl, ?_⟩ | refine ⟨_, _, _, rfl, ?_⟩ | refine ⟨_, _, _, _, rfl, ?_⟩ | simp only [f0, e3, e4, e5, e6, e7, e8, e9, w01, w12, w23, u1, u2, u3, u4, u5, v2, v3, v4, v5, x2, x3, x4, g1, g2, hp']); (conv => whnf)))
      exact hk1 _ _ _ (by simp only [rpTail]; rw [hp, d2]; rfl)
  have g2 : (bt s 3 == 45) = false := by simpa using d2
  ((conv => whnf); repeat ((first | refine Br.t ?_ | refine Br.f ?_ | refine ob ?_ | refine ⟨_, rfl, ?_⟩ | refine ⟨_, _, rfl, ?_⟩ | refine ⟨_, _, _, rfl, ?_⟩ | refine ⟨_, _, _, _, rfl, ?_⟩ | simp only [f0, e3, e4, e5, e6, e7, e8, e9, w01, w12, w23, u1, u2, u3, u4, u5, v2, v3, v4, v5, x2, x3, x4, g1, g2]); (conv => whnf)))
  exact hk0 (by simp only [rpTail]; rw [decide_eq_false d1, decide_eq_false d2]; rfl)
end Go.Proofs.YtilagaapfbfkkaaGreatDoor.Ab
namespace Go.Proofs.YtilagaapfbfkkaaGreatDoor.Ab
open Go Go.RowKit Go.Proofs.YtilagaapfbfkkaaGreatDoorW.PrintWords
variable {X : Cx} {P : Program} {T : Tab} {Γ : Sems}
def SenseD (G : World → Prop) (P : Program) (f : FuncId) (s : Sense) : Prop :=
  ∀ (u : FrameMode) (X : Cx) (w : World) (lk : List Value) (os : List Ob) (as_ : List V) (vs : List Value) (K : List Ob → Out → Prop), ORel X w lk os → X.l0 = lk → (∀ b, X.hid b → b < w.heap.size) → X.gr = G → Gnd X w →
    All2 (VRep w (Imm X w lk) lk) as_ vs → s.f os as_ K → CallsD P f vs.toArray u w (fun e u' w' => u' = u ∧ Post X w lk s.ro K e w')
theorem SenseD.of {G : World → Prop} (hT : TabOK P T) (hΓ : SemsOK G P Γ) {f : FuncId} {fn : Func} (L : Nat → List Nat) (s : Sense) (hf : P.funcs[f]? = some fn)
    (hro : s.ro = true → ∀ os as_ K, s.f os as_ K → os = [])
    (h : ∀ os as_ K, s.f os as_ K → evFn T Γ L fn os as_ K) : SenseD G P f s := by
  intro u X0 w lk os as_ vs K hO0 hl0 hX hXG hgr has0 hs
  suffices hd : ∀ X : Cx, X.df = [] → ORel X w lk os → X.l0 = lk → (∀ b, X.hid b → b < w.heap.size) → X.gr = G → Gnd X w → All2 (VRep w (Imm X w lk) lk) as_ vs → CallsD P f vs.toArray u w (fun e u' w' => u' = u ∧ Post X w lk s.ro K e w') from
    (hd ⟨X0.hid, X0.l0, X0.gr, [], X0.pub, X0.ph⟩ rfl (hO0.dfs []) hl0 hX hXG hgr has0).mono fun e u' w' hp => ⟨hp.1, hp.2.undfs⟩
  clear hO0 hl0 hX hXG hgr has0
  intro X hdf hO hl0 hX hXG hgr has
  subst hXG
  have hev := h os as_ K hs
  unfold evFn at hev
  split at hev
  · exact hev.elim
  rename_i c hc
  refine callsD_of_wp hf hc ?_
  have hml : X.l0.length = len os := by rw [hl0, len_length, hO.lsz]
  have hal := has.length
  let M : Nat → Prop := fun b => ∃ v ∈ lk, blk v = some b
  have hr : Rel X w lk ⟨padT fn.ntmps as_, os⟩ { tmps := vs.toArray ++ Array.replicate (fn.ntmps - vs.toArray.size) undef, defers := [] } := by
    refine ORel.toR hO ?_ (fun t x hx => ?_) hdf.symm
    · simp [padT, tops_length, len_length, hal]
    · simp only [padT] at hx
      rcases Nat.lt_or_ge t as_.length with hlt | hge
      · rw [List.getElem?_append_left hlt] at hx
        obtain ⟨u, hu, hru⟩ := has.get hx
        have htl : t < vs.length := (List.getElem?_eq_some_iff.1 hu).1
        have : (vs.toArray ++ Array.replicate (fn.ntmps - vs.toArray.size) undef).getD t undef = u := by
          rw [Array.getD_eq_getD_getElem?, Array.getElem?_append_left (by simpa using htl)]
          simp [hu]
        rw [this]; exact hru
      · rw [List.getElem?_append_right hge] at hx
        rw [tops_get _ _ _ hx]; trivial
  have hi : Inv X M w w lk := ⟨Keep.refl _ _, fun v hv b hb => .inl ⟨v, hv, hb⟩, hX, fun b hb ⟨v, hv, hvb⟩ => by
    obtain ⟨i, hi⟩ := List.mem_iff_getElem?.1 hv
    exact hO.nx i v b hi hvb hb, hgr⟩
  have fin : ∀ (σ' : St) (a' : Act) (w' : World) (lk' : List Value), Inv X M w w' lk' → (∀ v ∈ lk', ∀ b, blk v = some b → (∃ u ∈ lk, blk u = some b) ∨ w.heap.size ≤ b) ∧ Keep (fun b => s.ro = false ∧ ∃ v ∈ lk, blk v = some b) w w' := by
    intro σ' a' w' lk' hi'
    refine ⟨hi'.news, hi'.keep.os, hi'.keep.tape, hi'.keep.output, hi'.keep.size, fun k hk hnk => hi'.keep.block k hk (fun hM => ?_)⟩
    cases hsr : s.ro with
    | false => exact hnk ⟨hsr, hM⟩
    | true =>
      have := hro hsr os as_ K hs
      subst this
      have hl : lk = [] := List.length_eq_zero_iff.1 (by rw [hO.lsz]; rfl)
      obtain ⟨v, hv, _⟩ := hM
      rw [hl] at hv; simp at hv
  refine evCode_sound (M := M) (w0 := w) hT hΓ hml c hev hr hi ?_ (.inr fun c a a' w h1 h2 => ⟨h1.trans h2.1, h2.2⟩)
  intro e σ' a' w' lk' ex hq he hr' hi'
  have key : resK T σ' fn.results.toList (fun r => gc (len os) [0] ⟨[outOf r], σ'.objs⟩ fun σ2 => match σ2.tmps with
      | [v] => K σ2.objs (.ret v)
      | _ => False) → a'.defers = [] ∧ ∃ v, (results fn a'.tmps).run P w' = .ok v w' ∧ Post X w lk s.ro K (.returned v) w' := by
    intro hk
    obtain ⟨es, v, hq2, hrun, hv⟩ := results_sound hT hr' hk
    have hrv : Rel X w' lk' ⟨[outOf es], σ'.objs⟩ { tmps := #[v], defers := [] } := ORel.toR hr'.toO rfl (fun t x hx => by
      cases t with
      | zero => simp at hx; subst hx; exact hv
      | succ t => simp at hx) hdf.symm
    obtain ⟨σ2, lk2, hq3, hr3, hi3⟩ := gc_sound hq2 hrv hi' hml
    obtain ⟨f1, f2⟩ := fin σ2 a' w' lk2 hi3
    obtain ⟨ts, os2⟩ := σ2
    match ts, hq3, hr3 with
    | [x], hq3, hr3 => exact ⟨hr'.df.trans hdf, v, hrun, os2, lk2, .ret x, hq3, hr3.toO, f2, f1, v, rfl, hr3.tm 0 x rfl⟩
    | [], hq3, _ => exact hq3.elim
    | _ :: _ :: _, hq3, _ => exact hq3.elim
  cases e with
  | normal => simp only [exOf, Option.some.injEq] at he; subst he; exact key hq
  | ret => simp only [exOf, Option.some.injEq] at he; subst he; exact key hq
  | exit i => exact hq.elim
  | panic p =>
    cases p <;> simp [exOf] at he
    subst he
    have hrv : Rel X w' lk' ⟨[], σ'.objs⟩ { tmps := #[], defers := [] } := ORel.toR hr'.toO rfl (fun t x hx => by simp at hx) hdf.symm
    obtain ⟨σ2, lk2, hq3, hr3, hi3⟩ := gc_sound hq hrv hi' hml
    obtain ⟨f1, f2⟩ := fin σ2 a' w' lk2 hi3
    exact ⟨hr'.df.trans hdf, σ2.objs, lk2, _, hq3, hr3.toO, f2, f1, rfl⟩
def clo (T : Tab) (fn : Func) (sd : Sense) (i j : Nat) (σ : St) (K : List Ob → Out → Prop) : Prop :=
  match nth σ.objs i, nth σ.objs j with
  | some (.box _ _), some (.box _ _) => evFrame sd.f [.one (.ref i 0), .one (.ref j 0)] σ fun out σ' => match out with
    | .ret _ => finK T fn σ' K
    | .pan _ => False
  | _, _ => False
def evFnG2 (T : Tab) (Γ : Sems) (L : Nat → List Nat) (fn : Func) (pre post : Code) (te tr tf : Tmp) (tw : TypeId) (sd : Sense) (as_ : List V) (K : List Ob → Out → Prop) : Prop :=
  evCode T Γ L 0 pre ⟨padT fn.ntmps as_, []⟩ fun e σ => match e with
    | .normal => match opd σ (.tmp te), opd σ (.tmp tr) with
      | .one (.ref i 0), .one (.ref j 0) => match nth σ.objs i, nth σ.objs j with
        | some (.box _ [_]), some (.box _ _) => bif Nat.blt tf (len σ.tmps) && !(Nat.beq te tf) then putK σ (some tf) (.one .top) fun σ => evCode T Γ L (len σ.objs) post σ fun e σ' => match e with
          | .normal | .ret => clo T fn sd i j σ' K
          | .panic (.ifa t k n) => t = tw ∧ (match nth σ'.objs i with
            | some (.box e [_]) => setOb σ' i (.box e [.int k n]) fun σ'' => clo T fn sd i j σ'' K
            | _ => False)
          | _ => False
          else False
        | _, _ => False
      | _, _ => False
    | _ => False
theorem SenseOK.guard2 {G : World → Prop} (hT : TabOK P T) (hΓ : SemsOK G P Γ) {f : FuncId} {fn : Func} (L : Nat → List Nat) (s : Sense) (hf : P.funcs[f]? = some fn) {pre post : Code} {id1 id2 : Nat} {te tr tf : Tmp} {fc fd : FuncId} {tw : TypeId} {sd : Sense}
    {ty1 ty2 ty3 : TypeId} {pos1 pos2 pos3 : String} {after1 after2 after3 : Array Edge} {tys2 tys3 : Array TypeId}
    (hb : fn.body = some (.seq pre (.seq (.region id1 #[⟨some tf, .makeFunc (.func fd) #[] #[.tmp te, .tmp tr], ty1, pos1, after1, none⟩, ⟨none, .defer ⟨.value (.tmp tf), #[], tys2⟩, ty2, pos2, after2, none⟩] false) (.seq (.region id2 #[⟨none, .defer ⟨.value (.func fc), #[.tmp te], tys3⟩, ty3, pos3, after3, none⟩] false) post))))
    (hc : CaughtOK P fc tw) (hd : SenseD G P fd sd) (hdf : ∃ fn, P.funcs[fd]? = some fn ∧ fn.body.isSome = true ∧ fn.name ≠ "runtime.NumGoroutine") (hnp : noDraw pre = true) (hn : noDraw post = true)
    (h : ∀ os as_ K, s.f os as_ K → os = [] ∧ evFnG2 T Γ L fn pre post te tr tf tw sd as_ K) : SenseOK G P f s := by
  refine SenseOK.mk fun X w lk os as_ vs K hdf0 hO hl0 hX hXG hgr has hs => ?_
  subst hXG
  obtain ⟨rfl, hev⟩ := h os as_ K hs
  obtain rfl : lk = [] := List.length_eq_zero_iff.1 (by rw [hO.lsz]; rfl)
  unfold evFnG2 at hev
  refine calls_of_wp_defers hf hb ?_
  have hal := has.length
  have hr : Rel X w [] ⟨padT fn.ntmps as_, []⟩ { tmps := vs.toArray ++ Array.replicate (fn.ntmps - vs.toArray.size) undef, defers := [] } := by
    refine ORel.toR hO ?_ (fun t x hx => ?_) hdf0.symm
    · simp [padT, tops_length, len_length, hal]
    · simp only [padT] at hx
      rcases Nat.lt_or_ge t as_.length with hlt | hge
      · rw [List.getElem?_append_left hlt] at hx
        obtain ⟨u, hu, hru⟩ := has.get hx
        have htl : t < vs.length := (List.getElem?_eq_some_iff.1 hu).1
        have : (vs.toArray ++ Array.replicate (fn.ntmps - vs.toArray.size) undef).getD t undef = u := by
          rw [Array.getD_eq_getD_getElem?, Array.getElem?_append_left (by simpa using htl)]
          simp [hu]
        rw [this]; exact hru
      · rw [List.getElem?_append_right hge] at hx
        rw [tops_get _ _ _ hx]; trivial
  have hi : Inv X (fun _ => False) w w [] := ⟨Keep.refl _ _, fun v hv => by simp at hv, hX, fun b hb h => h, hgr⟩
  refine wp_seq (evCode_sound (M := fun _ => False) (w0 := w) hT hΓ (by rw [hl0]; rfl) pre hev hr hi ?_ (.inl hnp))
  intro e σ1 a1 w1 lk1 ex hq he hr1 hi1
  cases e with
  | exit i => exact hq.elim
  | ret => exact hq.elim
  | panic c => exact hq.elim
  | normal =>
  simp only [exOf, Option.some.injEq] at he
  subst he
  simp only at hq
  split at hq
  rotate_left
  · exact hq.elim
  rename_i i j hio hjo
  rw [nth_get, nth_get] at hq
  split at hq
  rotate_left
  · exact hq.elim
  rename_i e0 c0 e00 c00 hbox hboxj
  cases hcond : (Nat.blt tf (len σ1.tmps) && !(Nat.beq te tf)) with
  | false => rw [hcond] at hq; exact hq.elim
  | true =>
  rw [hcond] at hq
  simp only [cond_true, putK_iff] at hq
  simp only [Bool.and_eq_true, Bool.not_eq_true'] at hcond
  have htf : tf < a1.tmps.size := by rw [hr1.tsz, ← len_length]; exact Nat.le_of_ble_eq_true hcond.1
  have hte' : te ≠ tf := fun e => by subst e; simp at hcond
  have hte := opd_rep hr1 (.tmp te)
  rw [hio] at hte
  obtain ⟨b, hlb, hpe⟩ := hte
  have htr := opd_rep hr1 (.tmp tr)
  rw [hjo] at htr
  obtain ⟨b2, hlb2, hpr⟩ := htr
  have hpe' : a1.eval (.tmp te) = .pointer (some ⟨b, 0, none⟩) := hpe
  have hpr' : a1.eval (.tmp tr) = .pointer (some ⟨b2, 0, none⟩) := hpr
  obtain ⟨fnc, hfc1, hfc2, hfc3⟩ := hc.fn
  obtain ⟨fnd, hfd1, hfd2, hfd3⟩ := hdf
  have hinv : ∀ w', (invoke (.fn (.func fc) #[]) #[.pointer (some ⟨b, 0, none⟩)]).run P w' = .ok (.enter fc #[.pointer (some ⟨b, 0, none⟩)]) w' := fun w' => by
    have h1 : (#[Value.pointer (some ⟨b, 0, none⟩)] : Array Value) ++ #[] = #[Value.pointer (some ⟨b, 0, none⟩)] := by simp
    simp only [invoke, h1]
    exact run_callFunc_enter hfc1 hfc2 hfc3 _ _
  have hinvd : ∀ w', (invoke (.fn (.func fd) #[.pointer (some ⟨b, 0, none⟩), .pointer (some ⟨b2, 0, none⟩)]) #[]).run P w' = .ok (.enter fd #[.pointer (some ⟨b, 0, none⟩), .pointer (some ⟨b2, 0, none⟩)]) w' := fun w' => by
    have h1 : (#[] : Array Value) ++ #[Value.pointer (some ⟨b, 0, none⟩), .pointer (some ⟨b2, 0, none⟩)] = #[Value.pointer (some ⟨b, 0, none⟩), .pointer (some ⟨b2, 0, none⟩)] := by simp
    simp only [invoke, h1]
    exact run_callFunc_enter hfd1 hfd2 hfd3 _ _
  have hdf1 : a1.defers = [] := hr1.df.trans hdf0
  obtain ⟨fv, hfv⟩ : ∃ fv, fv = Value.func (.func fd) #[] #[.pointer (some ⟨b, 0, none⟩), .pointer (some ⟨b2, 0, none⟩)] := ⟨_, rfl⟩
  obtain ⟨a2, ha2⟩ : ∃ a2 : Act, a2 = { tmps := (a1.put (some tf) fv).tmps, defers := [{ target := .fn (.func fd) #[.pointer (some ⟨b, 0, none⟩), .pointer (some ⟨b2, 0, none⟩)], args := #[] }] } := ⟨_, rfl⟩
  have hputf : (a1.put (some tf) fv).eval (.tmp tf) = fv := by simp [Act.put, Act.eval, htf]
  have hpute : a2.eval (.tmp te) = .pointer (some ⟨b, 0, none⟩) := by
    rw [ha2, ← hpe']
    simp [Act.put, Act.eval, Ne.symm hte']
  show Code.wp P _ _ _ _
  refine wp_seq (wp_region ?_)
  have hstep1 : ∀ QQ : Exit → Act → World → Prop, QQ .normal a2 w1 →
      wpOps P #[⟨some tf, .makeFunc (.func fd) #[] #[.tmp te, .tmp tr], ty1, pos1, after1, none⟩, ⟨none, .defer ⟨.value (.tmp tf), #[], tys2⟩, ty2, pos2, after2, none⟩] QQ [0, 1] a1 w1 := by
    intro QQ hcw
    have e1 : (execOp a1.eval ⟨some tf, .makeFunc (.func fd) #[] #[.tmp te, .tmp tr], ty1, pos1, after1, none⟩).run P w1 = .ok (.value fv) w1 := by
      have h1 : (#[Operand.tmp te, .tmp tr] : Array Operand).map a1.eval = #[.pointer (some ⟨b, 0, none⟩), .pointer (some ⟨b2, 0, none⟩)] := by simp [hpe', hpr']
      show ((do Pure.pure (Next.value (← Instr.makeFunc (.func fd) ((#[] : Array Operand).map a1.eval) ((#[Operand.tmp te, .tmp tr] : Array Operand).map a1.eval))) : Go.Sem Next)).run P w1 = _
      rw [h1, hfv]
      simp [Instr.makeFunc]
    have e2 : (execOp (a1.put (some tf) fv).eval ⟨none, .defer ⟨.value (.tmp tf), #[], tys2⟩, ty2, pos2, after2, none⟩).run P w1 = .ok (.defer { target := .fn (.func fd) #[.pointer (some ⟨b, 0, none⟩), .pointer (some ⟨b2, 0, none⟩)], args := #[] }) w1 := by
      simp only [execOp, resolve, hputf]
      rw [hfv]
      simp [Deferred.ofValue]
    rw [ha2] at hcw
    obtain ⟨o1, ho1⟩ : ∃ o1 : Oper, o1 = ⟨some tf, .makeFunc (.func fd) #[] #[.tmp te, .tmp tr], ty1, pos1, after1, none⟩ := ⟨_, rfl⟩
    obtain ⟨o2, ho2⟩ : ∃ o2 : Oper, o2 = ⟨none, .defer ⟨.value (.tmp tf), #[], tys2⟩, ty2, pos2, after2, none⟩ := ⟨_, rfl⟩
    rw [← ho1] at e1
    rw [← ho2] at e2
    rw [← ho1, ← ho2]
    have g0 : (#[o1, o2] : Array Oper)[0]? = some o1 := rfl
    have g1 : (#[o1, o2] : Array Oper)[1]? = some o2 := rfl
    have w1' : ∀ y, Region.wanted o1 y = true := fun y => by rw [ho1]; rfl
    have w2' : ∀ y, Region.wanted o2 y = true := fun y => by rw [ho2]; rfl
    have d1 : o1.dst = some tf := by rw [ho1]
    have d2 : o2.dst = none := by rw [ho2]
    simp only [wpOps, g0, g1, w1', w2', if_true, Oper.wp, e1, Oper.upon, d1, d2]
    refine .inl (.inl ?_)
    have hdp : (a1.put (some tf) fv).defers = [] := hdf1
    rw [e2]
    show QQ .normal { tmps := (a1.put (some tf) fv).tmps, defers := _ :: (a1.put (some tf) fv).defers } w1
    rw [hdp]
    exact hcw
  refine hstep1 _ ?_
  show Code.wp P _ _ a2 w1
  refine wp_seq (wp_region ?_)
  have hat : a2.tmps = (a1.put (some tf) fv).tmps := by rw [ha2]
  have had : a2.defers = [{ target := .fn (.func fd) #[.pointer (some ⟨b, 0, none⟩), .pointer (some ⟨b2, 0, none⟩)], args := #[] }] := by rw [ha2]
  generalize hd1 : ({ target := .fn (.func fd) #[.pointer (some ⟨b, 0, none⟩), .pointer (some ⟨b2, 0, none⟩)], args := #[] } : Deferred) = d1 at had
  generalize hd2 : ({ target := .fn (.func fc) #[], args := #[.pointer (some ⟨b, 0, none⟩)] } : Deferred) = d2
  have hstep2 : ∀ QQ : Exit → Act → World → Prop, QQ .normal { tmps := a2.tmps, defers := [d2, d1] } w1 →
      wpOps P #[⟨none, .defer ⟨.value (.func fc), #[.tmp te], tys3⟩, ty3, pos3, after3, none⟩] QQ [0] a2 w1 := by
    intro QQ hcw
    have e2 : (execOp a2.eval ⟨none, .defer ⟨.value (.func fc), #[.tmp te], tys3⟩, ty3, pos3, after3, none⟩).run P w1 = .ok (.defer d2) w1 := by
      have hfe : a2.eval (.func fc) = .func (.func fc) #[] #[] := rfl
      simp [execOp, resolve, hpute, hfe, Deferred.ofValue, ← hd2]
    obtain ⟨o2, ho2⟩ : ∃ o2 : Oper, o2 = ⟨none, .defer ⟨.value (.func fc), #[.tmp te], tys3⟩, ty3, pos3, after3, none⟩ := ⟨_, rfl⟩
    rw [← ho2] at e2
    rw [← ho2]
    have g1 : (#[o2] : Array Oper)[0]? = some o2 := rfl
    have w2' : ∀ y, Region.wanted o2 y = true := fun y => by rw [ho2]; rfl
    have d2' : o2.dst = none := by rw [ho2]
    simp only [wpOps, g1, w2', if_true, Oper.wp, e2, Oper.upon, d2']
    refine .inl ?_
    show QQ .normal { tmps := a2.tmps, defers := d2 :: a2.defers } w1
    rw [had]
    exact hcw
  refine hstep2 _ ?_
  show Code.wp P post (bodyPostD P fn (Post X w [] s.ro K)) { tmps := a2.tmps, defers := [d2, d1] } w1
  have hrel1 : Rel X w1 lk1 ⟨σ1.tmps.set tf (.one .top), σ1.objs⟩ (a1.put (some tf) fv) := hr1.put (x := .one .top) (some tf) trivial
  refine evCode_sound (X := ⟨X.hid, lk1, X.gr, [d2, d1], X.pub, X.ph⟩) (M := fun _ => False) (w0 := w) hT hΓ (by show lk1.length = len σ1.objs; rw [len_length]; exact hr1.lsz) post hq (hrel1.rebase (a' := { tmps := a2.tmps, defers := [d2, d1] }) hat [d2, d1] rfl) hi1.turn ?_ (.inl hn)
  intro e σ2 a3 w2 lk2 ex hq2 he2 hr2 hi2
  have key : ∀ (σ3 : St) (w3 : World) (lk3 : List Value), Rel ⟨X.hid, lk1, X.gr, [d2, d1], X.pub, X.ph⟩ w3 lk3 σ3 a3 → Inv ⟨X.hid, lk1, X.gr, [d2, d1], X.pub, X.ph⟩ (fun _ => False) w w3 lk3 → clo T fn sd i j σ3 K → Leaves P fn a3.tmps (Post X w [] s.ro K) [d1] .returning w3 := by
    intro σ3 w3 lk3 hr3 hi3 hclo
    unfold clo at hclo
    rw [nth_get, nth_get] at hclo
    split at hclo
    · rename_i e1 c1 e2 c2 hbi hbj
      have hli : lk3[i]? = some (.pointer (some ⟨b, 0, none⟩)) := hr3.kp i _ _ hlb hbi rfl
      have hlj : lk3[j]? = some (.pointer (some ⟨b2, 0, none⟩)) := hr3.kp j _ _ hlb2 hbj rfl
      rw [← hd1]
      refine leaves_cons (f := fd) (args := #[.pointer (some ⟨b, 0, none⟩), .pointer (some ⟨b2, 0, none⟩)]) (by simp) (hinvd w3) ?_
      have hfr := evFrame_sound (X := ⟨X.hid, lk1, X.gr, [d2, d1], X.pub, X.ph⟩) (R := fun Q => CallsD P fd [Value.pointer (some ⟨b, 0, none⟩), .pointer (some ⟨b2, 0, none⟩)].toArray .returning w3 (fun e u' w' => u' = .returning ∧ Q e w')) (ro := sd.ro) (K0 := fun _ _ => True)
        (fun h1 h2 => h1.mono fun e u' w' h => ⟨h.1, h2 _ _ h.2⟩)
        (fun X' lk' os as_ K' h1 h2 h3 h4 h5 h6 h7 => (hd .returning X' w3 lk' os as_ [.pointer (some ⟨b, 0, none⟩), .pointer (some ⟨b2, 0, none⟩)] K' h1 h2 h3 h4 h5 h6 h7).mono fun e u' w' h => ⟨h.1, by
          obtain ⟨os', lk1', out, k1, k2⟩ := h.2
          exact ⟨os', lk1', out, ⟨k1, trivial⟩, k2⟩⟩) hclo hr3 hi3 ⟨⟨b, hli, rfl⟩, ⟨b2, hlj, rfl⟩, trivial⟩
      refine hfr.mono ?_
      rintro e u' w' ⟨rfl, σ', lk', out, hQ, hr', hi', hout, _⟩
      cases out with
      | ret v =>
        obtain ⟨u, rfl, _⟩ := hout
        simp only [settle, Leaves]
        exact finK_sound (a := { tmps := a3.tmps, defers := X.df }) hT hQ hl0 hdf0 (hr'.unbase hl0 rfl rfl) hi'.unturn
      | pan c => exact hQ.elim
    · exact hclo.elim
  have hdf2 : a3.defers = [d2, d1] := hr2.df
  have key2 : clo T fn sd i j σ2 K → Leaves P fn a3.tmps (Post X w [] s.ro K) a3.defers .returning w2 := by
    intro hk
    rw [hdf2, ← hd2]
    refine leaves_cons (f := fc) (args := #[.pointer (some ⟨b, 0, none⟩)]) (by simp) (hinv w2) ((hc.idle _ w2).mono ?_)
    rintro e u' w' ⟨rfl, rfl, rfl⟩
    exact key σ2 _ lk2 hr2 hi2 hk
  cases e with
  | exit i => exact hq2.elim
  | ret => simp only [exOf, Option.some.injEq] at he2; subst he2; exact key2 hq2
  | normal => simp only [exOf, Option.some.injEq] at he2; subst he2; exact key2 hq2
  | panic c =>
  obtain ⟨t, k, n, rfl⟩ : ∃ t k n, c = .ifa t k n := by cases c <;> first | exact ⟨_, _, _, rfl⟩ | exact hq2.elim
  simp only [exOf, Option.some.injEq] at he2
  subst he2
  obtain ⟨rfl, hq2⟩ := hq2
  rw [nth_get] at hq2
  split at hq2
  rotate_left
  · exact hq2.elim
  rename_i e2 c2 hbox2
  rw [setOb_iff] at hq2
  have hl2 : lk2[i]? = some (.pointer (some ⟨b, 0, none⟩)) := hr2.kp i _ _ hlb hbox2 rfl
  obtain ⟨bb, cur, hb2, hh2, hcur⟩ := hr2.ob i _ _ hbox2 hl2
  obtain rfl : b = bb := by simpa using hb2
  obtain ⟨v0, m0, hv0, hc0, hm0⟩ := hcur.cons_inv
  obtain rfl : m0 = [] := hm0.nil_inv
  obtain rfl : cur = #[v0] := Array.toList_inj.1 (by simpa using hv0)
  show Leaves P fn a3.tmps _ a3.defers (.panicking _) w2
  rw [hdf2, ← hd2]
  refine leaves_cons (f := fc) (args := #[.pointer (some ⟨b, 0, none⟩)]) (by simp) (hinv w2) ((hc.caught b _ _ v0 e2 w2 hh2).mono ?_)
  rintro e u' w' ⟨rfl, rfl, rfl⟩
  have hbl : b < w2.heap.size := (Array.getElem?_eq_some_iff.1 hh2).1
  generalize hw3 : (w2.alloc (.cells #[.int k n] t)).setCell ⟨b, 0, none⟩ (.int k n) = w3
  have hfar : ∀ q, q < w2.heap.size → q ≠ b → w3.heap[q]? = w2.heap[q]? := fun q hq hqb => by
    rw [← hw3, Below.heap_setCell _ _ _ _ hqb]
    exact alloc_old w2 _ q hq
  have hat3 : w3.heap[b]? = some (.cells #[.int k n] e2 (0, 0)) := by
    rw [← hw3]
    exact one_setCell (by rw [alloc_old w2 _ b hbl]; exact hh2)
  have hsz : w2.heap.size ≤ w3.heap.size := by rw [← hw3]; simp [World.setCell]
  have hil : i < lk2.length := (List.getElem?_eq_some_iff.1 hl2).1
  have hol : i < σ2.objs.length := (List.getElem?_eq_some_iff.1 hbox2).1
  have hsame : lk2.set i (.pointer (some ⟨b, 0, none⟩)) = lk2 := by
    apply List.ext_getElem?
    intro q
    by_cases hqi : q = i
    · subst hqi; rw [List.getElem?_set_self hil, hl2]
    · rw [List.getElem?_set_ne (Ne.symm hqi)]
  have hfar' : ∀ q, q < w2.heap.size → blk (.pointer (some ⟨b, 0, none⟩)) ≠ some q → w3.heap[q]? = w2.heap[q]? := fun q hq hn => hfar q hq (fun e => hn (by rw [e]; rfl))
  have hgo : Goes w2 (Imm ⟨X.hid, lk1, X.gr, [d2, d1], X.pub, X.ph⟩ w2 lk2) w3 (Imm ⟨X.hid, lk1, X.gr, [d2, d1], X.pub, X.ph⟩ w3 (lk2.set i (.pointer (some ⟨b, 0, none⟩)))) :=
    Goes.upd hl2 hfar' hsz (fun b hb => .inl hb)
  have hrel : Rel ⟨X.hid, lk1, X.gr, [d2, d1], X.pub, X.ph⟩ w3 (lk2.set i (.pointer (some ⟨b, 0, none⟩))) ⟨σ2.tmps, σ2.objs.set i (.box e2 [.int k n])⟩ a3 := by
    refine hr2.upd (o' := .box e2 [.int k n]) hl2 hfar' hsz (fun b hb => .inl hb) hi2.lx (fun _ => ⟨rfl, fun o hoo => by rw [hbox2] at hoo; simp at hoo; subst hoo; rfl⟩) rfl (by simp) (fun t' x' hx' => ⟨x', hx', fun u hu' => hu'.goes hgo (by rw [hsame]; exact Keeps.refl _ _)⟩) ?_ ?_ (fun j oj hji hj => ?_)
    · rw [List.getElem?_set_self hol]
    · exact ⟨b, _, rfl, hat3, ⟨⟨rfl, rfl⟩, trivial⟩⟩
    · rw [List.getElem?_set_ne (Ne.symm hji)] at hj
      exact ⟨oj, hj, rfl, fun u hb hu' => ORep.goes hgo (by rw [hsame]; exact Keeps.refl _ _) hb hu'⟩
  have hkeep : Keep (fun q => blk (.pointer (some ⟨b, 0, none⟩)) = some q) w2 w3 :=
    ⟨by rw [← hw3]; rfl, by rw [← hw3]; rfl, by rw [← hw3]; rfl, hsz, fun q hq hn => hfar q hq (fun e => hn (by rw [e]; rfl))⟩
  exact key _ w3 _ hrel (hi2.upd hl2 hkeep (fun b hb => .inl hb)) hq2
end Go.Proofs.YtilagaapfbfkkaaGreatDoor.Ab
namespace Go.Proofs.YtilagaapfbfkkaaGreatDoor.Ab
open Go Go.RowKit Go.Proofs.YtilagaapfbfkkaaGreatDoorW.PrintWords
set_option maxRecDepth 100000
def rpGo : Bool → Int → Bool → List (List Int) → Option (Int × Bool)
  | _, c, op, [] => some (c, op)
  | first, c, op, x :: l => match rpLine x with
    | none => none
    | some (c', m) => bif first || (op && decide (c' = c)) then rpGo false c' m l else none
def rpEnd : Option (Int × Bool) → Int × Int
  | none => (1, 0)
  | some (c, op) => bif op then (7, 0) else (0, c)
def rpParse (l : List (List Int)) : Int × Int := bif decide (l.length ≤ 16) then rpEnd (rpGo true 0 true l) else (1, 0)
theorem rp_drop {l : List ByteArray} {j : Nat} {x : ByteArray} (h : l[j]? = some x) : (l.map bl).drop j = bl x :: (l.map bl).drop (j + 1) := by
  have hj : j < (l.map bl).length := by rw [List.length_map]; exact (List.getElem?_eq_some_iff.1 h).1
  rw [List.drop_eq_getElem_cons hj]
  congr 1
  have := (List.getElem?_eq_some_iff.1 h).2
  simp [this]
def Γ134q : Sems := ext 161 q161 (ext 162 q162 (Γ0))
theorem Γ134q.ok : SemsOK Gr Tryz.prog Γ134q := ((Γ0.ok.ext Tryz.func162 rfl (by decide) qk162).ext Tryz.func161 rfl (by decide) qk161)
def q134 : Sense := ⟨false, fun os xs K => ∃ l : List ByteArray, xs = [.one (.sl ST l)] ∧ os = [] ∧ l.length ≤ big ∧ (∀ x ∈ l, x.size ≤ big) ∧ ((rpParse (l.map bl)).1 = 1 → K [] (.pan (.ifa 173 .i64 1))) ∧ ((rpParse (l.map bl)).1 = 7 → K [] (.pan (.ifa 173 .i64 7))) ∧
  (∀ c, rpParse (l.map bl) = (0, c) → ∀ T mv, K [.own 9 ST T true mv] (.ret (.agg [.int .i64 c, .own 0])))⟩
theorem qk134 : SenseOK Gr Tryz.prog 134 q134 := SenseOK.any Γ134q.ok (fun _ => [2, 3, 13, 14, 15]) Tryz.func134 fun os xs K h => by
  obtain ⟨l, rfl, rfl, hl, hx, hk1, hk7, hk0⟩ := h
  simp only [big] at hl
  have hll : (l.map bl).length = l.length := List.length_map _
  by_cases h16 : l.length ≤ 16
  case neg =>
    have f0 : decide ((l.length : Int) ≤ 16) = false := decide_eq_false (by omega)
    refine zs1 f0 ?_
    exact hk1 (by rw [rpParse, hll, decide_eq_false h16]; rfl)
  have f0 : decide ((l.length : Int) ≤ 16) = true := decide_eq_true (by omega)
  have hP : rpParse (l.map bl) = rpEnd (rpGo true 0 true (l.map bl)) := by rw [rpParse, hll, decide_eq_true h16]; rfl
  rw [hP] at hk1 hk7 hk0
  refine zs1 f0 ?_
  refine iter_of (I := fun k σ => ∃ (j : Nat) (c : Int) (op : Bool), k = l.length - j ∧ j ≤ l.length ∧
    ((j = 0 ∧ σ = ⟨slots 52 [(2, .one (.ref 0 0)), (3, .one (.bool true)), (13, .one (.sl ST l)), (14, .one (.int .i64 l.length)), (15, .one (.int .i64 0))], [.box 126 [.int .i64 0, .nil]]⟩) ∨
     (j ≠ 0 ∧ rpGo true 0 true (l.map bl) = rpGo false c op ((l.map bl).drop j) ∧ ∃ (T : List ByteArray) (mv : Bool), T.length = j ∧ σ = ⟨slots 52 [(2, .one (.ref 0 0)), (3, .one (.bool op)), (13, .one (.sl ST l)), (14, .one (.int .i64 l.length)), (15, .one (.int .i64 j))], [.box 126 [.int .i64 c, .own 1], .own 9 ST T true mv]⟩))) ?_ l.length ⟨0, 0, true, by omega, by omega, .inl ⟨rfl, rfl⟩⟩
  rintro k σ K' ⟨j, c, op, rfl, hj, hσ⟩ hK'
  rcases hσ with ⟨rfl, rfl⟩ | ⟨hj0, hgo, T, mv, hT, rfl⟩
  · have w1 : IntKind.i64.wrap (0 + 1) = 1 := by decide
    by_cases h1 : 0 < l.length
    case neg =>
      have f1 : decide ((0 : Int) < l.length) = false := decide_eq_false (by omega)
      have hn : l = [] := List.length_eq_zero_iff.1 (by omega)
      refine zs1 f1 ?_
      exact hk7 (by rw [hn]; rfl)
    have f1 : decide ((0 : Int) < l.length) = true := decide_eq_true (by omega)
    obtain ⟨x, hr⟩ : ∃ x, l[0]? = some x := ⟨_, List.getElem?_eq_getElem h1⟩
    have rr : rdx l (Int.toNat 0) ST.dflt = x := nth_of hr ST.dflt
    have hxb := hx x (List.mem_of_getElem? hr)
    have hd := rp_drop hr
    rw [List.drop_zero] at hd
    have i0 : (0 : Int) ≤ 0 ∧ (0 : Int) < l.length := ⟨by omega, by omega⟩
    refine zs2 f1 rr ?_
    refine ⟨fun hn => ?_, fun c' m t hm => ?_⟩
    · refine zs1 f1 ?_
      exact hk1 (by rw [hd, rpGo, hn]; rfl)
    · refine zs2 f1 w1 ?_
      refine hK' _ _ (by omega) ⟨1, c', m, rfl, by omega, .inr ⟨by omega, ?_, [t], _, rfl, rfl⟩⟩
      rw [hd, rpGo, hm]
      rfl
  · have w1 := IntWalk.i64_in ((j : Int) + 1) (by omega)
    by_cases h1 : j < l.length
    case neg =>
      have f1 : decide ((j : Int) < l.length) = false := decide_eq_false (by omega)
      rw [List.drop_of_length_le (by omega)] at hgo
      rw [hgo] at hk0 hk1 hk7
      cases op with
      | true =>
        refine zs1 f1 ?_
        exact hk7 rfl
      | false =>
        refine zs1 f1 ?_
        exact hk0 _ rfl _ _
    have f1 : decide ((j : Int) < l.length) = true := decide_eq_true (by omega)
    obtain ⟨x, hr⟩ : ∃ x, l[j]? = some x := ⟨_, List.getElem?_eq_getElem h1⟩
    have rr := nth_of hr ST.dflt
    have hxb := hx x (List.mem_of_getElem? hr)
    have hd := rp_drop hr
    rw [hd] at hgo
    have i0 : (0 : Int) ≤ j ∧ (j : Int) < l.length := ⟨by omega, by omega⟩
    have e0 : ((j : Int) == 0) = false := by simp; omega
    refine zs2 f1 rr ?_
    refine ⟨fun hn => ?_, fun c' m t hm => ?_⟩
    · refine zs1 f1 ?_
      exact hk1 (by rw [hgo, rpGo, hn]; rfl)
    · rw [rpGo, hm] at hgo
      have hT1 : (T.length + [t].length) * 16 ≤ 140737488355328 := by simp; omega
      cases op with
      | false =>
        refine zs2 f1 e0 ?_
        exact hk1 (by rw [hgo]; rfl)
      | true =>
      by_cases hcc : c' = c
      case neg =>
        have e1 : (c' == c) = false := by simpa using hcc
        refine zs3 f1 e0 e1 ?_
        exact hk1 (by rw [hgo]; simp only [decide_eq_false hcc]; rfl)
      have e1 : (c' == c) = true := by simpa using hcc
      refine zs4 f1 e0 e1 w1 ?_
      refine hK' _ _ (by omega) ⟨j + 1, c', m, rfl, by omega, .inr ⟨by omega, ?_, T ++ [t], _, by simp [hT], rfl⟩⟩
      rw [hgo]
      simp only [decide_eq_true hcc]
      rfl
theorem caught133 : CaughtOK Tryz.prog 133 173 where
  fn := ⟨_, Tryz.func133, rfl, by decide⟩
  idle p w := by
    refine callsD_of_wpS Tryz.func133 rfl fun c₀ cs hu => ?_
    apply wpS_seq
    apply wpS_region
    simp [wpOpsS, go_sem, recoverD, hu, Tryz.ntmps133, Exit.thenS]
    apply wpS_seq
    apply wpS_seq
    apply wpS_region
    simp [wpOpsS, go_sem, hu, Exit.thenS]
    refine wpS_cond (t := true) (by simp [Act.eval, Array.replicate]) ?_
    simp only [if_true]
    refine wpS_of_wp (wp_ret ?_)
    cases c₀
    simp_all [bodyPostS, Exit.thenS, results, Tryz.results133]
  caught b k n v0 e0 w hb := by
    refine callsD_of_wpS Tryz.func133 rfl fun c₀ cs hu => ?_
    apply wpS_seq
    apply wpS_region
    simp [wpOpsS, go_sem, recoverD, hu, Tryz.ntmps133, Exit.thenS, panE]
    apply wpS_seq
    apply wpS_seq
    apply wpS_region
    simp [wpOpsS, go_sem, hu, Exit.thenS]
    refine wpS_cond (t := false) (by simp [Act.eval, Array.replicate]) ?_
    simp only [if_false, Bool.false_eq_true]
    refine wpS_of_wp (wp_skip ?_)
    simp only [Exit.thenS]
    have hbl : b < w.heap.size := (Array.getElem?_eq_some_iff.1 hb).1
    have hb2 : (w.alloc (.cells #[.int k n] 173)).heap[b]? = some (.cells #[v0] e0 (0, 0)) := (alloc_old w _ b hbl).trans hb
    have d1 : (w.alloc (.cells #[.int k n] 173)).cell? ⟨b, 0, none⟩ = some v0 := by rw [Lib.cell_of_heap hb2]; rfl
    have f1 : (w.alloc (.cells #[.int k n] 173)).frozen? ⟨b, 0, none⟩ = false := Lib.frozen_of_heap hb2 0
    have ta : ∀ w, (Instr.typeAssert (.iface 173 (.agg #[.int k n])) 20 173 true).run Tryz.prog w = .ok (.tuple #[.agg #[.int k n], .bool true]) w := by
      intro w
      simp [Instr.typeAssert, run_underlying Tryz.underlying173]
    refine wpS_of_wp ?_
    simp only [Array.replicate_succ, Array.replicate_zero, List.push_toArray, List.append_toArray, List.nil_append, List.cons_append, List.setIfInBounds_toArray, List.set_cons_zero, List.set_cons_succ]
    go_wp2
    refine ⟨rfl, _, rfl, _, results_none (fn := Tryz.f133) rfl _ _ _, rfl, rfl, ?_⟩
    exact (World.setCell_alloc_past _ _ _ _ hbl).symm
def q132 : Sense := ⟨false, fun os xs K => xs = [.one (.ref 0 0), .one (.ref 1 0)] ∧ ((∃ c T, os = [.box 44 [.int .i64 0], .box 126 [.int .i64 c, .own 2], .own 9 ST T true false] ∧ K os (.ret (.tup []))) ∨ (∃ e, (e != (0 : Int)) = true ∧ os = [.box 44 [.int .i64 e], .box 126 [.int .i64 0, .nil]] ∧ K os (.ret (.tup []))))⟩
theorem qd132 : SenseD Gr Tryz.prog 132 q132 := SenseD.of TT.ok Γ0.ok (fun _ => []) q132 Tryz.func132 (fun h => by cases h) fun os xs K h => by
  obtain ⟨rfl, ⟨c, T, rfl, hk⟩ | ⟨e, he, rfl, hk⟩⟩ := h
  · refine zv ?_
    exact hk
  · refine zs1 he ?_
    exact hk
def Γ94q : Sems := ext 134 q134 (Γ0)
theorem Γ94q.ok : SemsOK Gr Tryz.prog Γ94q := (Γ0.ok.ext Tryz.func134 rfl (by decide) qk134)
def q94 : Sense := ⟨false, fun os xs K => ∃ l : List ByteArray, xs = [.one (.sl ST l)] ∧ os = [] ∧ l.length ≤ big ∧ (∀ x ∈ l, x.size ≤ big) ∧ ((rpParse (l.map bl)).1 = 1 → K [] (.ret (.tup [.agg [.int .i64 0, .nil], .one (.int .i64 1)]))) ∧ ((rpParse (l.map bl)).1 = 7 → K [] (.ret (.tup [.agg [.int .i64 0, .nil], .one (.int .i64 7)]))) ∧
  (∀ c, rpParse (l.map bl) = (0, c) → ∀ T mv, K [.own 9 ST T true mv] (.ret (.tup [.agg [.int .i64 c, .own 0], .one (.int .i64 0)])))⟩
theorem qk94 : SenseOK Gr Tryz.prog 94 q94 := SenseOK.guard2 TT.ok Γ94q.ok (fun _ => []) q94 Tryz.func94 rfl caught133 qd132 ⟨_, Tryz.func132, rfl, by decide⟩ rfl rfl fun os xs K h => by
  obtain ⟨l, rfl, rfl, hl, hx, hk1, hk7, hk0⟩ := h
  refine ⟨rfl, ?_⟩
  refine zy ?_
  refine ⟨l, rfl, rfl, hl, hx, fun h1 => ?_, fun h7 => ?_, fun c hc T mv => ?_⟩
  · refine zv ?_
    refine .inr ⟨1, rfl, rfl, ?_⟩
    refine zv ?_
    exact hk1 h1
  · refine zv ?_
    refine .inr ⟨7, rfl, rfl, ?_⟩
    refine zv ?_
    exact hk7 h7
  · refine zv ?_
    refine .inl ⟨c, T, rfl, ?_⟩
    refine zv ?_
    exact hk0 c hc T _
variable {G : World → Prop}
def placeP (s : Sd) : Bool :=
  if s.st = 3 then (decide (0 ≤ s.at_) && decide (s.at_ ≤ (s.rc.length : Int) - 1)) && risB s.tk s.at_
  else if s.st = 4 then (s.at_ == 0) && (decide ((s.tk.length : Int) > 0) && risB s.tk s.rc.length)
  else if s.st = 5 then decide ((s.tk.length : Int) > 0) && (risB s.tk s.rc.length && ((s.at_ == 0) || (s.lm && (decide (0 ≤ s.at_) && decide (s.at_ ≤ (s.tk.length : Int) - 1)))))
  else (s.at_ == 0) && ((s.tk.length : Int) == 0)
def lnsP (l : List ByteArray) : Bool := ((l.length : Int) == 0) || (decide ((l.length : Int) < 16) && ((rpParse (l.map bl)).1 == 7))
def Γ53q : Sems := ext 48 q48 (ext 90 q90 (Γ0))
theorem Γ53q.ok : SemsOK G Tryz.prog Γ53q := ((Γ0.ok.ext Tryz.func90 rfl (by decide) qk90).ext Tryz.func48 rfl (by decide) qk48)
def q53 : Sense := ⟨false, fun os xs K => ∃ s : Sd, xs = [.agg s.fz] ∧ os = [] ∧ s.sml ∧ K [] (.ret (.one (.bool (placeP s))))⟩
theorem qk53 : SenseOK G Tryz.prog 53 q53 := SenseOK.any Γ53q.ok (fun _ => []) Tryz.func53 fun os xs K h => by
  obtain ⟨s, rfl, rfl, ⟨l0, l1, l2, l3⟩, hk⟩ := h
  have l0' := l0
  have l1' := l1
  simp only [big] at l0' l1'
  have w0 : IntKind.i64.wrap ((s.rc.length : Int) - 1) = (s.rc.length : Int) - 1 := IntWalk.i64_in _ (by omega)
  have w1 : IntKind.i64.wrap ((s.tk.length : Int) - 1) = (s.tk.length : Int) - 1 := IntWalk.i64_in _ (by omega)
  have hk' : ∀ b, placeP s = b → K [] (.ret (.one (.bool b))) := fun b h => h ▸ hk
  unfold placeP at hk'
  by_cases h3 : s.st = 3
  · have e3 : (s.st == 3) = true := by simpa using h3
    rw [if_pos h3] at hk'
    cases h1 : (decide (0 ≤ s.at_) && decide (s.at_ ≤ (s.rc.length : Int) - 1)) with
    | false =>
      rw [h1] at hk'
      refine zs3 e3 w0 h1 ?_
      exact hk' _ rfl
    | true =>
      have ha : 0 ≤ s.at_ ∧ s.at_ ≤ big := by
        simp only [Bool.and_eq_true, decide_eq_true_eq] at h1
        simp only [big]; omega
      obtain ⟨ha0, ha1⟩ := ha
      rw [h1] at hk'
      refine zs3 e3 w0 h1 ?_
      exact hk' _ rfl
  have e3 : (s.st == 3) = false := by simpa using h3
  rw [if_neg h3] at hk'
  by_cases h4 : s.st = 4
  · have e4 : (s.st == 4) = true := by simpa using h4
    rw [if_pos h4] at hk'
    cases h1 : (s.at_ == 0) with
    | false =>
      rw [h1] at hk'
      refine zs3 e3 e4 h1 ?_
      exact hk' _ rfl
    | true =>
      rw [h1] at hk'
      cases h2 : decide ((s.tk.length : Int) > 0) with
      | false =>
        rw [h2] at hk'
        refine zs4 e3 e4 h1 h2 ?_
        exact hk' _ rfl
      | true =>
        rw [h2] at hk'
        refine zs4 e3 e4 h1 h2 ?_
        exact hk' _ rfl
  have e4 : (s.st == 4) = false := by simpa using h4
  rw [if_neg h4] at hk'
  by_cases h5 : s.st = 5
  · have e5 : (s.st == 5) = true := by simpa using h5
    rw [if_pos h5] at hk'
    cases h2 : decide ((s.tk.length : Int) > 0) with
    | false =>
      rw [h2] at hk'
      refine zs4 e3 e4 e5 h2 ?_
      exact hk' _ rfl
    | true =>
    rw [h2] at hk'
    cases h6 : risB s.tk (s.rc.length : Int) with
    | false =>
      rw [h6] at hk'
      refine zs5 e3 e4 e5 h2 h6 ?_
      exact hk' _ rfl
    | true =>
    rw [h6] at hk'
    cases h1 : (s.at_ == 0) with
    | true =>
      rw [h1] at hk'
      refine zs6 e3 e4 e5 h2 h6 h1 ?_
      exact hk' _ rfl
    | false =>
    rw [h1] at hk'
    cases h7 : s.lm with
    | false =>
      rw [h7] at hk'
      refine zs7 e3 e4 e5 h2 h6 h1 h7 ?_
      exact hk' _ rfl
    | true =>
      rw [h7] at hk'
      refine zs8 e3 e4 e5 h2 h6 h1 h7 w1 ?_
      exact hk' _ rfl
  have e5 : (s.st == 5) = false := by simpa using h5
  rw [if_neg h5] at hk'
  cases h1 : (s.at_ == 0) with
  | false =>
    rw [h1] at hk'
    refine zs4 e3 e4 e5 h1 ?_
    exact hk' _ rfl
  | true =>
    rw [h1] at hk'
    refine zs4 e3 e4 e5 h1 ?_
    exact hk' _ rfl
theorem rpGo_none {x : List Int} (hx : rpLine x = none) : ∀ {l : List (List Int)} {f : Bool} {c : Int} {op : Bool}, x ∈ l → rpGo f c op l = none
  | y :: l, f, c, op, h => by
    rw [rpGo]
    rcases List.mem_cons.1 h with rfl | h
    · rw [hx]
    · cases hy : rpLine y with
      | none => rfl
      | some p =>
        obtain ⟨c', m⟩ := p
        simp only
        rw [rpGo_none hx h]
        cases (f || (op && decide (c' = c))) <;> rfl
theorem rp_one {x : List Int} (h : (rpParse [x]).1 = 1) : rpLine x = none := by
  cases hx : rpLine x with
  | none => rfl
  | some p =>
    obtain ⟨c, m⟩ := p
    have : rpParse [x] = rpEnd (some (c, m)) := by
      rw [rpParse, rpGo, hx]; rfl
    rw [this, rpEnd] at h
    cases m <;> cases h
theorem lns_bad {l : List ByteArray} {x : ByteArray} (hx : x ∈ l) (h : (rpParse [bl x]).1 = 1) : lnsP l = false := by
  have h1 := rpGo_none (rp_one h) (List.mem_map_of_mem (f := bl) hx) (f := true) (c := 0) (op := true)
  have h2 : (rpParse (l.map bl)).1 = 1 := by
    rw [rpParse, h1]
    cases decide ((l.map bl).length ≤ 16) <;> rfl
  rw [lnsP, h2, show ((1 : Int) == 7) = false from rfl, Bool.and_false, Bool.or_false]
  have : l.length ≠ 0 := fun h0 => by
    rw [List.length_eq_zero_iff.1 h0] at hx; cases hx
  simpa using this
def Γ54q : Sems := ext 94 (lendS q94) (Γ0)
theorem Γ54q.ok : SemsOK Gr Tryz.prog Γ54q := (Γ0.ok.ext Tryz.func94 rfl (by decide) (SenseOK.lendL qk94))
def q54 : Sense := pureS fun xs K => ∃ l : List ByteArray, xs = [.one (.sl ST l)] ∧ l.length ≤ big ∧ (∀ x ∈ l, x.size ≤ big) ∧ K (.ret (.one (.bool (lnsP l))))
theorem qk54 : SenseOK Gr Tryz.prog 54 q54 := SenseOK.pure Γ54q.ok (fun n => match n with | 4 => [0, 12, 13, 14] | _ => []) Tryz.func54 fun xs K h => by
  obtain ⟨l, rfl, hb, hx, hk⟩ := h
  have hb' := hb
  simp only [big] at hb'
  have hk' : ∀ b, lnsP l = b → K [] (.ret (.one (.bool b))) := fun b h => h ▸ hk
  cases h0 : ((l.length : Int) == 0) with
  | true =>
    refine zs1 h0 ?_
    exact hk' _ (by rw [lnsP, h0]; rfl)
  | false =>
  refine zs1 h0 ?_
  refine iter_of (I := fun k σ => ∃ (j : Nat), k = l.length - j ∧ j ≤ l.length ∧ σ = ⟨slots 43 [(0, .one (.sl ST l)), (12, .one (.sl ST l)), (13, .one (.int .i64 l.length)), (14, .one (.int .i64 j))], []⟩) ?_ l.length ⟨0, by omega, by omega, rfl⟩
  rintro k σ K' ⟨j, rfl, hj, rfl⟩ hK'
  have w2 := IntWalk.i64_in ((j : Int) + 1) (by omega)
  by_cases h1 : j < l.length
  case neg =>
    have f1 : decide ((j : Int) < l.length) = false := decide_eq_false (by omega)
    refine zs1 f1 ?_
    have hq : lnsP l = (decide ((l.length : Int) < 16) && ((rpParse (l.map bl)).1 == 7)) := by rw [lnsP, h0, Bool.false_or]
    rw [hq] at hk'
    refine ⟨[.one (.sl ST l)], rfl, lnt, ?_⟩
    refine zy ?_
    cases h16 : decide ((l.length : Int) < 16) with
    | false =>
      rw [h16] at hk'
      refine ⟨l, rfl, rfl, hb, hx, fun g => ?_, fun g => ?_, fun c g T mv => ?_⟩
      all_goals
        refine zs1 h16 ?_
        exact hk' _ rfl
    | true =>
      rw [h16, Bool.true_and] at hk'
      refine ⟨l, rfl, rfl, hb, hx, fun g => ?_, fun g => ?_, fun c g T mv => ?_⟩
      all_goals
        rw [g] at hk'
        refine zs1 h16 ?_
        exact hk' _ rfl
  have f1 : decide ((j : Int) < l.length) = true := decide_eq_true (by omega)
  obtain ⟨x, hr⟩ : ∃ x, l[j]? = some x := ⟨_, List.getElem?_eq_getElem h1⟩
  have rr := nth_of hr ST.dflt
  have ii : (0 : Int) ≤ j ∧ (j : Int) < l.length := ⟨by omega, by omega⟩
  have hxm := List.mem_of_getElem? hr
  refine zs2 f1 rr ?_
  refine ⟨[.one (.sl ST [x])], rfl, lnt, ?_⟩
  refine zy ?_
  refine ⟨[x], rfl, rfl, by simp [big], fun y hy => by rw [List.mem_singleton] at hy; subst hy; exact hx _ hxm, fun g => ?_, fun g => ?_, fun c g T mv => ?_⟩
  · refine zs0 ?_
    exact hk' _ (lns_bad hxm g)
  · refine zs1 w2 ?_
    exact hK' _ _ (by omega) ⟨j + 1, rfl, by omega, rfl⟩
  · refine zs1 w2 ?_
    exact hK' _ _ (by omega) ⟨j + 1, rfl, by omega, rfl⟩
def maySd (s : Sd) (m : Md) : Bool :=
  ((decide (1 ≤ s.id) && decide (s.id ≤ 1099511627776)) && (jobP s.jb m && ((decide (0 ≤ s.st) && decide (s.st ≤ 7)) && ((decide (0 ≤ s.wt) && decide (s.wt ≤ 100)) && fmP (bl s.rest) s.skip)))) &&
  (((s.cd.length : Int) == s.rc.length) && (!s.cd.any badK && (placeP s && lnsP s.ln)))
def Γ33q : Sems := ext 48 q48 (ext 49 q49 (ext 50 q50 (ext 51 q51 (ext 53 q53 (ext 54 q54 (Γ0))))))
theorem Γ33q.ok : SemsOK Gr Tryz.prog Γ33q := ((((((Γ0.ok.ext Tryz.func54 rfl (by decide) qk54).ext Tryz.func53 rfl (by decide) qk53).ext Tryz.func51 rfl (by decide) qk51).ext Tryz.func50 rfl (by decide) qk50).ext Tryz.func49 rfl (by decide) qk49).ext Tryz.func48 rfl (by decide) qk48)
def Sd.fit (s : Sd) : Prop := s.sml ∧ s.dom.size ≤ mid ∧ s.rest.size ≤ big ∧ ∀ x ∈ s.ln, x.size ≤ big
def q33 : Sense := ⟨false, fun os xs K => ∃ (s : Sd) (m : Md), xs = [.agg s.fz, .agg (m.cs (.sl RT m.rc))] ∧ os = [] ∧ s.fit ∧ m.rc.length ≤ big ∧ K [] (.ret (.one (.bool (maySd s m))))⟩
theorem qk33 : SenseOK Gr Tryz.prog 33 q33 := SenseOK.any Γ33q.ok (fun _ => []) Tryz.func33 fun os xs K h => by
  obtain ⟨s, m, rfl, rfl, ⟨hs, hd, hre, hln⟩, hm, hk⟩ := h
  have hs' := hs
  obtain ⟨l0, l1, l2, l3⟩ := hs'
  have hj : s.jb.sml := ⟨l0, hd⟩
  have hk' : ∀ b, maySd s m = b → K [] (.ret (.one (.bool b))) := fun b h => h ▸ hk
  unfold maySd at hk'
  cases h1 : (decide (1 ≤ s.id) && decide (s.id ≤ 1099511627776)) with
  | false =>
    rw [h1] at hk'
    refine zs1 h1 ?_
    exact hk' _ rfl
  | true =>
  rw [h1] at hk'
  cases h2 : jobP s.jb m with
  | false =>
    rw [h2] at hk'
    refine zs1 h1 ?_
    refine ⟨s.jb, m, rfl, trr, hj, hm, ?_⟩
    refine zs1 h2 ?_
    exact hk' _ rfl
  | true =>
  rw [h2] at hk'
  refine zs1 h1 ?_
  refine ⟨s.jb, m, rfl, trr, hj, hm, ?_⟩
  cases h3 : (decide (0 ≤ s.st) && decide (s.st ≤ 7)) with
  | false =>
    rw [h3] at hk'
    refine zs2 h2 h3 ?_
    exact hk' _ rfl
  | true =>
  rw [h3] at hk'
  cases h4 : (decide (0 ≤ s.wt) && decide (s.wt ≤ 100)) with
  | false =>
    rw [h4] at hk'
    refine zs3 h2 h3 h4 ?_
    exact hk' _ rfl
  | true =>
  rw [h4] at hk'
  cases h5 : fmP (bl s.rest) s.skip with
  | false =>
    rw [h5] at hk'
    refine zs4 h2 h3 h4 h5 ?_
    exact hk' _ rfl
  | true =>
  rw [h5] at hk'
  cases h6 : ((s.cd.length : Int) == s.rc.length) with
  | false =>
    have f6 : ((s.cd.length : Int) != s.rc.length) = true := by rw [bne, h6]; rfl
    rw [h6] at hk'
    refine zs5 h2 h3 h4 h5 f6 ?_
    exact hk' _ rfl
  | true =>
  have f6 : ((s.cd.length : Int) != s.rc.length) = false := by rw [bne, h6]; rfl
  rw [h6] at hk'
  refine zs5 h2 h3 h4 h5 f6 ?_
  refine ⟨s.cd, l2, .inl ⟨rfl, trr, ?_⟩⟩
  cases h7 : s.cd.any badK with
  | true =>
    rw [h7] at hk'
    refine zs0 ?_
    exact hk' _ rfl
  | false =>
  rw [h7] at hk'
  cases h8 : placeP s with
  | false =>
    rw [h8] at hk'
    refine zs1 h8 ?_
    exact hk' _ rfl
  | true =>
  rw [h8] at hk'
  refine zs1 h8 ?_
  exact hk' _ rfl
def stB (e : TypeId) (s : Sd) (m : Md) (h o : ByteArray) : Ob := .box e (s.cs (.own 1) (.own 2) (.own 3) .nil ++ (m.cs (.sl RT m.rc) ++ [.str h, .str o]))
def Sd.os3 (s : Sd) : List Ob := [.own 3 IT s.rc true false, .own 3 IT s.tk true false, .own 3 IT s.cd true false]
def Sd.os3T (s : Sd) : List Ob := [.own 3 IT s.rc true false, .own 3 IT s.tk true true, .own 3 IT s.cd true false]
def stS (e : TypeId) (ag : List V) (pre : Prop) (s : Sd) (m : Md) (h o : ByteArray) (s' : Sd) (o' : ByteArray) (os : List Ob) (xs : List V) (K : List Ob → Out → Prop) : Prop :=
  xs = .one (.ref 0 0) :: ag ∧ os = stB e s m h o :: s.os3 ∧ pre ∧ K (stB e s' m h o' :: s'.os3T) (.ret (.tup []))
def sayO (o l : ByteArray) : ByteArray := o ++ (l ++ (⟨#[13, 10]⟩ : ByteArray))
def huge : Nat := 4611686018427387904
def q175 : Sense := ⟨false, fun os xs K => ∃ (s : Sd) (m : Md) (h o l : ByteArray), stS 96 [.one (.str l)] (o.size + l.size ≤ huge) s m h o s (sayO o l) os xs K⟩
theorem qk175 : SenseOK G Tryz.prog 175 q175 := SenseOK.anyL Γ0.ok (fun _ => []) [.mv 2] Tryz.func175 fun os xs K hh => by
  obtain ⟨s, m, h, o, l, rfl, rfl, hb, hk⟩ := hh
  simp only [huge] at hb
  have h1 : (⟨#[13, 10]⟩ : ByteArray).size = 2 := rfl
  have h2 : (l ++ (⟨#[13, 10]⟩ : ByteArray)).size = l.size + 2 := by rw [ByteArray.size_append, h1]
  refine zv ?_
  exact hk
def Γ174q : Sems := ext 175 q175 (Γ0)
theorem Γ174q.ok : SemsOK G Tryz.prog Γ174q := (Γ0.ok.ext Tryz.func175 rfl (by decide) qk175)
def quitS (s : Sd) : Sd := { s with st := 6, at_ := 0, tk := [] }
def quitO (o : ByteArray) : ByteArray := sayO o (⟨#[81, 85, 73, 84]⟩ : ByteArray)
def q174 : Sense := ⟨false, fun os xs K => ∃ (s : Sd) (m : Md) (h o : ByteArray), stS 96 [] (o.size + 64 ≤ huge) s m h o (quitS s) (quitO o) os xs K⟩
theorem qk174 : SenseOK G Tryz.prog 174 q174 := SenseOK.anyL Γ174q.ok (fun _ => []) [.mv 2, .box 0 8 3 IT] Tryz.func174 fun os xs K hh => by
  obtain ⟨s, m, h, o, rfl, rfl, hb, hk⟩ := hh
  simp only [huge] at hb
  have h1 : (⟨#[81, 85, 73, 84]⟩ : ByteArray).size = 4 := rfl
  refine zy ?_
  refine ⟨s, m, h, o, _, rfl, rfl, (by simp only [huge]; omega), ?_⟩
  refine zy ?_
  exact hk
def Γ173q : Sems := ext 89 s83 (ext 175 q175 (Γ0))
theorem Γ173q.ok : SemsOK G Tryz.prog Γ173q := ((Γ0.ok.ext Tryz.func175 rfl (by decide) qk175).ext Tryz.func89 rfl (by decide) ok83)
def adrB (a b : ByteArray) : ByteArray := a ++ ((⟨#[64]⟩ : ByteArray) ++ b)
theorem adr_of {r a b : ByteArray} (h : bl r = bl a ++ 64 :: bl b) : r = adrB a b := bl_inj (by
  rw [h, adrB, bl_append, bl_append]; rfl)
theorem adr_size (a b : ByteArray) : (adrB a b).size = a.size + b.size + 1 := by
  rw [adrB, ByteArray.size_append, ByteArray.size_append]
  have : (⟨#[64]⟩ : ByteArray).size = 1 := rfl
  omega
def whoR (m : Md) (s : Sd) : RT.den := rdx m.rc (rdx s.rc s.at_.toNat IT.dflt).toNat RT.dflt
def nameL (m : Md) (s : Sd) : ByteArray := ((⟨#[82, 67, 80, 84, 32, 84, 79, 58, 60]⟩ : ByteArray) ++ adrB (whoR m s).1.1 (whoR m s).1.2) ++ (⟨#[62]⟩ : ByteArray)
def nameO (m : Md) (s : Sd) (o : ByteArray) : ByteArray := sayO o (nameL m s)
def atOK (m : Md) (s : Sd) : Prop := (0 ≤ s.at_ ∧ s.at_ < s.rc.length) ∧ ∀ k ∈ s.rc, 0 ≤ k ∧ k < m.rc.length
def Md.adrs (m : Md) : Prop := (∀ r ∈ m.rc, r.1.1.size ≤ big ∧ r.1.2.size ≤ big) ∧ (m.fl.size ≤ big ∧ m.fd.size ≤ big)
theorem at_get {m : Md} {s : Sd} (h : atOK m s) (ha : m.adrs) : ∃ (n k : Nat) (r : RT.den), s.at_ = n ∧ s.rc[n]? = some (k : Int) ∧ m.rc[k]? = some r ∧ whoR m s = r ∧ n < s.rc.length ∧ k < m.rc.length ∧ r.1.1.size ≤ big ∧ r.1.2.size ≤ big := by
  obtain ⟨⟨ha0, ha1⟩, hrc⟩ := h
  obtain ⟨n, hn⟩ : ∃ n : Nat, s.at_ = n := ⟨s.at_.toNat, by omega⟩
  obtain ⟨x, hx⟩ : ∃ x, s.rc[n]? = some x := ⟨_, List.getElem?_eq_getElem (by omega)⟩
  have hx2 := hrc x (List.mem_of_getElem? hx)
  obtain ⟨k, rfl⟩ : ∃ k : Nat, x = k := ⟨x.toNat, by omega⟩
  obtain ⟨r, hr⟩ : ∃ r, m.rc[k]? = some r := ⟨_, List.getElem?_eq_getElem (by omega)⟩
  have hr2 := ha.1 r (List.mem_of_getElem? hr)
  refine ⟨n, k, r, hn, hx, hr, ?_, by omega, by omega, hr2.1, hr2.2⟩
  show rdx m.rc (rdx s.rc s.at_.toNat IT.dflt).toNat RT.dflt = r
  rw [hn, nth_of hx IT.dflt, nth_of hr RT.dflt]
def q173 : Sense := ⟨false, fun os xs K => ∃ (s : Sd) (m : Md) (h o : ByteArray), stS 96 [] (o.size + 8589934656 ≤ huge ∧ (atOK m s ∧ m.adrs)) s m h o s (nameO m s o) os xs K⟩
theorem qk173 : SenseOK G Tryz.prog 173 q173 := SenseOK.anyL Γ173q.ok (fun _ => []) [.mv 2] Tryz.func173 fun os xs K hh => by
  obtain ⟨s, m, h, o, rfl, rfl, ⟨hb, hat, had⟩, hk⟩ := hh
  simp only [huge] at hb
  obtain ⟨n, k, r, hn, hx, hr, hw, hnl, hkl, ha, hb2⟩ := at_get hat had
  have ha' := ha
  have hb2' := hb2
  simp only [big] at ha' hb2'
  have rx := nth_of hx IT.dflt
  have rr := nth_of hr RT.dflt
  have ix : (0 : Int) ≤ n ∧ (n : Int) < s.rc.length := ⟨by omega, by omega⟩
  have ir : (0 : Int) ≤ k ∧ (k : Int) < m.rc.length := ⟨by omega, by omega⟩
  have h1 : (⟨#[82, 67, 80, 84, 32, 84, 79, 58, 60]⟩ : ByteArray).size = 9 := rfl
  have h2 : (⟨#[62]⟩ : ByteArray).size = 1 := rfl
  have hk' : K (stB 96 s m h (sayO o (((⟨#[82, 67, 80, 84, 32, 84, 79, 58, 60]⟩ : ByteArray) ++ adrB r.1.1 r.1.2) ++ (⟨#[62]⟩ : ByteArray))) :: s.os3T) (.ret (.tup [])) := by
    rw [nameO, nameL, hw] at hk; exact hk
  have h3 := adr_size r.1.1 r.1.2
  have h4 : ((⟨#[82, 67, 80, 84, 32, 84, 79, 58, 60]⟩ : ByteArray) ++ adrB r.1.1 r.1.2).size = 9 + (adrB r.1.1 r.1.2).size := by rw [ByteArray.size_append, h1]
  have h5 : (((⟨#[82, 67, 80, 84, 32, 84, 79, 58, 60]⟩ : ByteArray) ++ adrB r.1.1 r.1.2) ++ (⟨#[62]⟩ : ByteArray)).size = 9 + (adrB r.1.1 r.1.2).size + 1 := by rw [ByteArray.size_append, h4, h2]
  refine zv ?_
  refine ⟨[], (.take 0 (.take 1 (.take 2 (.take 3 (.take 4 (.take 5 (.take 6 (.take 7 (.take 8 (.take 9 (.take 10 (.take 11 (.take 12 (.take 13 (.take 14 (.take 15 (.take 16 (.take 17 (.take 18 (.take 19 (.take 20 (.take 21 (.br 22 (.take 23 (.take 24 (.rest 25))) .nil))))))))))))))))))))))), ⟨by kernel_rfl⟩, ?_⟩
  refine zs3 hn rx rr ?_
  intro t ht
  obtain rfl := adr_of ht
  refine zs0 ?_
  refine ⟨s, m, h, o, _, rfl, rfl, (by simp only [huge]; omega), ?_⟩
  refine zs0 ?_
  exact hk'
def goodC (c : Int) : Bool := decide (c ≥ 200) && decide (c < 300)
def q172 : Sense := pureS fun xs K => ∃ c, xs = [.one (.int .i64 c)] ∧ K (.ret (.one (.bool (goodC c))))
theorem qk172 : SenseOK G Tryz.prog 172 q172 := SenseOK.pure Γ0.ok (fun _ => []) Tryz.func172 fun xs K h => by
  obtain ⟨c, rfl, hk⟩ := h
  unfold goodC at hk
  cases g1 : decide (c ≥ 200) with
  | false => rw [g1] at hk; refine zs1 g1 ?_; exact hk
  | true =>
    rw [g1] at hk
    cases g2 : decide (c < 300) with
    | false => rw [g2] at hk; refine zs2 g1 g2 ?_; exact hk
    | true => rw [g2] at hk; refine zs2 g1 g2 ?_; exact hk
def fillT (tk : List Int) (cd : List Int) (c : Int) : List Int := tk.foldl (fun l k => l.set k.toNat c) cd
theorem fillT_len (c : Int) : ∀ (tk cd : List Int), (fillT tk cd c).length = cd.length
  | [], _ => rfl
  | k :: tk, cd => by
    show (fillT tk (cd.set k.toNat c) c).length = _
    rw [fillT_len c tk, List.length_set]
theorem fillT_next {tk cd : List Int} {c k : Int} {j : Nat} (h : tk[j]? = some k) : fillT (tk.take (j + 1)) cd c = (fillT (tk.take j) cd c).set k.toNat c := by
  rw [fillT, fillT, List.take_add_one, h, Option.toList_some, List.foldl_append]; rfl
def toksOK (s : Sd) : Prop := ∀ k ∈ s.tk, 0 ≤ k ∧ k < s.cd.length
def q177 : Sense := ⟨false, fun os xs K => ∃ (s : Sd) (m : Md) (h o : ByteArray) (c : Int), stS 96 [.one (.int .i64 c)] (s.tk.length ≤ big ∧ toksOK s) s m h o { s with cd := fillT s.tk s.cd c } o os xs K⟩
theorem qk177 : SenseOK G Tryz.prog 177 q177 := SenseOK.anyL Γ0.ok (fun _ => [0, 1, 10, 11, 12]) [.mv 2] Tryz.func177 fun os xs K hh => by
  obtain ⟨s, m, h, o, c, rfl, rfl, ⟨hb, ht⟩, hk⟩ := hh
  have hb' := hb
  simp only [big] at hb'
  refine zv ?_
  refine iter_of (I := fun n σ => ∃ j : Nat, n = s.tk.length - j ∧ j ≤ s.tk.length ∧ σ = ⟨slots 25 [(0, .one (.ref 0 0)), (1, .one (.int .i64 c)), (10, .one (.own 2)), (11, .one (.int .i64 s.tk.length)), (12, .one (.int .i64 j))], stB 96 s m h o :: ({ s with cd := fillT (s.tk.take j) s.cd c } : Sd).os3⟩) ?_ s.tk.length ⟨0, by omega, by omega, rfl⟩
  rintro n σ K' ⟨j, rfl, hj, rfl⟩ hK'
  have w1 := IntWalk.i64_in ((j : Int) + 1) (by omega)
  by_cases g1 : j < s.tk.length
  case neg =>
    have e1 : decide ((j : Int) < s.tk.length) = false := decide_eq_false (by omega)
    have e2 : s.tk.take j = s.tk := List.take_of_length_le (by omega)
    rw [e2]
    refine zs1 e1 ?_
    exact hk
  have e1 : decide ((j : Int) < s.tk.length) = true := decide_eq_true (by omega)
  obtain ⟨x, hx⟩ : ∃ x, s.tk[j]? = some x := ⟨_, List.getElem?_eq_getElem g1⟩
  have rx := nth_of hx IT.dflt
  have hxt := ht x (List.mem_of_getElem? hx)
  have ix : (0 : Int) ≤ j ∧ (j : Int) < s.tk.length := ⟨by omega, by omega⟩
  have ic : (0 : Int) ≤ x ∧ x < (fillT (s.tk.take j) s.cd c).length := by rw [fillT_len]; exact hxt
  refine zs3 e1 rx w1 ?_
  exact hK' _ _ (by omega) ⟨j + 1, rfl, by omega, by rw [fillT_next hx]; rfl⟩
def Γ144q : Sems := ext 89 s83 (ext 172 q172 (ext 173 q173 (ext 174 q174 (ext 175 q175 (Γ0)))))
theorem Γ144q.ok : SemsOK G Tryz.prog Γ144q := (((((Γ0.ok.ext Tryz.func175 rfl (by decide) qk175).ext Tryz.func174 rfl (by decide) qk174).ext Tryz.func173 rfl (by decide) qk173).ext Tryz.func172 rfl (by decide) qk172).ext Tryz.func89 rfl (by decide) ok83)
def wfS (m : Md) (s : Sd) : Prop := s.sml ∧ (s.rc ≠ [] ∧ ∀ k ∈ s.rc, 0 ≤ k ∧ k < m.rc.length) ∧ s.cd.length = s.rc.length
def zf (c x : Int) : Int := if x = 0 then c else x
def zfAt (c : Int) (l : List Int) (j : Nat) : List Int := (l.take j).map (zf c) ++ l.drop j
theorem zfAt_get {c : Int} {l : List Int} {j : Nat} (h : j ≤ l.length) : (zfAt c l j)[j]? = l[j]? := by
  rw [zfAt, List.getElem?_append_right (by simp; omega), List.length_map, List.length_take, Nat.min_eq_left h, Nat.sub_self, List.getElem?_drop, Nat.add_zero]
theorem zfAt_len (c : Int) (l : List Int) (j : Nat) : (zfAt c l j).length = l.length := by
  rw [zfAt, List.length_append, List.length_map, ← List.length_append, List.take_append_drop]
theorem zfAt_set {c x : Int} {l : List Int} {j : Nat} (h : l[j]? = some x) : (zfAt c l j).set j (zf c x) = zfAt c l (j + 1) := by
  have hj : j < l.length := (List.getElem?_eq_some_iff.1 h).1
  have hl : ((l.take j).map (zf c)).length = j := by simp; omega
  rw [zfAt, zfAt, List.set_append_right _ _ (by omega), hl, Nat.sub_self, int_drop h, List.take_add_one, h]
  simp
theorem zfAt_zero (c : Int) (l : List Int) : zfAt c l 0 = l := by simp [zfAt]
theorem zfAt_all (c : Int) (l : List Int) {j : Nat} (h : l.length ≤ j) : zfAt c l j = l.map (zf c) := by
  rw [zfAt, List.take_of_length_le h, List.drop_of_length_le h, List.append_nil]
theorem zfAt_same {c x : Int} {l : List Int} {j : Nat} (h : l[j]? = some x) (hx : zf c x = x) : zfAt c l j = zfAt c l (j + 1) := by
  rw [← zfAt_set h, hx]
  obtain ⟨h1, h2⟩ := List.getElem?_eq_some_iff.1 (show (zfAt c l j)[j]? = some x by rw [zfAt_get (Nat.le_of_lt (List.getElem?_eq_some_iff.1 h).1)]; exact h)
  rw [← h2, List.set_getElem_self]
def beginM (m : Md) (h : ByteArray) (s : Sd) (o : ByteArray) (c : Int) : Sd × ByteArray :=
  bif goodC c then
    if s.st = 0 then ({ s with st := 1 }, sayO o ((bif s.lm then (⟨#[76, 72, 76, 79, 32]⟩ : ByteArray) else (⟨#[69, 72, 76, 79, 32]⟩ : ByteArray)) ++ h))
    else if s.st = 1 then ({ s with st := 2 }, sayO o (((⟨#[77, 65, 73, 76, 32, 70, 82, 79, 77, 58, 60]⟩ : ByteArray) ++ (bif m.nul then ⟨#[]⟩ else adrB m.fl m.fd)) ++ (⟨#[62]⟩ : ByteArray)))
    else ({ s with st := 3, at_ := 0 }, nameO m { s with st := 3, at_ := 0 } o)
  else (quitS { s with cd := s.cd.map (zf c) }, quitO o)
def stpO (m : Md) (h o : ByteArray) : Prop := o.size + 8589934656 ≤ huge ∧ h.size ≤ big ∧ m.adrs
def q144 : Sense := ⟨false, fun os xs K => ∃ (s : Sd) (m : Md) (h o : ByteArray) (c : Int), stS 96 [.one (.int .i64 c)] (stpO m h o ∧ wfS m s) s m h o (beginM m h s o c).1 (beginM m h s o c).2 os xs K⟩
theorem qk144 : SenseOK G Tryz.prog 144 q144 := SenseOK.anyL Γ144q.ok (fun _ => [0, 1, 15, 16, 17]) [.mv 2] Tryz.func144 fun os xs K hh => by
  obtain ⟨s, m, h, o, c, rfl, rfl, ⟨⟨hb, hh, had⟩, hs, ⟨hr0, hrc⟩, hcd⟩, hk⟩ := hh
  have hb' := hb
  have hh' := hh
  obtain ⟨had1, hfl, hfd⟩ := had
  have hfl' := hfl
  have hfd' := hfd
  simp only [huge] at hb'
  simp only [big] at hh' hfl' hfd'
  have hl2 := hs.2.2.1
  simp only [big] at hl2
  cases g1 : goodC c with
  | false =>
    have hq : beginM m h s o c = (quitS { s with cd := s.cd.map (zf c) }, quitO o) := by rw [beginM, g1]; rfl
    rw [hq] at hk
    refine zs1 g1 ?_
    refine iter_of (I := fun n σ => ∃ j : Nat, n = s.cd.length - j ∧ j ≤ s.cd.length ∧ σ = ⟨slots 92 [(0, .one (.ref 0 0)), (1, .one (.int .i64 c)), (15, .one (.own 3)), (16, .one (.int .i64 s.cd.length)), (17, .one (.int .i64 j))], stB 96 s m h o :: ({ s with cd := zfAt c s.cd j } : Sd).os3⟩) ?_ s.cd.length ⟨0, by omega, by omega, by rw [zfAt_zero]; rfl⟩
    rintro n σ K' ⟨j, rfl, hj, rfl⟩ hK'
    have w1 := IntWalk.i64_in ((j : Int) + 1) (by omega)
    by_cases g2 : j < s.cd.length
    case neg =>
      have e1 : decide ((j : Int) < s.cd.length) = false := decide_eq_false (by omega)
      rw [zfAt_all c s.cd (by omega)]
      refine zs1 e1 ?_
      refine ⟨{ s with cd := s.cd.map (zf c) }, m, h, o, rfl, rfl, (by simp only [huge]; omega), ?_⟩
      refine zy ?_
      exact hk
    have e1 : decide ((j : Int) < s.cd.length) = true := decide_eq_true (by omega)
    obtain ⟨x, hx⟩ : ∃ x, s.cd[j]? = some x := ⟨_, List.getElem?_eq_getElem g2⟩
    have rx := nth_of (show (zfAt c s.cd j)[j]? = some x by rw [zfAt_get hj]; exact hx) IT.dflt
    have ix : (0 : Int) ≤ j ∧ (j : Int) < (zfAt c s.cd j).length := by rw [zfAt_len]; omega
    by_cases x0 : x = 0
    · have f0 : (x == 0) = true := by simpa using x0
      have hz : zf c x = c := by rw [zf, if_pos x0]
      refine zs4 e1 rx f0 w1 ?_
      exact hK' _ _ (by omega) ⟨j + 1, rfl, by omega, by rw [← zfAt_set hx, hz]; rfl⟩
    · have f0 : (x == 0) = false := by simpa using x0
      have hz : zf c x = x := by rw [zf, if_neg x0]
      refine zs4 e1 rx f0 w1 ?_
      exact hK' _ _ (by omega) ⟨j + 1, rfl, by omega, by rw [← zfAt_same hx hz]; rfl⟩
  | true =>
  have h1 : (⟨#[77, 65, 73, 76, 32, 70, 82, 79, 77, 58, 60]⟩ : ByteArray).size = 11 := rfl
  have h2 : (⟨#[62]⟩ : ByteArray).size = 1 := rfl
  have h3 : (⟨#[76, 72, 76, 79, 32]⟩ : ByteArray).size = 5 := rfl
  have h4 : (⟨#[69, 72, 76, 79, 32]⟩ : ByteArray).size = 5 := rfl
  by_cases s0 : s.st = 0
  · have f0 : (s.st == 0) = true := by simpa using s0
    refine zs2 g1 f0 ?_
    refine Br.mk (fun g2 => ?_) (fun g2 => ?_)
    · have hq : beginM m h s o c = ({ s with st := 1 }, sayO o ((⟨#[76, 72, 76, 79, 32]⟩ : ByteArray) ++ h)) := by rw [beginM, g1, g2]; simp only [cond_true, if_pos s0]
      have h5 : ((⟨#[76, 72, 76, 79, 32]⟩ : ByteArray) ++ h).size = 5 + h.size := by rw [ByteArray.size_append, h3]
      rw [hq] at hk
      refine zs0 ?_
      refine ⟨s, m, h, o, _, rfl, rfl, (by simp only [huge]; omega), ?_⟩
      refine zy ?_
      exact hk
    · have hq : beginM m h s o c = ({ s with st := 1 }, sayO o ((⟨#[69, 72, 76, 79, 32]⟩ : ByteArray) ++ h)) := by rw [beginM, g1, g2]; simp only [cond_true, cond_false, if_pos s0]
      have h5 : ((⟨#[69, 72, 76, 79, 32]⟩ : ByteArray) ++ h).size = 5 + h.size := by rw [ByteArray.size_append, h4]
      rw [hq] at hk
      refine zs0 ?_
      refine ⟨s, m, h, o, _, rfl, rfl, (by simp only [huge]; omega), ?_⟩
      refine zy ?_
      exact hk
  have f0 : (s.st == 0) = false := by simpa using s0
  by_cases s1 : s.st = 1
  · have f1 : (s.st == 1) = true := by simpa using s1
    refine zs3 g1 f0 f1 ?_
    refine Br.mk (fun g2 => ?_) (fun g2 => ?_)
    · have g3 : m.nul = false := by simpa using g2
      have hq : beginM m h s o c = ({ s with st := 2 }, sayO o (((⟨#[77, 65, 73, 76, 32, 70, 82, 79, 77, 58, 60]⟩ : ByteArray) ++ adrB m.fl m.fd) ++ (⟨#[62]⟩ : ByteArray))) := by rw [beginM, g1, g3]; simp only [cond_true, cond_false, if_neg s0, if_pos s1]
      have h5 := adr_size m.fl m.fd
      have h6 : ((⟨#[77, 65, 73, 76, 32, 70, 82, 79, 77, 58, 60]⟩ : ByteArray) ++ adrB m.fl m.fd).size = 11 + (adrB m.fl m.fd).size := by rw [ByteArray.size_append, h1]
      have h7 : (((⟨#[77, 65, 73, 76, 32, 70, 82, 79, 77, 58, 60]⟩ : ByteArray) ++ adrB m.fl m.fd) ++ (⟨#[62]⟩ : ByteArray)).size = 11 + (adrB m.fl m.fd).size + 1 := by rw [ByteArray.size_append, h6, h2]
      rw [hq] at hk
      refine zs0 ?_
      intro t ht
      obtain rfl := adr_of ht
      refine zs0 ?_
      refine ⟨s, m, h, o, _, rfl, rfl, (by simp only [huge]; omega), ?_⟩
      refine zy ?_
      exact hk
    · have g3 : m.nul = true := by simpa using g2
      have hq : beginM m h s o c = ({ s with st := 2 }, sayO o (((⟨#[77, 65, 73, 76, 32, 70, 82, 79, 77, 58, 60]⟩ : ByteArray) ++ ⟨#[]⟩) ++ (⟨#[62]⟩ : ByteArray))) := by rw [beginM, g1, g3]; simp only [cond_true, if_neg s0, if_pos s1]
      have h5 : (⟨#[]⟩ : ByteArray).size = 0 := rfl
      have h6 : ((⟨#[77, 65, 73, 76, 32, 70, 82, 79, 77, 58, 60]⟩ : ByteArray) ++ (⟨#[]⟩ : ByteArray)).size = 11 := rfl
      have h7 : (((⟨#[77, 65, 73, 76, 32, 70, 82, 79, 77, 58, 60]⟩ : ByteArray) ++ (⟨#[]⟩ : ByteArray)) ++ (⟨#[62]⟩ : ByteArray)).size = 12 := rfl
      rw [hq] at hk
      refine zs0 ?_
      refine ⟨s, m, h, o, _, rfl, rfl, (by simp only [huge]; omega), ?_⟩
      refine zy ?_
      exact hk
  have f1 : (s.st == 1) = false := by simpa using s1
  have hq : beginM m h s o c = ({ s with st := 3, at_ := 0 }, nameO m { s with st := 3, at_ := 0 } o) := by rw [beginM, g1]; simp only [cond_true, if_neg s0, if_neg s1]
  rw [hq] at hk
  refine zs3 g1 f0 f1 ?_
  refine ⟨{ s with st := 3, at_ := 0 }, m, h, o, rfl, rfl, ⟨hb, ⟨⟨Int.le_refl 0, ?_⟩, hrc⟩, had1, hfl, hfd⟩, ?_⟩
  · have := List.length_pos_iff.2 hr0
    show (0 : Int) < s.rc.length
    omega
  refine zy ?_
  exact hk
end Go.Proofs.YtilagaapfbfkkaaGreatDoor.Ab
namespace Go.Proofs
open Go.Shelf
def Tryz.lays166_ren : Go.Shelf.Ren := ⟨fun | 166 => 203 | 167 => 202 | 169 => 204 | 240 => 217 | 276 => 220 | n => n, fun | 70 => 210 | 72 => 212 | 164 => 231 | 20 => 20 | 75 => 131 | 80 => 215 | 127 => 222 | 9 => 9 | 37 => 37 | n => n, fun | n => n⟩
theorem Tryz.lays166 : Go.Proofs.Lays.n166 Tryz.prog Tryz.lays166_ren := {
  mixed := by kernel_rfl
  f166 := Tryz.func203.trans (congrArg some (by kernel_rfl))
  f240 := Tryz.func217.trans (congrArg some (by kernel_rfl))
  f276 := Tryz.func220.trans (congrArg some (by kernel_rfl))
  t0 := Tryz.underlying0
  a0 := Tryz.isAgg0
  z0 := Tryz.sizeOf0
  v0 := Tryz.zeroValue0
  t3 := Tryz.underlying3
  a3 := Tryz.isAgg3
  z3 := Tryz.sizeOf3
  v3 := Tryz.zeroValue3
  t4 := Tryz.underlying4
  a4 := Tryz.isAgg4
  z4 := Tryz.sizeOf4
  v4 := Tryz.zeroValue4
  t9 := Tryz.underlying9
  a9 := Tryz.isAgg9
  z9 := Tryz.sizeOf9
  v9 := Tryz.zeroValue9
  t20 := Tryz.underlying20
  a20 := Tryz.isAgg20
  z20 := Tryz.sizeOf20
  v20 := Tryz.zeroValue20
  t37 := Tryz.underlying37
  a37 := Tryz.isAgg37
  z37 := Tryz.sizeOf37
  v37 := Tryz.zeroValue37
  t70 := Tryz.underlying210
  a70 := Tryz.isAgg210
  z70 := Tryz.sizeOf210
  v70 := Tryz.zeroValue210
  t72 := Tryz.underlying212
  a72 := Tryz.isAgg212
  z72 := Tryz.sizeOf212
  v72 := Tryz.zeroValue212
  t75 := Tryz.underlying131
  a75 := Tryz.isAgg131
  z75 := Tryz.sizeOf131
  v75 := Tryz.zeroValue131
  t164 := Tryz.underlying231
  a164 := Tryz.isAgg231
  z164 := Tryz.sizeOf231
  v164 := Tryz.zeroValue231 }
theorem Tryz.Builder_Extra_166 : Builder.Extra Tryz.prog Tryz.lays166_ren := {
  sizeBuilder := by kernel_rfl
  liesBuilder := by kernel_rfl
  t5 := Tryz.underlying5
  a5 := Tryz.isAgg5
  z5 := Tryz.sizeOf5
  v5 := Tryz.zeroValue5
  infoByte := by kernel_rfl
  cellsByte := by kernel_rfl
  sizeByte := by kernel_rfl
  neB5 := by decide }
def Tryz.lays167_ren : Go.Shelf.Ren := ⟨fun | 166 => 203 | 167 => 202 | 169 => 204 | 240 => 217 | 276 => 220 | n => n, fun | 70 => 210 | 72 => 212 | 164 => 231 | 20 => 20 | 75 => 131 | 80 => 215 | 127 => 222 | 9 => 9 | 37 => 37 | n => n, fun | n => n⟩
theorem Tryz.lays167 : Go.Proofs.Lays.n167 Tryz.prog Tryz.lays167_ren := {
  mixed := by kernel_rfl
  f167 := Tryz.func202.trans (congrArg some (by kernel_rfl))
  f240 := Tryz.func217.trans (congrArg some (by kernel_rfl))
  f276 := Tryz.func220.trans (congrArg some (by kernel_rfl))
  t0 := Tryz.underlying0
  a0 := Tryz.isAgg0
  z0 := Tryz.sizeOf0
  v0 := Tryz.zeroValue0
  t4 := Tryz.underlying4
  a4 := Tryz.isAgg4
  z4 := Tryz.sizeOf4
  v4 := Tryz.zeroValue4
  t5 := Tryz.underlying5
  a5 := Tryz.isAgg5
  z5 := Tryz.sizeOf5
  v5 := Tryz.zeroValue5
  t9 := Tryz.underlying9
  a9 := Tryz.isAgg9
  z9 := Tryz.sizeOf9
  v9 := Tryz.zeroValue9
  t20 := Tryz.underlying20
  a20 := Tryz.isAgg20
  z20 := Tryz.sizeOf20
  v20 := Tryz.zeroValue20
  t37 := Tryz.underlying37
  a37 := Tryz.isAgg37
  z37 := Tryz.sizeOf37
  v37 := Tryz.zeroValue37
  t70 := Tryz.underlying210
  a70 := Tryz.isAgg210
  z70 := Tryz.sizeOf210
  v70 := Tryz.zeroValue210
  t72 := Tryz.underlying212
  a72 := Tryz.isAgg212
  z72 := Tryz.sizeOf212
  v72 := Tryz.zeroValue212
  t75 := Tryz.underlying131
  a75 := Tryz.isAgg131
  z75 := Tryz.sizeOf131
  v75 := Tryz.zeroValue131
  t164 := Tryz.underlying231
  a164 := Tryz.isAgg231
  z164 := Tryz.sizeOf231
  v164 := Tryz.zeroValue231 }
theorem Tryz.Builder_Extra_167 : Builder.Extra Tryz.prog Tryz.lays167_ren := {
  sizeBuilder := by kernel_rfl
  liesBuilder := by kernel_rfl
  t5 := Tryz.underlying5
  a5 := Tryz.isAgg5
  z5 := Tryz.sizeOf5
  v5 := Tryz.zeroValue5
  infoByte := by kernel_rfl
  cellsByte := by kernel_rfl
  sizeByte := by kernel_rfl
  neB5 := by decide }
open Go.RowKit in
theorem Tryz.Builder_WriteByte_z (B b : Nat) (bs : List Value) (c : Int) (w : World) (h : Lib.IsBuilderF 212 5 B b bs w) (hlen : bs.length + 1 ≤ 140737488355328) (hBw : B ≤ w.heap.size) :
    Calls Tryz.prog 202 #[.pointer (some ⟨b, 0, none⟩), .int .u8 c] w fun e w' => e = .returned .nilIface ∧ (Lib.BuilderAtF 212 5 B b (.pointer (some ⟨b, 0, none⟩)) (bs ++ [.int .u8 c]) w' ∧ Below B w w' ∧ Lib.OthersKept 5 (some b) w w') :=
  Any.Builder_WriteByte_k Tryz.lays167 Tryz.Builder_Extra_167 B b bs c w h hlen hBw
open Go.RowKit in
theorem Tryz.Builder_WriteString_z (B b : Nat) (bs : List Value) (s : ByteArray) (w : World) (h : Lib.IsBuilderF 212 5 B b bs w) (hlen : bs.length + s.size ≤ 140737488355328) (hBw : B ≤ w.heap.size) :
    Calls Tryz.prog 203 #[.pointer (some ⟨b, 0, none⟩), .string s] w fun e w' => e = .returned (.tuple #[.int .i64 s.size, .nilIface]) ∧ (Lib.BuilderAtF 212 5 B b (.pointer (some ⟨b, 0, none⟩)) (bs ++ Lib.strCells s) w' ∧ Below B w w' ∧ Lib.OthersKept 5 (some b) w w') :=
  Any.Builder_WriteString_k Tryz.lays166 Tryz.Builder_Extra_166 B b bs s w h hlen hBw
open Go.RowKit in
theorem Tryz.Builder_String_any_z (B b : Nat) (l : List UInt8) (w : World) (h : Lib.IsBuilderF 212 5 B b (Lib.byteCells l) w) (hBw : B ≤ w.heap.size) :
    Calls Tryz.prog 204 #[.pointer (some ⟨b, 0, none⟩)] w fun e w' => e = .returned (.string ⟨l.toArray⟩) ∧ Below B w w' ∧ Lib.OthersKept 5 (some b) w w' :=
  (Any.Builder_String_any_k Tryz.lays169 Tryz.Builder_Extra_169 B b l w h hBw).mono fun _ _ h => ⟨h.1, h.2.2⟩
end Go.Proofs
namespace Go.Proofs.YtilagaapfbfkkaaGreatDoor.Dt
open Go.RowKit Go.Shelf Go.Lib
attribute [local go_sem] Oper.semAt_some
theorem dlen (s : ByteArray) : s.data.toList.length = s.size := by rw [Array.length_toList]; rfl
structure IsLine (line rest : List UInt8) : Prop where
  ne : line ≠ []
  no : ∀ j, j + 1 < line.length → line[j]? ≠ some 10
  fin : line.getLast? = some 10 ∨ rest = []
def leftIn (c : Nat) (w : World) : Nat := match w.heap[c]? with
  | some (.cells cs _ _) => (match cs[0]? with | some (Value.string r) => r.size | _ => 0)
  | _ => 0
theorem leftIn_eq {c : Nat} {w : World} {r : ByteArray} (h : w.heap[c]? = some (.cells #[.string r] 9 (0, 0))) : leftIn c w = r.size := by
  simp [leftIn, h]
set_option maxRecDepth 100000 in
theorem lines_in (n : Nat) (hn : 1 ≤ n) (l c : Nat) (J : ByteArray → World → Prop)
    (hc : ∀ rest W, J rest W → W.heap[c]? = some (.cells #[.string rest] 9 (0, 0)))
    (hm : ∀ rest W, J rest W → rest.size ≤ 35184372088832)
    (hd : ∀ rest W, J rest W → J rest W.drew)
    (hY : ∀ s line rest W, J s W → s.data.toList = line.data.toList ++ rest.data.toList → IsLine line.data.toList rest.data.toList →
      YieldAt Fence.wide (n - 1) Tryz.prog l #[.string line] (W.setCell ⟨c, 0, none⟩ (.string rest)) fun e W' => e = .returned (.bool true) ∧ J rest W')
    (s : ByteArray) (W : World) (h0 : J s W) :
    CallsIn Fence.wide n Tryz.prog 216 #[.func (.yield l) #[] #[], .pointer (some ⟨c, 0, none⟩)] W fun e W' => (∃ v, e = .returned v) ∧ J .empty W' := by
  refine callsIn_of_wp Tryz.func216 rfl trivial ?_ rfl
  simp only [Tryz.ntmps216, List.size_toArray, List.length_cons, List.length_nil, Nat.reduceAdd, Nat.reduceSub, Array.replicate_succ, Array.replicate_zero, List.push_toArray, List.append_toArray, List.nil_append, List.cons_append]
  gi_wp2
  gi_loopw [3] (fun _ wr => ∃ rest, J rest wr) (fun _ wr => leftIn c wr)
  case atStart => exact ⟨s, h0⟩
  case round =>
    obtain ⟨rest, hJ⟩ := hrel
    have hh := hc rest _ hJ
    have hl := leftIn_eq hh
    have c1 : wr.cell? ⟨c, 0, none⟩ = some (.string rest) := by rw [Lib.cell_of_heap hh]; rfl
    have f1 : wr.frozen? ⟨c, 0, none⟩ = false := Lib.frozen_of_heap hh 0
    by_cases h0 : 0 < rest.size
    · have hz : decide ((0 : Int) < (rest.size : Int)) = true := decide_eq_true (by omega)
      by_cases hi : (0 : Int) ≤ Lib.indexByte rest.data.toList 10
      · have hz2 : decide ((0 : Int) ≤ Lib.indexByte rest.data.toList 10) = true := decide_eq_true hi
        obtain ⟨o, ho⟩ : ∃ o : Nat, Lib.indexByte rest.data.toList 10 = o := ⟨(Lib.indexByte rest.data.toList 10).toNat, by omega⟩
        obtain ⟨hoa, hob⟩ := Lib.indexByte_some ho
        have hlt : o < rest.data.toList.length := (List.getElem?_eq_some_iff.1 hoa).1
        have hlt' : o < rest.size := by rw [← dlen]; exact hlt
        have hsz := hm rest _ hJ
        have hwr : wrap64 (Lib.indexByte rest.data.toList 10 + 1) = ((o + 1 : Nat) : Int) := by rw [ho]; unfold wrap64; omega
        have hlo : (0 : Int) ≤ wrap64 (Lib.indexByte rest.data.toList 10 + 1) := by omega
        have hhi : wrap64 (Lib.indexByte rest.data.toList 10 + 1) ≤ (rest.size : Int) := by omega
        have hto : (wrap64 (Lib.indexByte rest.data.toList 10 + 1)).toNat = o + 1 := by omega
        have hL1 : (rest.extract 0 (o + 1)).data.toList = rest.data.toList.take (o + 1) := by simp
        have hL2 : (rest.extract (o + 1) rest.size).data.toList = rest.data.toList.drop (o + 1) := by
          rw [show rest.size = rest.data.toList.length from (dlen _).symm]
          simp
          rw [List.take_of_length_le]
          simp
        obtain ⟨fn, tmps, assign, body, hy, hR⟩ := hY rest (rest.extract 0 (o + 1)) (rest.extract (o + 1) rest.size) wr.drew (hd _ _ hJ)
          (by rw [hL1, hL2, List.take_append_drop]) (by
            rw [hL1, hL2]
            refine ⟨fun e => ?_, fun j hj => ?_, .inl ?_⟩
            · have := congrArg List.length e; rw [List.length_take, List.length_nil] at this; omega
            · rw [List.length_take] at hj
              rw [List.getElem?_take_of_lt (by omega)]
              exact hob j (by omega)
            · rw [List.getLast?_eq_getElem?, List.length_take, show min (o + 1) rest.data.toList.length - 1 = o by omega, List.getElem?_take_of_lt (by omega)]
              exact hoa)
        change (Instr.yield l #[Value.string (rest.extract 0 (o + 1))]).run Tryz.prog (wr.setCell ⟨c, 0, none⟩ (Value.string (rest.extract (o + 1) rest.size))).drew = _ at hy
        change RoundIn _ _ _ _ _ _ _ _ (wr.setCell ⟨c, 0, none⟩ (Value.string (rest.extract (o + 1) rest.size))).drew _ at hR
        gi_wp2_with (refine ⟨trivial, ?_⟩; gi_at_call 189; refine (callsIn_wide.2 (Tryz.strings_IndexByte _ _ _)).mono ?_; rintro e w' ⟨rfl, rfl⟩)
        gi_region
        gi_wp2
        refine hR.mono ?_
        rintro e W' ⟨rfl, hJ'⟩
        gi_wp2
        go_roundw
        case rel => exact ⟨_, hJ'⟩
        case measure =>
          rw [leftIn_eq (hc _ _ hJ'), hl]
          rw [← dlen, hL2, List.length_drop, dlen]; omega
      · have hz2 : decide ((0 : Int) ≤ Lib.indexByte rest.data.toList 10) = false := decide_eq_false hi
        have hge := Lib.indexByte_ge rest.data.toList 10
        have hno := Lib.indexByte_none (show Lib.indexByte rest.data.toList 10 = -1 by omega)
        obtain ⟨fn, tmps, assign, body, hy, hR⟩ := hY rest rest ⟨#[]⟩ wr hJ (by simp) ⟨fun e => by have := congrArg List.length e; rw [dlen, List.length_nil] at this; omega, fun j _ => hno j, .inr rfl⟩
        gi_wp2_with (refine ⟨trivial, ?_⟩; gi_at_call 189; refine (callsIn_wide.2 (Tryz.strings_IndexByte _ _ _)).mono ?_; rintro e w' ⟨rfl, rfl⟩)
        refine hR.mono ?_
        rintro e W' ⟨rfl, hJ'⟩
        gi_wp2
        go_roundw
        case rel => exact ⟨_, hJ'⟩
        case measure =>
          rw [leftIn_eq (hc _ _ hJ'), hl]
          show 0 < rest.size
          omega
    · have hz : decide ((0 : Int) < (rest.size : Int)) = false := decide_eq_false (by omega)
      gi_wp2
      go_end0
      refine ⟨⟨_, rfl⟩, ?_⟩
      obtain rfl : rest = .empty := by
        cases rest with | mk d => have : d = #[] := by simpa [ByteArray.size] using h0
                                  subst this; rfl
      exact hJ
end Go.Proofs.YtilagaapfbfkkaaGreatDoor.Dt
