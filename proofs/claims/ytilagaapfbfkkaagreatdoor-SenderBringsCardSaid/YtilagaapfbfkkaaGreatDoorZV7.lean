/- Part 7 of 10 of the texts that the sender's rows rest on, put together by a program; no condition. -/
import Derived.Test.YtilagaapfbfkkaaGreatDoorZV6
import Derived.Test.YtilagaapfbfkkaaGreatDoorZV5
import Derived.RangeFuncNested
import Derived.RangeFuncBound
import Derived.RangeFuncCalls
import Derived.RangeFuncLeaves
import Derived.RangeFuncBox
import Derived.Shelf.Abstract
import Derived.Shelf.RegionOpen
import Derived.WalkKit
import Derived.OwnWalkIn
import Derived.TacticsInMore
import Derived.LoopNIn
import Derived.LoopIn
import Derived.Test.YtilagaapfbfkkaaGreatDoorZV4
import Derived.Recover
import Derived.OneCell
import Derived.Tactics2
import Derived.Laws.Pointers
import Derived.Test.YtilagaapfbfkkaaGreatDoorZV1
import Derived.Laws.RangeAny
import Derived.Deep.QuietTactic
import Derived.BigQuiet
import Derived.Deep.LoopGhost
import Derived.Lib.Hide
import Derived.Scope
import Derived.Lib.OthersKept
set_option maxHeartbeats 128000000
set_option linter.unusedSimpArgs false
set_option linter.unusedVariables false
namespace Go.Proofs.YtilagaapfbfkkaaGreatDoor.Ab
open Go Go.RowKit Go.Proofs.YtilagaapfbfkkaaGreatDoorW.PrintWords
set_option maxRecDepth 100000
variable {G : World → Prop}
def rcP (r : Rc) : Bool := mayR r.bl_ r.bd && !decide (r.st < 0) && !decide (r.st > 4) && (decide (0 ≤ r.at_) && decide (r.at_ ≤ 1048576)) && (decide (0 ≤ r.nx) && decide (r.nx ≤ 2199023255552)) && (decide (0 ≤ r.co) && decide (r.co ≤ 599))
def sameA (r q : Rc) : Bool := decide (q.bl_ = r.bl_) && decide (q.bd = r.bd)
def rcsP : List Rc → List Rc → Bool
  | _, [] => true
  | p, r :: l => rcP r && !p.any (sameA r) && rcsP (p ++ [r]) l
def frmP (m : Ml) : Bool := bif m.nul then decide (m.fl = []) && decide (m.fd = []) else mayR m.fl m.fd
def mailP (m : Ml) : Bool := !decide (m.id < 1) && !decide (m.id > 1099511627776) && (decide (0 ≤ m.te) && decide (m.te ≤ 3)) && !decide ((m.rc.length : Int) < 1) && !decide ((m.rc.length : Int) > 8) && (decide (0 ≤ m.born) && decide (m.born ≤ 1099511627776)) &&
  frmP m && rcsP [] m.rc && mayT m.body
def Γ18 : Sems := ext 39 s43 (ext 40 s47 (ext 14 s48 Γ0))
theorem Γ18.ok : SemsOK G Tryz.prog Γ18 := ((Γ0.ok.ext Tryz.func14 rfl (by decide) ok48).ext Tryz.func40 rfl (by decide) ok47).ext Tryz.func39 rfl (by decide) ok43
def s18 : Sense := ⟨false, fun os xs K => ∃ (m : Md) (c : C), xs = [.agg (m.cs c)] ∧ RcIn 0 m.rc c os ∧ m.body.size ≤ big ∧ m.fd.size ≤ big ∧ (∀ r ∈ m.rc, r.1.2.size ≤ big) ∧ K os (.ret (.one (.bool (mailP m.ml))))⟩
theorem ok18 : SenseOK G Tryz.prog 24 s18 := SenseOK.any Γ18.ok (fun r => if r = 12 then [1, 3, 4, 5] else [1, 3]) Tryz.func24 fun os xs K h => by
  obtain ⟨m, c, rfl, ha, hb, hfd, hrd, hk⟩ := h
  simp only [big] at hb
  have no : mailP m.ml = false → K os (.ret (.one (.bool false))) := fun h => by rw [h] at hk; exact hk
  have hm0 : mailP m.ml = (!decide (m.id < 1) && !decide (m.id > 1099511627776) && (decide (0 ≤ m.te) && decide (m.te ≤ 3)) && !decide ((m.rc.length : Int) < 1) && !decide ((m.rc.length : Int) > 8) && (decide (0 ≤ m.born) && decide (m.born ≤ 1099511627776)) && frmP m.ml && rcsP [] m.ml.rc && mayT (bl m.body)) := by
    have h1 : m.ml.rc.length = m.rc.length := List.length_map _
    rw [mailP, h1]; rfl
  rcases ha with ⟨hc, ho⟩ | ⟨hc, ho, ha0⟩ | ⟨ap, hc, ho⟩
  case inr.inl =>
    have no := no (by simp [mailP, Md.ml, ha0])
    rw [hc, ho]
    rw [ho] at no
    cases e1 : decide (m.id < 1) with
    | true => refine zs1 e1 ?_; exact no
    | false =>
      cases e2 : decide (m.id > 1099511627776) with
      | true => refine zs2 e1 e2 ?_; exact no
      | false =>
        cases e3 : (decide (0 ≤ m.te) && decide (m.te ≤ 3)) with
        | false => refine zs3 e1 e2 e3 ?_; exact no
        | true => refine zs3 e1 e2 e3 ?_; exact no
  all_goals
    rw [hc, ho]
    rw [ho] at hk no
    cases e1 : decide (m.id < 1) with
    | true => refine zs1 e1 ?_; exact no (by rw [hm0, e1]; rfl)
    | false =>
    cases e2 : decide (m.id > 1099511627776) with
    | true => refine zs2 e1 e2 ?_; exact no (by rw [hm0, e1, e2]; rfl)
    | false =>
    cases e3 : (decide (0 ≤ m.te) && decide (m.te ≤ 3)) with
    | false => refine zs3 e1 e2 e3 ?_; exact no (by rw [hm0, e1, e2, e3]; rfl)
    | true =>
    cases e4 : decide ((m.rc.length : Int) < 1) with
    | true => refine zs4 e1 e2 e3 e4 ?_; exact no (by rw [hm0, e1, e2, e3, e4]; rfl)
    | false =>
    cases e5 : decide ((m.rc.length : Int) > 8) with
    | true => refine zs5 e1 e2 e3 e4 e5 ?_; exact no (by rw [hm0, e1, e2, e3, e4, e5]; rfl)
    | false =>
    cases e6 : (decide (0 ≤ m.born) && decide (m.born ≤ 1099511627776)) with
    | false => refine zs6 e1 e2 e3 e4 e5 e6 ?_; exact no (by rw [hm0, e1, e2, e3, e4, e5, e6]; rfl)
    | true =>
    have hm : mailP m.ml = (frmP m.ml && rcsP [] m.ml.rc && mayT (bl m.body)) := by
      rw [hm0, e1, e2, e3, e4, e5, e6]; rfl
    have bl0 : bl ByteArray.empty = [] := rfl
    cases e7 : m.nul
    case' true =>
      have hfr : frmP m.ml = (m.fl.toList == ByteArray.empty.toList && (m.fd.toList == ByteArray.empty.toList && true)) := by
        rw [str_beq, str_beq, bl0, Bool.and_true]
        show (bif m.nul then _ else _) = _
        rw [e7, cond_true]
        show (decide (bl m.fl = []) && decide (bl m.fd = [])) = _
        cases bl m.fl <;> cases bl m.fd <;> rfl
      obtain ⟨bx, hbx⟩ : ∃ bx, bx = Md.cs ⟨m.id, m.te, true, m.fl, m.fd, m.rc, m.body, m.born, m.held, m.told⟩ c := ⟨_, rfl⟩
      by_cases e8 : (m.fl.toList == ByteArray.empty.toList && (m.fd.toList == ByteArray.empty.toList && true)) = true
    case' false =>
      have hfr : frmP m.ml = mayR (bl m.fl) (bl m.fd) := by
        show (bif m.nul then _ else _) = _
        rw [e7, cond_false]; rfl
      obtain ⟨bx, hbx⟩ : ∃ bx, bx = Md.cs ⟨m.id, m.te, false, m.fl, m.fd, m.rc, m.body, m.born, m.held, m.told⟩ c := ⟨_, rfl⟩
      by_cases e8 : mayR (bl m.fl) (bl m.fd) = true
    case' neg =>
      have e9 := Bool.eq_false_iff.2 e8
      rw [hfr, e9] at hm
      refine zs8 e1 e2 e3 e4 e5 e6 e7 e9 ?_
      exact no (by rw [hm]; rfl)
    case' neg =>
      have e9 := Bool.eq_false_iff.2 e8
      rw [hfr, e9] at hm
      refine zs8 e1 e2 e3 e4 e5 e6 e7 e9 ?_
      exact no (by rw [hm]; rfl)
    all_goals
      rw [hfr, e8, Bool.true_and] at hm
      rw [hm] at hk no
      refine zs8 e1 e2 e3 e4 e5 e6 e7 e8 ?_
      refine iter_of (I := fun k σ => ∃ (j : Nat), k = m.rc.length - j ∧ j ≤ m.rc.length ∧ rcsP [] m.ml.rc = rcsP ((m.rc.take j).map rcOf) ((m.rc.drop j).map rcOf) ∧ σ = ⟨slots 124 [(1, .one (.ref os.length 0)), (3, .one (.int .i64 j))], os ++ [.box 32 bx]⟩) ?_ m.rc.length ⟨0, by omega, by omega, rfl, by rw [hbx, hc, ho]; rfl⟩
      rintro k σ K' ⟨j, rfl, hj, hn, rfl⟩ hK'
      rw [hbx, hc, ho] at hK' ⊢
      have hlt8 : (m.rc.length : Int) ≤ 8 := by simpa using e5
      have w1 := IntWalk.i64_in ((j : Int) + 1) (by omega)
      by_cases h1 : j < m.rc.length
      case neg =>
        have f1 : decide ((j : Int) < m.rc.length) = false := by simp; omega
        obtain rfl : j = m.rc.length := by omega
        rw [List.drop_length, List.map_nil, rcsP] at hn
        rw [hn, Bool.true_and] at hk
        refine zs1 f1 ?_
        refine ⟨?_, fun rows mv => ?_⟩
        · refine zv ?_
          exact hk
        · refine zv ?_
          exact hk
      have f1 : decide ((j : Int) < m.rc.length) = true := by simpa using h1
      obtain ⟨r, hr⟩ : ∃ r, m.rc[j]? = some r := ⟨_, List.getElem?_eq_getElem h1⟩
      have rr := nth_of hr RT.dflt
      have hrb := hrd r (List.mem_of_getElem? hr)
      have hdr : m.rc.drop j = r :: m.rc.drop (j + 1) := by
        rw [List.drop_eq_getElem_cons h1]; congr 1
        exact Option.some.inj (by rw [← List.getElem?_eq_getElem h1, hr])
      have hst : rcsP [] m.ml.rc = ((mayR (bl r.1.1) (bl r.1.2) && !decide (r.2.1 < 0) && !decide (r.2.1 > 4) && (decide (0 ≤ r.2.2.1) && decide (r.2.2.1 ≤ 1048576)) && (decide (0 ≤ r.2.2.2.1) && decide (r.2.2.2.1 ≤ 2199023255552)) && (decide (0 ≤ r.2.2.2.2) && decide (r.2.2.2.2 ≤ 599))) && !((m.rc.take j).map rcOf).any (sameA (rcOf r)) && rcsP ((m.rc.take (j + 1)).map rcOf) ((m.rc.drop (j + 1)).map rcOf)) := by
        rw [hn, hdr, List.map_cons, rcsP, List.take_add_one, hr, List.map_append]; rfl
      cases g1 : mayR (bl r.1.1) (bl r.1.2) with
      | false => refine zs3 f1 rr g1 ?_; exact no (by rw [hst, g1]; rfl)
      | true =>
      cases g2 : decide (r.2.1 < 0) with
      | true => refine zs4 f1 rr g1 g2 ?_; exact no (by rw [hst, g1, g2]; rfl)
      | false =>
      cases g3 : decide (r.2.1 > 4) with
      | true => refine zs5 f1 rr g1 g2 g3 ?_; exact no (by rw [hst, g1, g2, g3]; rfl)
      | false =>
      cases g4 : (decide (0 ≤ r.2.2.1) && decide (r.2.2.1 ≤ 1048576)) with
      | false => refine zs6 f1 rr g1 g2 g3 g4 ?_; exact no (by rw [hst, g1, g2, g3, g4]; rfl)
      | true =>
      cases g5 : (decide (0 ≤ r.2.2.2.1) && decide (r.2.2.2.1 ≤ 2199023255552)) with
      | false => refine zs7 f1 rr g1 g2 g3 g4 g5 ?_; exact no (by rw [hst, g1, g2, g3, g4, g5]; rfl)
      | true =>
      cases g6 : (decide (0 ≤ r.2.2.2.2) && decide (r.2.2.2.2 ≤ 599)) with
      | false => refine zs8 f1 rr g1 g2 g3 g4 g5 g6 ?_; exact no (by rw [hst, g1, g2, g3, g4, g5, g6]; rfl)
      | true =>
      rw [g1, g2, g3, g4, g5, g6] at hst
      refine zs8 f1 rr g1 g2 g3 g4 g5 g6 ?_
      refine iter_of (I := fun k σ => ∃ (i : Nat), k = j - i ∧ i ≤ j ∧ ((m.rc.take i).map rcOf).any (sameA (rcOf r)) = false ∧ σ = ⟨slots 124 [(1, .one (.ref os.length 0)), (3, .one (.int .i64 j)), (4, .one (.ref (os.length + 1) 0)), (5, .one (.int .i64 i))], os ++ [.box 32 bx, .box 39 (rcs r)]⟩) ?_ j ⟨0, by omega, by omega, rfl, by rw [hbx, hc, ho]; rfl⟩
      rintro k σ K2 ⟨i, rfl, hi, hni, rfl⟩ hK2
      rw [hbx, hc, ho] at hK2 ⊢
      have w2 := IntWalk.i64_in ((i : Int) + 1) (by omega)
      by_cases h2 : i < j
      case neg =>
        have f2 : decide ((i : Int) < j) = false := by simp; omega
        obtain rfl : i = j := by omega
        rw [hni] at hst
        refine zs2 f2 w1 ?_
        exact hK' _ _ (by omega) ⟨i + 1, rfl, by omega, hst.trans rfl, rfl⟩
      have f2 : decide ((i : Int) < j) = true := by simpa using h2
      obtain ⟨q, hq⟩ : ∃ q, m.rc[i]? = some q := ⟨_, List.getElem?_eq_getElem (by omega)⟩
      have rq := nth_of hq RT.dflt
      have hqt : ((m.rc.take j).map rcOf)[i]? = some (rcOf q) := by rw [List.getElem?_map, List.getElem?_take_of_lt h2, hq]; rfl
      have hqi : ((m.rc.take (i + 1)).map rcOf) = (m.rc.take i).map rcOf ++ [rcOf q] := by rw [List.take_add_one, hq, List.map_append]; rfl
      have hsm : (q.1.1.toList == r.1.1.toList && (q.1.2.toList == r.1.2.toList && true)) = sameA (rcOf r) (rcOf q) := by
        rw [str_beq, str_beq, Bool.and_true]
        show _ = (decide (bl q.1.1 = bl r.1.1) && decide (bl q.1.2 = bl r.1.2))
        rfl
      refine zs1 f2 ?_
      refine ⟨[], .take 0 (.take 1 (.take 2 (.take 3 (.take 4 (.take 5 (.take 6 (.take 7 (.take 8 .done)))))))), ⟨by kernel_rfl⟩, ?_⟩
      refine zs1 rq ?_
      rw [hsm]
      cases g7 : sameA (rcOf r) (rcOf q) with
      | true =>
        refine zs1 g7 ?_
        exact no (by rw [hst, any_at hqt g7]; rfl)
      | false =>
        refine zs2 g7 w2 ?_
        exact hK2 _ _ (by omega) ⟨i + 1, rfl, by omega, by rw [hqi, List.any_append, hni]; simp [g7], rfl⟩
def Γ12 : Sems := ext 24 s18 (ext 123 s42 (ext 39 s43 Γ0))
theorem Γ12.ok : SemsOK G Tryz.prog Γ12 := ((Γ0.ok.ext Tryz.func39 rfl (by decide) ok43).ext Tryz.func123 rfl (by decide) ok42).ext Tryz.func24 rfl (by decide) ok18
def wtL : Int → List RT.den → Int
  | a, [] => a
  | a, r :: l => if a < 1048576 then wtL (a + 1 + r.1.1.size + r.1.2.size) l else a
def wtM (m : Md) : Int := wtL (m.body.size + m.fl.size + m.fd.size) m.rc
def s35 : Sense := ⟨false, fun os xs K => ∃ (m : Md) (c : C), xs = [.agg (m.cs c)] ∧ RcIn 0 m.rc c os ∧ m.rc.length ≤ big ∧ m.body.size ≤ big ∧ m.fl.size ≤ big ∧ m.fd.size ≤ big ∧ (∀ r ∈ m.rc, r.1.1.size ≤ big ∧ r.1.2.size ≤ big) ∧ K os (.ret (.one (.int .i64 (wtM m))))⟩
theorem ok35 : SenseOK G Tryz.prog 67 s35 := SenseOK.any Γ0.ok (fun _ => [1, 3, 4]) Tryz.func67 fun os xs K h => by
  obtain ⟨m, c, rfl, ha, hb, hb1, hb2, hb3, hrs, hk⟩ := h
  simp only [big] at hb hb1 hb2 hb3
  have v1 := IntWalk.i64_in ((m.body.size : Int) + m.fl.size) (by omega)
  have v2 := IntWalk.i64_in ((m.body.size : Int) + m.fl.size + m.fd.size) (by omega)
  rcases ha with ⟨hc, ho⟩ | ⟨hc, ho, ha0⟩ | ⟨ap, hc, ho⟩
  all_goals
    rw [hc, ho]
    rw [ho] at hk
    refine zs2 v1 v2 ?_
    refine iter_of (I := fun k σ => ∃ (j : Nat) (w : Int), k = m.rc.length - j ∧ j ≤ m.rc.length ∧ 0 ≤ w ∧ w ≤ 4294967296 ∧ wtM m = wtL w (m.rc.drop j) ∧ σ = ⟨slots 50 [(1, .one (.ref os.length 0)), (3, .one (.int .i64 w)), (4, .one (.int .i64 j))], os ++ [.box 32 (m.cs c)]⟩) ?_ m.rc.length ⟨0, m.body.size + m.fl.size + m.fd.size, by omega, by omega, by omega, by omega, rfl, by rw [hc, ho]; rfl⟩
    rintro k σ K' ⟨j, w, rfl, hj, hw0, hw1, hn, rfl⟩ hK'
    rw [hc, ho] at hK' ⊢
    by_cases h1 : j < m.rc.length
    case neg =>
      obtain rfl : j = m.rc.length := by omega
      rw [List.drop_length, wtL] at hn
      have f1 : decide ((m.rc.length : Int) < m.rc.length) = false := by simp
      rw [hn] at hk
      first | (have f0 : decide ((m.rc.length : Int) < 0) = false := by simp) | skip
      refine zs2 f1 f0 ?_
      exact hk
    first | (rw [ha0] at h1; exact absurd h1 (by simp)) | skip
  all_goals
    have f1 : decide ((j : Int) < m.rc.length) = true := by simp; omega
    obtain ⟨r, hr⟩ : ∃ r, m.rc[j]? = some r := ⟨_, List.getElem?_eq_getElem h1⟩
    have rr := nth_of hr RT.dflt
    have hrb := hrs r (List.mem_of_getElem? hr)
    simp only [big] at hrb
    have hdr : m.rc.drop j = r :: m.rc.drop (j + 1) := by
      rw [List.drop_eq_getElem_cons h1]; congr 1
      exact Option.some.inj (by rw [← List.getElem?_eq_getElem h1, hr])
    have w2 := IntWalk.i64_in (↑j + 1) (by omega)
    rw [hdr, wtL] at hn
    by_cases h2 : w < 1048576
    case neg =>
      have f2 : decide (w < 1048576) = false := by simp; omega
      rw [if_neg h2] at hn
      rw [hn] at hk
      refine zs2 f1 f2 ?_
      exact hk
    have f2 : decide (w < 1048576) = true := by simpa using h2
    rw [if_pos h2] at hn
    have x1 := IntWalk.i64_in (w + 1) (by omega)
    have x2 := IntWalk.i64_in (w + 1 + r.1.1.size) (by omega)
    have x3 := IntWalk.i64_in (w + 1 + r.1.1.size + r.1.2.size) (by omega)
    refine zs2 f1 f2 ?_
    refine ⟨[], .take 0 (.take 1 (.take 2 (.take 3 (.take 4 (.take 5 (.take 6 (.take 7 (.take 8 (.take 9 (.take 10 (.take 11 (.take 12 (.take 13 (.take 14 (.take 15 (.take 16 (.take 17 (.take 18 (.take 19 (.take 20 .done)))))))))))))))))))), ⟨by kernel_rfl⟩, ?_⟩
    refine zs5 rr x1 x2 x3 w2 ?_
    exact hK' _ _ (by omega) ⟨j + 1, _, rfl, by omega, by omega, by omega, hn, rfl⟩
def md0 : Md := ⟨0, 0, false, ByteArray.empty, ByteArray.empty, [], ByteArray.empty, 0, false, false⟩
def Γ34 : Sems := ext 70 s10 Γ0
theorem Γ34.ok : SemsOK G Tryz.prog Γ34 := Γ0.ok.ext Tryz.func70 rfl (by decide) ok10
def lendS (s : Sense) : Sense := ⟨true, fun os xs K => ∃ xs', ownsB os = true ∧ All2 (lendV os) xs xs' ∧ s.f [] xs' fun os' out => plnOs os' = true ∧ out.pln = true ∧ K (os ++ os'.map (Ob.ren (· + os.length))) (out.upN os.length)⟩
def Γ37q : Sems := ext 38 q38 (ext 62 q62 (Γ0))
theorem Γ37q.ok : SemsOK G Tryz.prog Γ37q := ((Γ0.ok.ext Tryz.func62 rfl (by decide) qk62).ext Tryz.func38 rfl (by decide) qk38)
def q37 : Sense := ⟨false, fun os xs K => ∃ s : Sd, xs = [.agg s.fz] ∧ os = [] ∧ s.sml ∧ ∀ m0 m1 m2 m3, K [.own 3 IT s.rc true m0, .own 3 IT s.tk true m1, .own 3 IT s.cd true m2, .own 9 ST s.ln true m3] (.ret (.agg (s.ow 0)))⟩
theorem qk37 : SenseOK G Tryz.prog 37 q37 := SenseOK.any Γ37q.ok (fun _ => []) Tryz.func37 fun os xs K h => by
  obtain ⟨s, rfl, rfl, ⟨l0, l1, l2, l3⟩, hk⟩ := h
  refine zv ?_
  refine ⟨[], (.take 0 (.take 1 (.take 2 (.take 4 (.take 5 (.take 7 (.take 8 (.take 10 (.take 11 (.br 3 (.take 13 (.take 14 (.br 6 (.br 9 (.br 12 (.rest 15) .nil) .nil) .nil))) .nil)))))))))), ⟨by kernel_rfl⟩, ?_⟩
  refine zv ?_
  intro m0
  refine zv ?_
  intro m1
  refine zv ?_
  intro m2
  refine zv ?_
  intro m3
  refine zv ?_
  exact hk _ _ _ _
def Γ31q : Sems := ext 37 (lendS q37) (Γ0)
theorem Γ31q.ok : SemsOK G Tryz.prog Γ31q := (Γ0.ok.ext Tryz.func37 rfl (by decide) (SenseOK.lendL qk37))
def newSd (id : Int) (j : Jb) (lm : Bool) : Sd := ⟨id, j.m, j.t, j.dom, j.rc, lm, 0, 0, [], List.replicate (Int.toNat (j.rc.length : Int)) (0 : Int), 0, ByteArray.empty, false, []⟩
def q31 : Sense := ⟨false, fun os xs K => ∃ (id : Int) (j : Jb) (lm : Bool), xs = [.one (.int .i64 id), .agg j.fz, .one (.bool lm)] ∧ os = [] ∧ j.rc.length ≤ big ∧
  ∀ m0 m1 m2 m3, K [.own 3 IT (newSd id j lm).rc true m0, .own 3 IT (newSd id j lm).tk true m1, .own 3 IT (newSd id j lm).cd true m2, .own 9 ST (newSd id j lm).ln true m3] (.ret (.agg ((newSd id j lm).ow 0)))⟩
theorem qk31 : SenseOK G Tryz.prog 31 q31 := SenseOK.any Γ31q.ok (fun _ => []) Tryz.func31 fun os xs K h => by
  obtain ⟨id, j, lm, rfl, rfl, hl, hk⟩ := h
  have hb : (j.rc.length : Int) = j.rc.length ∧ (0 : Int) ≤ j.rc.length ∧ (j.rc.length : Int) * 8 ≤ 140737488355328 := ⟨rfl, by omega, by simp only [big] at hl; omega⟩
  have hs : (newSd id j lm).sml := ⟨hl, by simp [newSd], by simp [newSd]; exact hl, by simp [newSd]⟩
  refine zv ?_
  refine ⟨[1], (.take 0 (.take 1 (.take 2 (.take 3 (.take 4 (.take 5 (.br 6 (.take 7 (.br 8 (.br 9 .done .nil) .nil)) .nil))))))), ⟨by kernel_rfl⟩, ?_⟩
  refine zy ?_
  refine ⟨[.agg (newSd id j lm).fz], rfl, lnt, ?_⟩
  refine zy ?_
  refine ⟨newSd id j lm, rfl, rfl, hs, fun m0 m1 m2 m3 => ?_⟩
  refine zv ?_
  exact hk _ _ _ _
def brkS (s : Sd) : Sd := { s with st := 7, at_ := 0, tk := [], ln := [], rest := ByteArray.empty, skip := false }
def brk0 (s : Sd) : Sd := { brkS s with wt := 0 }
def Sd.osF (s : Sd) : List Ob := [.own 3 IT s.rc true false, .own 3 IT s.tk true false, .own 3 IT s.cd true false, .own 9 ST s.ln true false]
def q104 : Sense := ⟨false, fun os xs K => ∃ (s : Sd) (m : Md) (mc : C) (h o : ByteArray), xs = [.one (.ref 0 0)] ∧ os = .box 96 (s.ow 1 ++ (m.cs mc ++ [.str h, .str o])) :: s.osF ∧ (mc = .nil ∨ mc = .sl RT m.rc) ∧
  K [.box 96 ((brkS s).ow 1 ++ (m.cs mc ++ [.str h, .str o])), .own 3 IT s.rc true false, .own 3 IT [] true true, .own 3 IT s.cd true false, .own 9 ST [] true true] (.ret (.tup []))⟩
theorem qk104 : SenseOK G Tryz.prog 104 q104 := SenseOK.anyL Γ0.ok (fun _ => []) [.box 0 8 3 IT, .box 0 13 9 ST] Tryz.func104 fun os xs K hh => by
  obtain ⟨s, m, mc, h, o, rfl, rfl, hm, hk⟩ := hh
  rcases hm with rfl | rfl
  all_goals
    refine zv ?_
    exact hk
def Γ65q : Sems := ext 37 q37 (ext 104 q104 (Γ0))
theorem Γ65q.ok : SemsOK G Tryz.prog Γ65q := ((Γ0.ok.ext Tryz.func104 rfl (by decide) qk104).ext Tryz.func37 rfl (by decide) qk37)
def q65 : Sense := ⟨false, fun os xs K => ∃ s : Sd, xs = [.agg s.fz] ∧ os = [] ∧ s.sml ∧ ∀ m0 m1 m2 m3, K [.own 3 IT s.rc true m0, .own 3 IT [] true m1, .own 3 IT s.cd true m2, .own 9 ST [] true m3] (.ret (.agg ((brk0 s).ow 0)))⟩
theorem qk65 : SenseOK G Tryz.prog 65 q65 := SenseOK.any Γ65q.ok (fun _ => []) Tryz.func65 fun os xs K hh => by
  obtain ⟨s, rfl, rfl, hs, hk⟩ := hh
  refine zy ?_
  refine ⟨s, rfl, rfl, hs, fun m0 m1 m2 m3 => ?_⟩
  refine zy ?_
  refine ⟨s, md0, .nil, ByteArray.empty, ByteArray.empty, rfl, rfl, .inl rfl, ?_⟩
  refine zv ?_
  exact hk _ _ _ _
def Γ41q : Sems := ext 65 (lendS q65) (Γ0)
theorem Γ41q.ok : SemsOK G Tryz.prog Γ41q := (Γ0.ok.ext Tryz.func65 rfl (by decide) (SenseOK.lendL qk65))
def q41 : Sense := ⟨false, fun os xs K => ∃ s : Sd, xs = [.agg (s.ow 0)] ∧ os = s.osF ∧ s.sml ∧ 0 ≤ s.wt ∧ s.wt ≤ 1000 ∧ (s.wt + 1 < 100 → K s.osF (.ret (.agg (({ s with wt := s.wt + 1 } : Sd).ow 0)))) ∧
  (¬ s.wt + 1 < 100 → ∀ m0 m1 m2 m3, K (s.osF ++ [.own 3 IT s.rc true m0, .own 3 IT [] true m1, .own 3 IT s.cd true m2, .own 9 ST [] true m3]) (.ret (.agg ((brk0 s).ow 4))))⟩
theorem qk41 : SenseOK G Tryz.prog 41 q41 := SenseOK.any Γ41q.ok (fun _ => []) Tryz.func41 fun os xs K hh => by
  obtain ⟨s, rfl, rfl, hs, h0, h1, hk0, hk1⟩ := hh
  have w1 := IntWalk.i64_in (s.wt + 1) (by omega)
  by_cases h2 : s.wt + 1 < 100
  · have f1 : decide (s.wt + 1 ≥ 100) = false := decide_eq_false (by omega)
    refine zx2 w1 f1 ?_
    exact hk0 h2
  · have f1 : decide (s.wt + 1 ≥ 100) = true := decide_eq_true (by omega)
    refine zx2 w1 f1 ?_
    refine ⟨[.agg ({ s with wt := s.wt + 1 } : Sd).fz], rfl, lnt, ?_⟩
    refine zy ?_
    refine ⟨{ s with wt := s.wt + 1 }, rfl, rfl, hs, fun m0 m1 m2 m3 => ?_⟩
    refine zv ?_
    exact hk1 h2 _ _ _ _
def q112 : Sense := ⟨false, fun os xs K => ∃ l : List ByteArray, xs = [.one (.sl ST l)] ∧ os = [] ∧ l.length ≤ big ∧ (∀ x ∈ l, x.size ≤ big) ∧ ∀ n : Int, 0 ≤ n ∧ n ≤ 4294967296 → K [] (.ret (.one (.int .i64 n)))⟩
theorem qk112 : SenseOK G Tryz.prog 112 q112 := SenseOK.any Γ0.ok (fun _ => [0, 3, 4]) Tryz.func112 fun os xs K hh => by
  obtain ⟨l, rfl, rfl, hl, hx, hk⟩ := hh
  simp only [big] at hl hx
  refine zv ?_
  refine iter_of (I := fun k σ => ∃ (j : Nat) (n : Int), k = l.length - j ∧ j ≤ l.length ∧ (0 ≤ n ∧ n ≤ 4294967296) ∧ σ = ⟨slots 25 [(0, .one (.sl ST l)), (3, .one (.int .i64 n)), (4, .one (.int .i64 j))], []⟩) ?_ l.length ⟨0, l.length, by omega, by omega, by omega, rfl⟩
  rintro k σ K' ⟨j, n, rfl, hj, hn, rfl⟩ hK'
  have w1 := IntWalk.i64_in (↑j + 1) (by omega)
  by_cases h1 : j < l.length
  case neg =>
    have f1 : decide ((j : Int) < l.length) = false := by simp; omega
    refine zs1 f1 ?_
    exact hk _ hn
  have f1 : decide ((j : Int) < l.length) = true := by simpa using h1
  by_cases h2 : n < 1048576
  case neg =>
    have f2 : decide (n < 1048576) = false := decide_eq_false h2
    refine zs2 f1 f2 ?_
    exact hk _ hn
  have f2 : decide (n < 1048576) = true := decide_eq_true h2
  obtain ⟨x, hr⟩ : ∃ x, l[j]? = some x := ⟨_, List.getElem?_eq_getElem h1⟩
  have rr := nth_of hr ST.dflt
  have hb := hx x (List.mem_of_getElem? hr)
  have w2 := IntWalk.i64_in (n + x.size) (by omega)
  refine zs5 f1 f2 rr w1 w2 ?_
  exact hK' _ _ (by omega) ⟨j + 1, _, rfl, by omega, ⟨by omega, by omega⟩, rfl⟩
def Γ66q : Sems := ext 112 q112 (Γ0)
theorem Γ66q.ok : SemsOK G Tryz.prog Γ66q := (Γ0.ok.ext Tryz.func112 rfl (by decide) qk112)
def Γ84q : Sems := ext 74 q74 (ext 126 q126 (Γ0))
theorem Γ84q.ok : SemsOK G Tryz.prog Γ84q := ((Γ0.ok.ext Tryz.func126 rfl (by decide) qk126).ext Tryz.func74 rfl (by decide) qk74)
def dig3 (n : Nat) : List UInt8 := if n < 10 then [UInt8.ofNat (48 + n)] else if n < 100 then [UInt8.ofNat (48 + n / 10), UInt8.ofNat (48 + n % 10)] else [UInt8.ofNat (48 + n / 10 / 10), UInt8.ofNat (48 + n / 10 % 10), UInt8.ofNat (48 + n % 10)]
theorem itoa_dig3 (n : Nat) (h : n < 1000) : Lib.itoa (n : Int) = dig3 n := by
  rw [Lib.itoa, if_neg (by omega), Int.toNat_natCast, dig3]
  split
  · rename_i h1; exact Lib.decDigits_one h1
  · rename_i h1
    split
    · rename_i h2; exact Lib.decDigits_two h1 h2
    · rename_i h2
      rw [Lib.decDigits, dif_neg h1, Lib.decDigits_two (by omega) (by omega)]
      rfl
theorem val_dig3 : ∀ n : Fin 256, val (nums (dig3 n.val)) = some (n.val : Int) := by decide +kernel
theorem atoi_dig3 : ∀ n : Fin 256, Lib.atoiAll (dig3 n.val) = .ok (n.val : Int) := by decide +kernel
theorem digs_ge : ∀ (l : List Int) (n m : Int), 0 ≤ n → digs n l = some m → n ≤ m
  | [], n, m, _, h => by simp [digs] at h; omega
  | c :: l, n, m, h0, h => by
    simp only [digs] at h
    split at h
    · rename_i hc
      simp [isDigit] at hc
      have := digs_ge l _ _ (by omega) h
      omega
    · cases h
theorem val_inv {l : List Int} {n : Int} (h : val l = some n) (hn : n ≤ 255) : 0 ≤ n ∧ l = nums (dig3 n.toNat) := by
  unfold val at h
  split at h
  · rename_i hv
    have h0 := digs_ge l 0 n (by omega) h
    refine ⟨h0, ?_⟩
    have dg : ∀ k : Nat, k < 10 → ((UInt8.ofNat (48 + k)).toNat : Int) = 48 + k := fun k hk => by rw [UInt8.toNat_ofNat']; omega
    match l, hv, h with
    | [], hv, _ => simp [valP] at hv
    | [a], hv, h =>
      simp only [digs] at h
      split at h
      · rename_i ha
        simp [isDigit] at ha
        simp at h
        obtain ⟨k, rfl⟩ : ∃ k : Nat, n = k := ⟨n.toNat, by omega⟩
        rw [Int.toNat_natCast, dig3, if_pos (by omega)]
        simp only [nums, List.map_cons, List.map_nil, dg _ (show k < 10 by omega)]
        congr 1; omega
      · cases h
    | [a, b], hv, h =>
      simp [valP] at hv
      simp only [digs] at h
      split at h
      · rename_i ha
        split at h
        · rename_i hb
          simp [isDigit] at ha hb
          simp at h
          obtain ⟨k, rfl⟩ : ∃ k : Nat, n = k := ⟨n.toNat, by omega⟩
          rw [Int.toNat_natCast, dig3, if_neg (by omega), if_pos (by omega)]
          simp only [nums, List.map_cons, List.map_nil, dg _ (show k / 10 < 10 by omega), dg _ (show k % 10 < 10 by omega)]
          have e1 : a = 48 + ((k / 10 : Nat) : Int) := by omega
          have e2 : b = 48 + ((k % 10 : Nat) : Int) := by omega
          rw [e1, e2]
        · cases h
      · cases h
    | [a, b, c], hv, h =>
      simp [valP] at hv
      simp only [digs] at h
      split at h
      · rename_i ha
        split at h
        · rename_i hb
          split at h
          · rename_i hc
            simp [isDigit] at ha hb hc
            simp at h
            obtain ⟨k, rfl⟩ : ∃ k : Nat, n = k := ⟨n.toNat, by omega⟩
            rw [Int.toNat_natCast, dig3, if_neg (by omega), if_neg (by omega)]
            simp only [nums, List.map_cons, List.map_nil, dg _ (show k / 10 / 10 < 10 by omega), dg _ (show k / 10 % 10 < 10 by omega), dg _ (show k % 10 < 10 by omega)]
            have e1 : a = 48 + ((k / 10 / 10 : Nat) : Int) := by omega
            have e2 : b = 48 + ((k / 10 % 10 : Nat) : Int) := by omega
            have e3 : c = 48 + ((k % 10 : Nat) : Int) := by omega
            rw [e1, e2, e3]
          · cases h
        · cases h
      · cases h
    | a :: b :: c :: d :: r, hv, h =>
      exfalso
      simp [valP] at hv
      simp only [digs] at h
      split at h
      · rename_i ha
        split at h
        · rename_i hb
          split at h
          · rename_i hc
            split at h
            · rename_i hd
              simp [isDigit] at ha hb hc hd
              have := digs_ge r _ _ (by omega) h
              omega
            · cases h
          · cases h
        · cases h
      · cases h
  · cases h
theorem lit1 (x : ByteArray) : (∃ v : Int, Lib.atoiAll x.data.toList = .ok v ∧ 0 ≤ v ∧ v ≤ 255 ∧ nums (Lib.itoa v) = bl x) ↔ byteL (bl x) = true := by
  constructor
  · rintro ⟨v, h1, h2, h3, h4⟩
    obtain ⟨k, rfl⟩ : ∃ k : Nat, v = k := ⟨v.toNat, by omega⟩
    rw [itoa_dig3 k (by omega)] at h4
    have := val_dig3 ⟨k, by omega⟩
    rw [byteL, ← h4, this]
    simpa using h3
  · intro h
    unfold byteL at h
    split at h
    · rename_i n hn
      have h3 : n ≤ 255 := by simpa using h
      obtain ⟨h0, he⟩ := val_inv hn h3
      obtain ⟨k, rfl⟩ : ∃ k : Nat, n = k := ⟨n.toNat, by omega⟩
      rw [Int.toNat_natCast] at he
      refine ⟨k, ?_, h0, h3, by rw [itoa_dig3 k (by omega)]; exact he.symm⟩
      have hx : x = ⟨(dig3 k).toArray⟩ := bl_inj (by rw [he]; rfl)
      rw [hx]
      exact atoi_dig3 ⟨k, by omega⟩
    · cases h
def Γ60 : Sems := ext 98 s87 (ext 97 s86 (ext 96 s85 Γ0))
theorem Γ60.ok : SemsOK Gr Tryz.prog Γ60 := ((Γ0.ok.ext Tryz.func96 rfl (by decide) ok85).ext Tryz.func97 rfl (by decide) ok86).ext Tryz.func98 rfl (by decide) ok87
def s60 : Sense := pureS fun xs K => ∃ s, xs = [.one (.str s)] ∧ s.size ≤ big ∧ K (.ret (.one (.bool (quadL (bl s)))))
theorem ok60 : SenseOK Gr Tryz.prog 56 s60 := SenseOK.pure Γ60.ok (fun _ => [3, 10, 11, 12]) Tryz.func56 fun xs K h => by
  obtain ⟨s, rfl, hb, hk⟩ := h
  simp only [big] at hb
  refine zv ?_
  intro zs hzs
  have hquad : quadL (bl s) = ((zs.map bl).all byteL && decide (zs.length = 4)) := by
    unfold quadL
    have : ((46 : UInt8).toNat : Int) = 46 := rfl
    rw [this] at hzs
    rw [← hzs, List.length_map]
  have hz1 : zs.length ≤ s.size + 1 := by
    have := (spl_size ((46 : UInt8).toNat : Int) (bl s) []).1
    rw [← hzs, List.length_map, bl_length] at this; exact this
  have hz2 : ∀ w ∈ zs, w.size ≤ s.size := fun w hw => by
    have := (spl_size ((46 : UInt8).toNat : Int) (bl s) []).2 (bl w) (by rw [← hzs]; exact List.mem_map_of_mem hw)
    simpa [bl_length] using this
  refine zv ?_
  refine iter_of (I := fun k σ => ∃ (j : Nat), k = zs.length - j ∧ j ≤ zs.length ∧ ((zs.take j).map bl).all byteL = true ∧ σ = ⟨slots 41 [(3, .one (.own 0)), (10, .one (.own 0)), (11, .one (.int .i64 zs.length)), (12, .one (.int .i64 j))], [.own 9 .str zs true false]⟩) ?_ zs.length ⟨0, by omega, by omega, by simp, rfl⟩
  rintro k σ K' ⟨j, rfl, hj, hall, rfl⟩ hK'
  by_cases h3 : j < zs.length
  case neg =>
    have f1 : decide ((j : Int) < zs.length) = false := by simp; omega
    obtain rfl : j = zs.length := by omega
    rw [List.take_length] at hall
    refine zs1 f1 ?_
    exact retB hk (by rw [hquad, hall, Bool.true_and, Bool.eq_iff_iff]; simp; omega)
  have f1 : decide ((j : Int) < zs.length) = true := by simpa using h3
  obtain ⟨w, hw⟩ : ∃ w, zs[j]? = some w := ⟨_, List.getElem?_eq_getElem h3⟩
  have hwm : w ∈ zs := List.mem_of_getElem? hw
  have hws := hz2 w hwm
  have hws2 : w.size ≤ 1073741824 := by omega
  have hr : rdx zs (↑j : Int).toNat Ty.str.dflt = w := by
    show zs.getD j _ = w
    simp [List.getD, hw]
  have w1 := IntWalk.i64_in (↑j + 1) (by omega)
  have bad : byteL (bl w) = false → quadL (bl s) = false := fun h => by
    rw [hquad, Bool.and_eq_false_iff]
    left
    rw [Bool.eq_false_iff]
    intro h'
    have := List.all_eq_true.1 h' (bl w) (List.mem_map_of_mem hwm)
    rw [h] at this; cases this
  refine zs2 f1 hr ?_
  refine ⟨fun v hv => ?_, fun hno n => ?_⟩
  · have hbad : ¬ (0 ≤ v ∧ v ≤ 255 ∧ nums (Lib.itoa v) = bl w) → byteL (bl w) = false := fun h => by
      rw [Bool.eq_false_iff]
      intro h'
      obtain ⟨v', h1, h2⟩ := (lit1 w).2 h'
      rw [hv] at h1
      cases h1
      exact h h2
    by_cases c1 : v < 0
    · have e1 : decide (v < 0) = true := by simpa using c1
      refine zs1 e1 ?_
      exact retB hk (bad (hbad (by omega))).symm
    have e1 : decide (v < 0) = false := by simpa using c1
    by_cases c2 : v > 255
    · have e2 : decide (v > 255) = true := by simpa using c2
      refine zs2 e1 e2 ?_
      exact retB hk (bad (hbad (by omega))).symm
    have e2 : decide (v > 255) = false := by simpa using c2
    refine zs2 e1 e2 ?_
    intro r hr'
    by_cases c3 : bl r = bl w
    · have e3 : (!(r.toList == w.toList)) = false := by rw [str_beq]; simp [c3]
      refine zs2 e3 w1 ?_
      refine hK' _ _ (by omega) ⟨j + 1, rfl, by omega, ?_, rfl⟩
      have := (lit1 w).1 ⟨v, hv, by omega, by omega, by rw [← hr', c3]⟩
      rw [List.take_add_one, hw, List.map_append, List.all_append, hall]
      simp [this]
    · have e3 : (!(r.toList == w.toList)) = true := by rw [str_beq]; simp [c3]
      refine zs1 e3 ?_
      exact retB hk (bad (hbad fun h => c3 (hr'.trans h.2.2))).symm
  · refine zv ?_
    refine retB hk (bad ?_).symm
    rw [Bool.eq_false_iff]
    intro h'
    obtain ⟨v', h1, h2⟩ := (lit1 w).2 h'
    exact hno _ h1
abbrev mid : Nat := 268435456
def Γ146 : Sems := ext 204 s117 (ext 202 s163 (ext 190 s148 Γ0))
theorem Γ146.ok : SemsOK G Tryz.prog Γ146 := ((Γ0.ok.ext Tryz.func190 rfl (by decide) ok148).ext Tryz.func202 rfl (by decide) ok163).ext Tryz.func204 rfl (by decide) ok117
theorem esc_take {s : ByteArray} {j : Nat} (h : j < s.size) : esc ((bl s).take (j + 1)) = esc ((bl s).take j) ++ esc1 (bt s j) := by
  rw [List.take_add_one, bl_get h]; simp [esc]
def s146 : Sense := pureS fun xs K => ∃ s, xs = [.one (.str s)] ∧ s.size ≤ mid ∧ ∀ r, bl r = quoteP (bl s) → K (.ret (.one (.str r)))
theorem ok146 : SenseOK G Tryz.prog 188 s146 := SenseOK.pure Γ146.ok (fun _ => [0, 3, 10, 11]) Tryz.func188 fun xs K h => by
  obtain ⟨s, rfl, hb, hk⟩ := h
  simp only [mid] at hb
  have hbig : s.size ≤ 1073741824 := by omega
  cases hp : isPlain s with
  | true =>
    refine zs1 hp ?_
    exact hk _ (by rw [quoteP, if_pos (show plainL (bl s) 0 = true from hp)])
  | false =>
  have hq : quoteP (bl s) = 34 :: esc (bl s) ++ [34] := by
    rw [quoteP, if_neg (show ¬ plainL (bl s) 0 = true from fun h => by rw [show plainL (bl s) 0 = false from hp] at h; cases h)]
  refine zs1 hp ?_
  refine ⟨34, [], rfl, by simp, .inl ⟨rfl, by trivial, ?_⟩⟩
  refine zv ?_
  refine iter_of (I := fun k σ => ∃ (j : Nat) (zs : List Int) (mv : Bool), k = s.size - j ∧ j ≤ s.size ∧ zs.length ≤ 1 + 2 * j ∧ (∀ c ∈ zs, 0 ≤ c ∧ c ≤ 255) ∧ zs = 34 :: esc ((bl s).take j) ∧ σ = ⟨slots 32 [(0, .one (.str s)), (3, .one (.ref 0 0)), (10, .one (.int .i64 s.size)), (11, .one (.int .i64 j))], [.box 212 [.ref 0 0, .own 1], .own 5 (.int .u8) zs true mv]⟩) ?_ s.size ⟨0, [34], false, by omega, by omega, by simp, by simp, rfl, rfl⟩
  rintro k σ K' ⟨j, zs, mv, rfl, hj, hzl, hzr, hz, rfl⟩ hK'
  by_cases h1 : j < s.size
  case neg =>
    have f1 : decide ((j : Int) < s.size) = false := by simp; omega
    obtain rfl : j = s.size := by omega
    refine zs1 f1 ?_
    refine ⟨.ref 0 0, .inr rfl, .inr ⟨zs, false, rfl, by rw [hz]; simp, hzr, fun r hr => ?_⟩⟩
    have hrs : r.size ≤ 1 + 2 * s.size := by rw [← bl_length, hr]; exact hzl
    have z1 : (⟨#[34]⟩ : ByteArray).size = 1 := rfl
    refine zv ?_
    refine hk _ ?_
    rw [bl_append, hr, hz, hq, List.take_of_length_le (by rw [bl_length]; exact Nat.le_refl _)]
    rfl
  have f1 : decide ((j : Int) < s.size) = true := by simpa using h1
  have w1 := IntWalk.i64_in (↑j + 1) (by omega)
  have hbr := bl_range (List.mem_of_getElem? (bl_get h1))
  have hzb : zs.length ≤ big := by simp only [big]; omega
  have hzb2 : (zs ++ [92]).length ≤ big := by simp [big]; omega
  by_cases hc : bt s j = 34 ∨ bt s j = 92
  · have f2 : (bif bt s j == 34 then true else bt s j == 92) = true := by rcases hc with hc | hc <;> simp [hc]
    refine zs2 f1 f2 ?_
    refine ⟨92, zs, rfl, hzb, .inr ⟨⟨_, rfl⟩, ?_⟩⟩
    refine zv ?_
    refine ⟨bt s j, zs ++ [92], rfl, hzb2, .inr ⟨⟨_, rfl⟩, ?_⟩⟩
    refine zs1 w1 ?_
    refine hK' _ _ (by omega) ⟨j + 1, zs ++ [92] ++ [bt s j], _, rfl, by omega, by simp; omega, ?_, ?_, rfl⟩
    · intro c hc'
      simp at hc'
      rcases hc' with h | rfl | rfl
      · exact hzr c h
      · omega
      · exact hbr
    · rw [hz, esc_take h1, esc1, if_pos hc]; simp
  · have f2 : (bif bt s j == 34 then true else bt s j == 92) = false := by rw [Bool.eq_false_iff]; simp; omega
    refine zs2 f1 f2 ?_
    refine ⟨bt s j, zs, rfl, hzb, .inr ⟨⟨_, rfl⟩, ?_⟩⟩
    refine zs1 w1 ?_
    refine hK' _ _ (by omega) ⟨j + 1, zs ++ [bt s j], _, rfl, by omega, by simp; omega, ?_, ?_, rfl⟩
    · intro c hc'
      simp at hc'
      rcases hc' with h | rfl
      · exact hzr c h
      · exact hbr
    · rw [hz, esc_take h1, esc1, if_neg hc]; simp
def Γ145 : Sems := ext 204 s117 (ext 202 s163 (ext 159 s124 Γ0))
theorem Γ145.ok : SemsOK G Tryz.prog Γ145 := ((Γ0.ok.ext Tryz.func159 rfl (by decide) ok124).ext Tryz.func202 rfl (by decide) ok163).ext Tryz.func204 rfl (by decide) ok117
def s145 : Sense := pureS fun xs K => ∃ s, xs = [.one (.str s)] ∧ s.size ≤ mid ∧ (inn ((bl s).drop 1) [] 1 = none → K (.pan (.ifa 167 .i64 8))) ∧
  ∀ r t a n, inn ((bl s).drop 1) [] 1 = some (a, n) → bl r = a → bl t = (bl s).drop n.toNat → K (.ret (.tup [.one (.str r), .one (.str t)]))
theorem ok145 : SenseOK G Tryz.prog 187 s145 := SenseOK.pure Γ145.ok (fun _ => [0, 4, 5]) Tryz.func187 fun xs K h => by
  obtain ⟨s, rfl, hb, hk0, hk1⟩ := h
  simp only [mid] at hb
  refine zv ?_
  refine iter_of (I := fun k σ => ∃ (j : Nat) (zs : List Int), k = s.size + 1 - j ∧ 1 ≤ j ∧ zs.length ≤ j ∧ (∀ c ∈ zs, 0 ≤ c ∧ c ≤ 255) ∧ inn ((bl s).drop 1) [] 1 = inn ((bl s).drop j) zs j ∧ j ≤ s.size + 1 ∧
    ((zs = [] ∧ σ = ⟨slots 48 [(0, .one (.str s)), (4, .one (.ref 0 0)), (5, .one (.int .i64 j))], [.box 212 [.nilp, .nil]]⟩) ∨
     (zs ≠ [] ∧ ∃ mv, σ = ⟨slots 48 [(0, .one (.str s)), (4, .one (.ref 0 0)), (5, .one (.int .i64 j))], [.box 212 [.ref 0 0, .own 1], .own 5 (.int .u8) zs true mv]⟩))) ?_ s.size ⟨1, [], by omega, by omega, by simp, by simp, rfl, by omega, .inl ⟨rfl, rfl⟩⟩
  rintro k σ K' ⟨j, zs, rfl, hj, hzl, hzr, hp, hj2, hσ⟩ hK'
  have hzb : zs.length ≤ big := by simp only [big]; omega
  by_cases g1 : j < s.size
  case neg =>
    have f1 : decide ((j : Int) < s.size) = false := by simp; omega
    rw [List.drop_of_length_le (l := bl s) (i := j) (by rw [bl_length]; omega)] at hp
    rcases hσ with ⟨_, rfl⟩ | ⟨_, mv, rfl⟩ <;> refine zs1 f1 ?_ <;> exact hk0 hp
  have hd := bl_drop g1
  have hbr := bl_range (List.mem_of_getElem? (bl_get g1))
  have f1 : decide ((j : Int) < s.size) = true := by simpa using g1
  have w1 := IntWalk.i64_in (↑j + 1) (by omega)
  rw [hd] at hp
  by_cases c1 : bt s j = 34
  · have e1 : (bt s j == 34) = true := by simpa using c1
    have ht : bl (s.extract ((j : Int) + 1).toNat s.size) = (bl s).drop (((j : Int) + 1).toNat) := by
      rw [bl_extract, List.take_of_length_le (by rw [bl_length]; exact Nat.le_refl _)]
    rw [inn_end c1] at hp
    rcases hσ with ⟨hz0, rfl⟩ | ⟨hz0, mv, rfl⟩
    · refine zs2 f1 e1 ?_
      refine ⟨[0], .take 1 (.take 2 (.take 3 (.br 0 (.take 5 (.br 4 (.take 6 .done) .nil)) (.br 4 (.br 0 (.take 5 (.take 6 .done)) .nil) .nil)))), ⟨by kernel_rfl⟩, ?_⟩
      refine zv ?_
      refine Both.mk ?_ ?_
      · refine zv ?_
        refine ⟨.nilp, .inl rfl, .inl ⟨by trivial, fun r hr => ?_⟩⟩
        refine zs1 w1 ?_
        exact hk1 _ _ zs ((j : Int) + 1) hp (by rw [hr, hz0]) ht
      · refine zs1 w1 ?_
        refine ⟨.nilp, .inl rfl, .inl ⟨by trivial, fun r hr => ?_⟩⟩
        refine zv ?_
        exact hk1 _ _ zs ((j : Int) + 1) hp (by rw [hr, hz0]) ht
    · refine zs2 f1 e1 ?_
      refine ⟨[0, 1], .take 1 (.take 2 (.take 3 (.br 0 (.take 5 (.br 4 (.take 6 .done) .nil)) (.br 4 (.br 0 (.take 5 (.take 6 .done)) .nil) .nil)))), ⟨by kernel_rfl⟩, ?_⟩
      refine zv ?_
      refine Both.mk ?_ ?_
      · refine zv ?_
        refine ⟨.ref 0 0, .inr rfl, .inr ⟨zs, false, by trivial, hz0, hzr, fun r hr => ?_⟩⟩
        refine zs1 w1 ?_
        exact hk1 _ _ zs ((j : Int) + 1) hp hr ht
      · refine zs1 w1 ?_
        refine ⟨.ref 0 0, .inr rfl, .inr ⟨zs, false, by trivial, hz0, hzr, fun r hr => ?_⟩⟩
        refine zv ?_
        exact hk1 _ _ zs ((j : Int) + 1) hp hr ht
  have e1 : (bt s j == 34) = false := by simpa using c1
  by_cases c2 : bt s j = 92
  · have e2 : (bt s j == 92) = true := by simpa using c2
    by_cases g2 : j + 1 < s.size
    case neg =>
      have f3 : decide ((j : Int) + 1 < s.size) = false := by simp; omega
      rw [List.drop_of_length_le (l := bl s) (i := j + 1) (by rw [bl_length]; omega), inn_esc0 c2] at hp
      rcases hσ with ⟨_, rfl⟩ | ⟨_, mv, rfl⟩ <;> refine zs5 f1 e1 e2 w1 f3 ?_ <;> exact hk0 hp
    have f3 : decide ((j : Int) + 1 < s.size) = true := by simp; omega
    have hd2 := bl_drop g2
    have hr2 := bl_range (List.mem_of_getElem? (bl_get g2))
    have hcast : ((j + 1 : Nat) : Int) = (j : Int) + 1 := rfl
    rw [hcast] at hd2 hr2
    have w2 := IntWalk.i64_in (↑j + 1 + 1) (by omega)
    rw [hd2, inn_esc c2] at hp
    cases c4 : okp (bt s (↑j + 1)) with
    | true =>
      have c4' := c4
      simp [okp] at c4'
      have f4 : (bif decide (bt s (↑j + 1) ≥ 32) then decide (bt s (↑j + 1) ≤ 126) else false) = true := by simp; omega
      rw [c4, if_pos rfl] at hp
      rcases hσ with ⟨hz0, rfl⟩ | ⟨hz0, mv, rfl⟩
      · refine zs6 f1 e1 e2 w1 f3 f4 ?_
        refine ⟨_, zs, rfl, hzb, .inl ⟨hz0, by trivial, ?_⟩⟩
        refine zs1 w2 ?_
        exact hK' _ _ (by omega) ⟨j + 2, [bt s ((j : Int) + 1)], rfl, by omega, by simp, by simp; omega, by rw [hp, hz0]; rfl, by omega, .inr ⟨by simp, _, rfl⟩⟩
      · refine zs6 f1 e1 e2 w1 f3 f4 ?_
        refine ⟨_, zs, rfl, hzb, .inr ⟨⟨_, by trivial⟩, ?_⟩⟩
        refine zs1 w2 ?_
        exact hK' _ _ (by omega) ⟨j + 2, zs ++ [bt s ((j : Int) + 1)], rfl, by omega, by simp; omega, by simp; rintro c (h | rfl); (exact hzr c h); omega, hp, by omega, .inr ⟨by simp, _, rfl⟩⟩
    | false =>
      have c4' := c4
      simp [okp] at c4'
      have f4 : (bif decide (bt s (↑j + 1) ≥ 32) then decide (bt s (↑j + 1) ≤ 126) else false) = false := by rw [Bool.eq_false_iff]; simp; omega
      rw [c4] at hp
      rcases hσ with ⟨_, rfl⟩ | ⟨_, mv, rfl⟩ <;> refine zs6 f1 e1 e2 w1 f3 f4 ?_ <;> exact hk0 hp
  · have e2 : (bt s j == 92) = false := by simpa using c2
    rw [inn_go c1 c2] at hp
    cases c4 : okp (bt s j) with
    | true =>
      have c4' := c4
      simp [okp] at c4'
      have f4 : (bif decide (bt s j ≥ 32) then decide (bt s j ≤ 126) else false) = true := by simp; omega
      rw [c4, if_pos rfl] at hp
      rcases hσ with ⟨hz0, rfl⟩ | ⟨hz0, mv, rfl⟩
      · refine zs4 f1 e1 e2 f4 ?_
        refine ⟨_, zs, rfl, hzb, .inl ⟨hz0, by trivial, ?_⟩⟩
        refine zs1 w1 ?_
        exact hK' _ _ (by omega) ⟨j + 1, [bt s j], rfl, by omega, by simp, by simp; omega, by rw [hp, hz0]; rfl, by omega, .inr ⟨by simp, _, rfl⟩⟩
      · refine zs4 f1 e1 e2 f4 ?_
        refine ⟨_, zs, rfl, hzb, .inr ⟨⟨_, by trivial⟩, ?_⟩⟩
        refine zs1 w1 ?_
        exact hK' _ _ (by omega) ⟨j + 1, zs ++ [bt s j], rfl, by omega, by simp; omega, by simp; rintro c (h | rfl); (exact hzr c h); omega, hp, by omega, .inr ⟨by simp, _, rfl⟩⟩
    | false =>
      have c4' := c4
      simp [okp] at c4'
      have f4 : (bif decide (bt s j ≥ 32) then decide (bt s j ≤ 126) else false) = false := by rw [Bool.eq_false_iff]; simp; omega
      rw [c4] at hp
      rcases hσ with ⟨_, rfl⟩ | ⟨_, mv, rfl⟩ <;> refine zs4 f1 e1 e2 f4 ?_ <;> exact hk0 hp
theorem pre_one (c : Int) (l : List Int) : pre [c] l = decide (l.head? = some c) := by
  cases l with
  | nil => simp [pre]
  | cons x l => simp [pre]
theorem idx_range : ∀ (l : List Int) (c : Int), -1 ≤ idx l c ∧ idx l c < l.length + 1 ∧ (idx l c ≠ -1 → idx l c < l.length)
  | [], c => by simp [idx]
  | x :: l, c => by
    have := idx_range l c
    simp only [idx, List.length_cons]
    split
    · omega
    · split <;> omega
def Γ123 : Sems := ext 189 s147 (ext 159 s124 (ext 59 s90 (ext 190 s148 (ext 188 s146 (ext 187 s145 Γ0)))))
theorem Γ123.ok : SemsOK G Tryz.prog Γ123 := (((((Γ0.ok.ext Tryz.func187 rfl (by decide) ok145).ext Tryz.func188 rfl (by decide) ok146).ext Tryz.func190 rfl (by decide) ok148).ext Tryz.func59 rfl (by decide) ok63).ext Tryz.func159 rfl (by decide) ok124).ext Tryz.func189 rfl (by decide) ok147
def s123 : Sense := pureS fun xs K => ∃ s, xs = [.one (.str s)] ∧ s.size ≤ mid ∧ (localP (bl s) = none → K (.pan (.ifa 167 .i64 8))) ∧
  ∀ p t a b, localP (bl s) = some (a, b) → bl p = a → bl t = b → K (.ret (.tup [.one (.str p), .one (.str t)]))
theorem ok123 : SenseOK G Tryz.prog 158 s123 := SenseOK.pure Γ123.ok (fun _ => []) Tryz.func158 fun xs K h => by
  obtain ⟨s, rfl, hb, hk0, hk1⟩ := h
  have hb' := hb
  simp only [mid] at hb'
  by_cases hq : (bl s).head? = some 34
  · have f1 : pre (bl (⟨#[34]⟩ : ByteArray)) (bl s) = true := by rw [show bl (⟨#[34]⟩ : ByteArray) = [34] from rfl, pre_one]; simpa using hq
    have hl0 : inn ((bl s).drop 1) [] 1 = none → localP (bl s) = none := fun h => by unfold localP; rw [if_pos hq, h]
    have hl1 : ∀ a n, inn ((bl s).drop 1) [] 1 = some (a, n) → localP (bl s) = some (quoteP a, (bl s).drop n.toNat) := fun a n h => by unfold localP; rw [if_pos hq, h]
    refine zs1 f1 ?_
    refine ⟨fun hn => ?_, fun r t a n hn hr ht => ?_⟩
    · refine zv ?_
      exact hk0 (hl0 hn)
    · obtain ⟨u, q, he, hk', m', hm, hok, hback, hml⟩ := inn_spec _ _ _ _ _ _ (Nat.le_refl _) hn
      rw [List.nil_append] at hm
      subst hm
      have hul : u.length ≤ s.size := by
        have := congrArg List.length he
        simp [bl_length] at this
        omega
      have hrm : r.size ≤ mid := by rw [← bl_length, hr]; simp only [mid]; omega
      have hrm' : r.size ≤ 268435456 := hrm
      refine zv ?_
      intro r2 hr2
      refine zv ?_
      exact hk1 _ _ _ _ (hl1 _ _ hn) (by rw [hr2, hr]) ht
  · have f1 : pre (bl (⟨#[34]⟩ : ByteArray)) (bl s) = false := by rw [show bl (⟨#[34]⟩ : ByteArray) = [34] from rfl, pre_one]; simpa using hq
    have hl : localP (bl s) = if 0 ≤ idx (bl s) 64 ∧ plainL ((bl s).take (idx (bl s) 64).toNat) 0 = true then some ((bl s).take (idx (bl s) 64).toNat, (bl s).drop (idx (bl s) 64).toNat) else none := by unfold localP; rw [if_neg hq]
    have hi := idx_range (bl s) 64
    rw [bl_length] at hi
    by_cases h0 : 0 ≤ idx (bl s) 64
    case neg =>
      have f2 : decide (idx (bl s) 64 ≥ 0) = false := by simpa using h0
      refine zs2 f1 f2 ?_
      exact hk0 (by rw [hl, if_neg fun h => h0 h.1])
    have f2 : decide (idx (bl s) 64 ≥ 0) = true := by simpa using h0
    have hlt := hi.2.2 (by omega)
    have e1 : bl (s.extract 0 (idx (bl s) 64).toNat) = (bl s).take (idx (bl s) 64).toNat := by rw [bl_extract, List.drop_zero]
    have e2 : bl (s.extract (idx (bl s) 64).toNat s.size) = (bl s).drop (idx (bl s) 64).toNat := by
      rw [bl_extract, List.take_of_length_le (by rw [bl_length]; exact Nat.le_refl _)]
    have hsz : (s.extract 0 (idx (bl s) 64).toNat).size ≤ 1073741824 := by rw [← bl_length, e1, List.length_take, bl_length]; omega
    cases hp : isPlain (s.extract 0 (idx (bl s) 64).toNat) with
    | false =>
      refine zs3 f1 f2 hp ?_
      refine hk0 ?_
      rw [hl, if_neg]
      rintro ⟨_, h⟩
      rw [isPlain, e1, h] at hp
      cases hp
    | true =>
      have hp' : plainL ((bl s).take (idx (bl s) 64).toNat) 0 = true := by rw [isPlain, e1] at hp; exact hp
      rw [if_pos ⟨h0, hp'⟩] at hl
      refine zs3 f1 f2 hp ?_
      refine ⟨[], .take 0 (.take 1 (.take 3 (.take 4 (.br 2 (.take 6 (.br 5 (.take 7 .done) .nil)) (.br 5 (.br 2 (.take 6 (.take 7 .done)) .nil) .nil))))), ⟨by kernel_rfl⟩, ?_⟩
      refine zv ?_
      refine Both.mk ?_ ?_
      · refine zv ?_
        exact hk1 _ _ _ _ hl e1 e2
      · refine zv ?_
        exact hk1 _ _ _ _ hl e1 e2
def s38 : Sense := pureS fun xs K => ∃ s, xs = [.one (.str s)] ∧ s.size ≤ mid ∧ K (.ret (.one (.bool (domL (bl s)))))
def Γ107 : Sems := ext 34 s38 (ext 160 s125 (ext 159 s124 (ext 59 s90 (ext 158 s123 Γ0))))
theorem Γ107.ok (h38 : SenseOK G Tryz.prog 34 s38) : SemsOK G Tryz.prog Γ107 := ((((Γ0.ok.ext Tryz.func158 rfl (by decide) ok123).ext Tryz.func59 rfl (by decide) ok63).ext Tryz.func159 rfl (by decide) ok124).ext Tryz.func160 rfl (by decide) ok125).ext Tryz.func34 rfl (by decide) h38
theorem localP_len {l a b : List Int} (h : localP l = some (a, b)) : b.length ≤ l.length := by
  unfold localP at h
  split at h
  · split at h
    · cases h; simp
    · cases h
  · split at h
    · cases h; simp
    · cases h
def s107 : Sense := pureS fun xs K => ∃ s, xs = [.one (.str s)] ∧ s.size ≤ mid ∧ (parseP (bl s) = none → K (.pan (.ifa 167 .i64 8))) ∧
  ∀ p t a b, parseP (bl s) = some (a, b) → bl p = a → bl t = b → K (.ret (.agg [.str p, .str t]))
theorem ok107 (h38 : SenseOK G Tryz.prog 34 s38) : SenseOK G Tryz.prog 130 s107 := SenseOK.pure (Γ107.ok h38) (fun _ => []) Tryz.func130 fun xs K h => by
  obtain ⟨s, rfl, hb, hk0, hk1⟩ := h
  have hb' := hb
  simp only [mid] at hb'
  refine zv ?_
  refine ⟨fun hn => ?_, fun p t a b hn hp ht => ?_⟩
  · refine zv ?_
    exact hk0 (by unfold parseP; rw [hn])
  · have htl := localP_len hn
    rw [← ht, bl_length, bl_length] at htl
    have hpar : parseP (bl s) = if a.length ≤ 64 ∧ b.head? = some 64 ∧ domL ((b.drop 1).map small1) = true then some (a, (b.drop 1).map small1) else none := by
      unfold parseP; rw [hn]
    by_cases h1 : p.size ≤ 64
    case neg =>
      have f1 : decide ((p.size : Int) ≤ 64) = false := by simp; omega
      refine zs1 f1 ?_
      refine hk0 ?_
      rw [hpar, if_neg]
      rintro ⟨h, _⟩
      rw [← hp, bl_length] at h
      exact h1 h
    have f1 : decide ((p.size : Int) ≤ 64) = true := by simp; omega
    have e64 : bl (⟨#[64]⟩ : ByteArray) = [64] := rfl
    by_cases h2 : b.head? = some 64
    case neg =>
      have f2 : pre (bl (⟨#[64]⟩ : ByteArray)) (bl t) = false := by rw [e64, pre_one, ht]; simpa using h2
      refine zs2 f1 f2 ?_
      refine hk0 ?_
      rw [hpar, if_neg]
      rintro ⟨_, h, _⟩
      exact h2 h
    have f2 : pre (bl (⟨#[64]⟩ : ByteArray)) (bl t) = true := by rw [e64, pre_one, ht]; simpa using h2
    have ht1 : 1 ≤ t.size := by
      rw [← bl_length, ht]
      cases b with
      | nil => cases h2
      | cons x b => simp
    have e1 : bl (t.extract 1 t.size) = b.drop 1 := by
      rw [bl_extract, List.take_of_length_le (by rw [bl_length]; exact Nat.le_refl _), ht]
    have hsz : (t.extract 1 t.size).size ≤ 1073741824 := by rw [← bl_length, e1, ← ht, List.length_drop, bl_length]; omega
    refine zs2 f1 f2 ?_
    refine ⟨hsz, fun d hd => ?_⟩
    change bl d = (bl (t.extract 1 t.size)).map small1 at hd
    rw [e1] at hd
    have hds : d.size ≤ 268435456 := by rw [← bl_length, hd, List.length_map, ← ht, List.length_drop, bl_length]; omega
    cases h3 : domL (bl d) with
    | false =>
      refine zs1 h3 ?_
      refine hk0 ?_
      rw [hpar, if_neg]
      rintro ⟨_, _, h⟩
      rw [hd, h] at h3
      cases h3
    | true =>
      refine zs1 h3 ?_
      refine hk1 _ _ a _ ?_ hp hd
      rw [hpar, if_pos ⟨by rw [← hp, bl_length]; omega, h2, by rw [← hd]; exact h3⟩]
end Go.Proofs.YtilagaapfbfkkaaGreatDoor.Ab
namespace Go.Proofs.YtilagaapfbfkkaaGreatDoor.Ab
open Go Go.RowKit Go.Shelf Go.Lib Go.Proofs.YtilagaapfbfkkaaGreatDoorW.PrintWords
attribute [local go_sem] Oper.semAt_some
def leftIn (c : Nat) (w : World) : Nat := match w.heap[c]? with
  | some (.cells cs _ _) => (match cs[0]? with | some (Value.string r) => r.size | _ => 0)
  | _ => 0
theorem leftIn_eq {c : Nat} {w : World} {r : ByteArray} (h : w.heap[c]? = some (.cells #[.string r] 9 (0, 0))) : leftIn c w = r.size := by
  simp [leftIn, h]
structure Its (c : Nat) (s : ByteArray) (W : World) : Prop where
  s : W.heap[c]? = some (.cells #[.string s] 9 (0, 0))
  sep : W.heap[c + 1]? = some (.cells #[.string ⟨#[46]⟩] 9 (0, 0))
  k : W.heap[c + 2]? = some (.cells #[.int .i64 0] 3 (0, 0))
set_option maxRecDepth 100000 in
theorem seq_in (n : Nat) (hn : 1 ≤ n) (l c : Nat) (J : ByteArray → World → Prop) (Jx Je : World → Prop)
    (hc : ∀ s W, J s W → Its c s W ∧ s.size ≤ 35184372088832) (hd : ∀ s W, J s W → J s W.drew)
    (hY : ∀ s (i : Nat) W, J s W → Lib.indexByte s.data.toList 46 = i →
      YieldAt Fence.wide (n - 1) Tryz.prog l #[.string (s.extract 0 i)] W fun e W' => (e = .returned (.bool true) ∧ Its c s W' ∧ J (s.extract (i + 1) s.size) (W'.setCell ⟨c, 0, none⟩ (.string (s.extract (i + 1) s.size)))) ∨ (e = .returned (.bool false) ∧ Jx W'))
    (hYe : ∀ s W, J s W → Lib.indexByte s.data.toList 46 = -1 → YieldAt Fence.wide (n - 1) Tryz.prog l #[.string s] W fun e W' => (∃ b, e = .returned (.bool b)) ∧ Je W')
    (s : ByteArray) (W : World) (h0 : J s W) :
    CallsIn Fence.wide n Tryz.prog 139 #[.func (.yield l) #[] #[], .pointer (some ⟨c + 1, 0, none⟩), .pointer (some ⟨c, 0, none⟩), .pointer (some ⟨c + 2, 0, none⟩)] W fun e W' => (∃ v, e = .returned v) ∧ (Je W' ∨ Jx W') := by
  refine callsIn_of_wp Tryz.func139 rfl trivial ?_ rfl
  simp only [Tryz.ntmps139, List.size_toArray, List.length_cons, List.length_nil, Nat.reduceAdd, Nat.reduceSub, Array.replicate_succ, Array.replicate_zero, List.push_toArray, List.append_toArray, List.nil_append, List.cons_append]
  have hI0 := (hc s W h0).1
  have c2 : W.cell? ⟨c + 1, 0, none⟩ = some (.string ⟨#[46]⟩) := by rw [Lib.cell_of_heap hI0.sep]; rfl
  have z1 : ({ data := #[46] } : ByteArray).size = 1 := rfl
  gi_wp2
  gi_loopw [7, 8] (fun _ _ wr => ∃ rest, J rest wr) (fun _ _ wr => leftIn c wr)
  case atStart => exact ⟨s, h0⟩
  case round =>
    obtain ⟨rest, hJ⟩ := hrel
    obtain ⟨hI, hsz⟩ := hc rest _ hJ
    have hl := leftIn_eq hI.s
    have c1 : wr.cell? ⟨c, 0, none⟩ = some (.string rest) := by rw [Lib.cell_of_heap hI.s]; rfl
    have c2 : wr.cell? ⟨c + 1, 0, none⟩ = some (.string ⟨#[46]⟩) := by rw [Lib.cell_of_heap hI.sep]; rfl
    have c3 : wr.cell? ⟨c + 2, 0, none⟩ = some (.int .i64 0) := by rw [Lib.cell_of_heap hI.k]; rfl
    by_cases hi : Lib.indexByte rest.data.toList 46 < 0
    · have hz : decide (Lib.indexByte rest.data.toList 46 < 0) = true := decide_eq_true hi
      have hge := Lib.indexByte_ge rest.data.toList 46
      obtain ⟨fn, tmps, assign, body, hy, hR⟩ := hYe rest wr hJ (by omega)
      gi_wp2_with (refine ⟨trivial, ?_⟩; gi_at_call 131; refine (callsIn_wide.2 (Tryz.strings_Index_one _ _ _)).mono ?_; rintro e w' ⟨rfl, hw⟩; rw [hw]; clear hw)
      refine hR.mono ?_
      rintro e W' ⟨⟨b, rfl⟩, hJe⟩
      gi_wp2
      go_end0
      exact ⟨⟨_, rfl⟩, .inl hJe⟩
    · have hz : decide (Lib.indexByte rest.data.toList 46 < 0) = false := decide_eq_false hi
      obtain ⟨o, ho⟩ : ∃ o : Nat, Lib.indexByte rest.data.toList 46 = o := ⟨(Lib.indexByte rest.data.toList 46).toNat, by omega⟩
      obtain ⟨hoa, hob⟩ := Lib.indexByte_some ho
      have hlt : o < rest.data.toList.length := (List.getElem?_eq_some_iff.1 hoa).1
      have hlt' : o < rest.size := by rw [Array.length_toList] at hlt; exact hlt
      have hwr : wrap64 (Lib.indexByte rest.data.toList 46 + 0) = (o : Int) := by rw [ho]; unfold wrap64; omega
      have hwr1 : wrap64 (Lib.indexByte rest.data.toList 46 + 1) = ((o + 1 : Nat) : Int) := by rw [ho]; unfold wrap64; omega
      have hlo : (0 : Int) ≤ wrap64 (Lib.indexByte rest.data.toList 46 + 0) := by omega
      have hhi : wrap64 (Lib.indexByte rest.data.toList 46 + 0) ≤ (rest.size : Int) := by omega
      have hto : (wrap64 (Lib.indexByte rest.data.toList 46 + 0)).toNat = o := by omega
      have hlo1 : (0 : Int) ≤ wrap64 (Lib.indexByte rest.data.toList 46 + 1) := by omega
      have hhi1 : wrap64 (Lib.indexByte rest.data.toList 46 + 1) ≤ (rest.size : Int) := by omega
      have hto1 : (wrap64 (Lib.indexByte rest.data.toList 46 + 1)).toNat = o + 1 := by omega
      obtain ⟨fn, tmps, assign, body, hy, hR⟩ := hY rest o wr hJ ho
      gi_wp2_with (refine ⟨trivial, ?_⟩; gi_at_call 131; refine (callsIn_wide.2 (Tryz.strings_Index_one _ _ _)).mono ?_; rintro e w' ⟨rfl, hw⟩; rw [hw]; clear hw)
      refine hR.mono ?_
      rintro e W' (⟨rfl, hI', hJ'⟩ | ⟨rfl, hx⟩)
      · have d1 : W'.cell? ⟨c, 0, none⟩ = some (.string rest) := by rw [Lib.cell_of_heap hI'.s]; rfl
        have d2 : W'.cell? ⟨c + 1, 0, none⟩ = some (.string ⟨#[46]⟩) := by rw [Lib.cell_of_heap hI'.sep]; rfl
        have f1 : W'.frozen? ⟨c, 0, none⟩ = false := Lib.frozen_of_heap hI'.s 0
        gi_wp2
        go_roundw
        case rel => exact ⟨_, hJ'⟩
        case measure =>
          rw [leftIn_eq (hc _ _ hJ').1.s, hl]
          show (rest.extract (o + 1) rest.size).size < rest.size
          rw [ByteArray.size_extract]; omega
      · gi_wp2
        exact ⟨rfl, _, results_none (fn := Tryz.f139) rfl _ _ _, ⟨_, rfl⟩, .inr hx⟩
theorem its_calls (s : ByteArray) (w : World) :
    Calls Tryz.prog 57 #[.string s, .string ⟨#[46]⟩] w fun e w' => e = .returned (.func (.func 139) #[] #[.pointer (some ⟨w.heap.size + 1, 0, none⟩), .pointer (some ⟨w.heap.size, 0, none⟩), .pointer (some ⟨w.heap.size + 2, 0, none⟩)]) ∧
      w' = ((w.alloc (.cells #[.string s] 9)).alloc (.cells #[.string ⟨#[46]⟩] 9)).alloc (.cells #[.int .i64 0] 3) := by
  have h88 : ∀ w, Calls Tryz.prog 99 #[.string s, .string ⟨#[46]⟩, .int .i64 0] w fun e w' => e = .returned (.func (.func 139) #[] #[.pointer (some ⟨w.heap.size + 1, 0, none⟩), .pointer (some ⟨w.heap.size, 0, none⟩), .pointer (some ⟨w.heap.size + 2, 0, none⟩)]) ∧
      w' = ((w.alloc (.cells #[.string s] 9)).alloc (.cells #[.string ⟨#[46]⟩] 9)).alloc (.cells #[.int .i64 0] 3) := by
    intro w
    have hmf : ∀ (fn : Fn) (first cap : Array Value) (w : World), (Instr.makeFunc fn first cap).run Tryz.prog w = .ok (.func fn first cap) w := fun _ _ _ _ => rfl
    go_enter Tryz.func99, Tryz.ntmps99
    go_wp2
    go_ret
    exact ⟨rfl, rfl⟩
  go_enter Tryz.func57, Tryz.ntmps57
  go_wp2
  go_ret
  exact ⟨rfl, rfl⟩
attribute [local go_sem] Oper.semAt_some
theorem SenseOK.use {G : World → Prop} {f : FuncId} {g : List V → (Out → Prop) → Prop} (h : SenseOK G Tryz.prog f (pureS g)) {hid pub : Nat → Prop} {ph : ∀ b, pub b → hid b} {w : World} (hX : ∀ b, hid b → b < w.heap.size) (hg : Gnd ⟨hid, [], G, [], pub, ph⟩ w) {xs : List V} {vs : List Value}
    (ha : ∀ I lk, All2 (VRep w I lk) xs vs) {K : Out → Prop} (hk : g xs K) : Calls Tryz.prog f vs.toArray w fun e w' => ∃ out I lk, K out ∧ Keep (fun _ => False) w w' ∧ OutRep w' I lk out e := by
  refine (h ⟨hid, [], G, [], pub, ph⟩ w [] [] xs vs (fun os o => os = [] ∧ K o) ⟨rfl, by simp, by simp, by simp, by simp, Nat.le_refl _, by simp⟩ rfl hX rfl hg (ha _ _) ⟨rfl, (by
    have : g xs (fun o => ([] : List Ob) = [] ∧ K o) := by simpa using hk
    exact this)⟩).mono ?_
  rintro e w' ⟨os', lk', out, ⟨_, hK⟩, _, hk, _, ho⟩
  exact ⟨out, _, _, hK, ⟨hk.os, hk.tape, hk.output, hk.size, fun k h1 _ => hk.block k h1 (fun x => by cases x.1)⟩, ho⟩
theorem Gnd.keep {hid pub : Nat → Prop} {ph : ∀ b, pub b → hid b} {G : World → Prop} {w w' : World} (h : Gnd ⟨hid, [], G, [], pub, ph⟩ w) (hX : ∀ b, hid b → b < w.heap.size) (hk : ∀ k, k < w.heap.size → w'.heap[k]? = w.heap[k]?) : Gnd ⟨hid, [], G, [], pub, ph⟩ w' :=
  fun w2 h2 => h w2 fun b hb => (h2 b hb).trans (hk b (hX b hb))
theorem label_calls (s : ByteArray) (hs : s.size ≤ big) (w : World) : Calls Tryz.prog 58 #[.string s] w fun e w' => e = .returned (.bool (isLabel s)) ∧ Keep (fun _ => False) w w' := by
  refine (SenseOK.use (G := fun _ => True) ok62 (hid := fun _ => False) (pub := fun _ => False) (ph := fun _ h => h) (w := w) (fun _ h => h.elim) (fun _ _ => trivial) (xs := [.one (.str s)]) (vs := [.string s]) (fun I lk => ⟨rfl, trivial⟩) (K := fun o => o = .ret (.one (.bool (isLabel s)))) ⟨s, rfl, hs, rfl⟩).mono ?_
  rintro e w' ⟨out, I, lk, rfl, hk, v, rfl, hv⟩
  exact ⟨by rw [show v = _ from hv], hk⟩
theorem isLabel_eq (s : ByteArray) : isLabel s = labL (bl s) := by
  have hlen := bl_length s
  have h45 : isSign 45 = false := by decide
  rw [Bool.eq_iff_iff]
  simp only [isLabel, labL, Bool.and_eq_true, allN_iff, decide_eq_true_eq, bl_length, List.all_eq_true, bne_iff_ne, ne_eq, Bool.not_eq_true', List.isEmpty_eq_false_iff]
  have hhd : 0 < s.size → (bl s).head? = some (bt s ((0 : Nat) : Int)) := fun h => by rw [List.head?_eq_getElem?, bl_get h]
  have hls : 0 < s.size → (bl s).getLast? = some (bt s (s.size - 1 : Nat)) := fun h => by rw [List.getLast?_eq_getElem?, hlen, bl_get (by omega)]
  have hne : bl s ≠ [] ↔ 0 < s.size := by rw [← hlen]; exact List.length_pos_iff.symm
  constructor
  · rintro ⟨⟨h1, h2⟩, h3⟩
    refine ⟨⟨⟨⟨hne.2 h2, h3⟩, fun c hc => ?_⟩, ?_⟩, ?_⟩
    · obtain ⟨i, hi⟩ := List.mem_iff_getElem?.1 hc
      have hil : i < s.size := by have := (List.getElem?_eq_some_iff.1 hi).1; omega
      rw [bl_get hil] at hi
      obtain rfl := Option.some.inj hi
      have := h1 i hil
      simp only [labelC, Bool.or_eq_true, Bool.and_eq_true, decide_eq_true_eq] at this
      rcases this with h | ⟨⟨h, _⟩, _⟩
      · simp [h]
      · simp [h]
    · rw [hhd h2]
      have := h1 0 h2
      simp only [labelC, Bool.or_eq_true, Bool.and_eq_true, decide_eq_true_eq] at this
      intro he
      have he' : bt s ((0 : Nat) : Int) = 45 := by simpa using he
      rcases this with h | ⟨⟨_, h⟩, _⟩
      · rw [he', h45] at h; cases h
      · exact h rfl
    · rw [hls h2]
      have := h1 (s.size - 1) (by omega)
      simp only [labelC, Bool.or_eq_true, Bool.and_eq_true, decide_eq_true_eq] at this
      intro he
      have he' : bt s ((s.size - 1 : Nat) : Int) = 45 := by simpa using he
      rcases this with h | ⟨_, h⟩
      · rw [he', h45] at h; cases h
      · exact h (by omega)
  · rintro ⟨⟨⟨⟨h1, h2⟩, h3⟩, h4⟩, h5⟩
    have h0 := hne.1 h1
    refine ⟨⟨fun i hi => ?_, h0⟩, h2⟩
    have := h3 (bt s i) (List.mem_of_getElem? (bl_get hi))
    simp only [labelC, Bool.or_eq_true, Bool.and_eq_true, decide_eq_true_eq, beq_iff_eq] at this ⊢
    rcases this with h | h
    · exact .inl h
    · refine .inr ⟨⟨h, fun e => ?_⟩, fun e => ?_⟩
      · subst e; rw [hhd h0] at h4; exact h4 (by rw [h])
      · obtain rfl : i = s.size - 1 := by omega
        rw [hls h0] at h5; exact h5 (by rw [h])
theorem lead_calls (s : ByteArray) (w : World) : Calls Tryz.prog 35 #[.string s] w fun e w' => e = .returned (.bool (pre [91] (bl s))) ∧ Keep (fun _ => False) w w' := by
  refine (SenseOK.use (G := fun _ => True) ok39 (hid := fun _ => False) (pub := fun _ => False) (ph := fun _ h => h) (w := w) (fun _ h => h.elim) (fun _ _ => trivial) (xs := [.one (.str s)]) (vs := [.string s]) (fun I lk => ⟨rfl, trivial⟩) (K := fun o => o = .ret (.one (.bool (pre [91] (bl s))))) ⟨s, rfl, rfl⟩).mono ?_
  rintro e w' ⟨out, I, lk, rfl, hk, v, rfl, hv⟩
  exact ⟨by rw [show v = _ from hv], hk⟩
theorem lit_calls (s : ByteArray) (hs : s.size ≤ big) {hid pub : Nat → Prop} {ph : ∀ b, pub b → hid b} {w : World} (hX : ∀ b, hid b → b < w.heap.size) (hg : Gnd ⟨hid, [], Gr, [], pub, ph⟩ w) : Calls Tryz.prog 56 #[.string s] w fun e w' => e = .returned (.bool (quadL (bl s))) ∧ Keep (fun _ => False) w w' := by
  refine (SenseOK.use ok60 (hid := hid) (pub := pub) (ph := ph) (w := w) hX hg (xs := [.one (.str s)]) (vs := [.string s]) (fun I lk => ⟨rfl, trivial⟩) (K := fun o => o = .ret (.one (.bool (quadL (bl s))))) ⟨s, rfl, hs, rfl⟩).mono ?_
  rintro e w' ⟨out, I, lk, rfl, hk, v, rfl, hv⟩
  exact ⟨by rw [show v = _ from hv], hk⟩
theorem suf_calls (s p : ByteArray) (hs : s.size ≤ big) (w : World) : Calls Tryz.prog 55 #[.string s, .string p] w fun e w' => e = .returned (.bool (suf (bl p) (bl s))) ∧ Keep (fun _ => False) w w' := by
  refine (SenseOK.use (G := fun _ => True) ok59 (hid := fun _ => False) (pub := fun _ => False) (ph := fun _ h => h) (w := w) (fun _ h => h.elim) (fun _ _ => trivial) (xs := [.one (.str s), .one (.str p)]) (vs := [.string s, .string p]) (fun I lk => ⟨rfl, rfl, trivial⟩) (K := fun o => o = .ret (.one (.bool (suf (bl p) (bl s))))) ⟨s, p, rfl, hs, rfl⟩).mono ?_
  rintro e w' ⟨out, I, lk, rfl, hk, v, rfl, hv⟩
  exact ⟨by rw [show v = _ from hv], hk⟩
set_option maxRecDepth 100000 in
theorem dom_lit (s : ByteArray) (hs : s.size ≤ big) (hpp : pre [91] (bl s) = true) {hid pub : Nat → Prop} {ph : ∀ b, pub b → hid b} {w : World} (hX : ∀ b, hid b → b < w.heap.size) (hg : Gnd ⟨hid, [], Gr, [], pub, ph⟩ w) : Calls Tryz.prog 34 #[.string s] w fun e w' => e = .returned (.bool (domP (bl s))) ∧ Keep (fun _ => False) w w' := by
  refine (callsIn_wide (n := 4)).1 ?_
  refine callsIn_of_wp_marks Tryz.func34 rfl trivial ?_ rfl
  simp only [Tryz.ntmps34, List.size_toArray, List.length_cons, List.length_nil, Nat.reduceAdd, Nat.reduceSub, Array.replicate_succ, Array.replicate_zero, List.push_toArray, List.append_toArray, List.nil_append, List.cons_append]
  have hcellw : (w.alloc (.cells #[.bool false] 4)).heap[w.heap.size]? = some (.cells #[.bool false] 4 (0, 0)) := World.alloc_heap_new w _
  have res : ∀ (tmps : Array Value) (b : Bool) (W : World), tmps.getD 2 undef = .pointer (some ⟨w.heap.size, 0, none⟩) → W.cell? ⟨w.heap.size, 0, none⟩ = some (.bool b) → (results Tryz.f34 tmps).run Tryz.prog W = .ok (.bool b) W := by
    intro tmps b W ht hc
    have ht' : tmps[2]?.getD undef = .pointer (some ⟨w.heap.size, 0, none⟩) := by simpa [Array.getD_eq_getD_getElem?] using ht
    simp [results, Tryz.results34, ht', go_sem, hc]
  have fin : ∀ (tmps : Array Value) (b : Bool) (W : World), tmps.getD 2 undef = .pointer (some ⟨w.heap.size, 0, none⟩) → W.heap[w.heap.size]? = some (.cells #[.bool b] 4 (0, 0)) → b = domP (bl s) → Below w.heap.size w W →
      bodyPostM Fence.wide 4 Tryz.prog Tryz.f34 (fun e w' => e = .returned (.bool (domP (bl s))) ∧ Keep (fun _ => False) w w') .ret { tmps := tmps, defers := [] } W := by
    rintro tmps b W ht hc rfl hb
    exact ⟨_, res tmps _ W ht (by rw [Lib.cell_of_heap hc]; rfl), rfl, Below.keep' hb⟩
  have hhd : (bl s).head? = some 91 ↔ pre [91] (bl s) = true := by
    cases bl s with
    | nil => simp [pre]
    | cons c l => simp [pre]
  have hlast : (bl s).getLast? = some 93 ↔ suf [93] (bl s) = true := by
    rcases List.eq_nil_or_concat (bl s) with h | ⟨l, c, h⟩
    · rw [h]; simp [suf]
    · rw [h]; simp [suf]
  cases hp : pre [91] (bl s) with
  | true =>
    have c39 : ∀ w, Calls Tryz.prog 35 #[.string s] w fun e w' => e = .returned (.bool true) ∧ Keep (fun _ => False) w w' := fun w => hp ▸ lead_calls s w
    cases hq : suf [93] (bl s) with
    | false =>
      have c59 : ∀ w, Calls Tryz.prog 55 #[.string s, .string ⟨#[93]⟩] w fun e w' => e = .returned (.bool false) ∧ Keep (fun _ => False) w w' := fun w => hq ▸ suf_calls s ⟨#[93]⟩ hs w
      gi_wp2_with (first
        | (refine ⟨trivial, ?_⟩; gi_at_call 35; refine (callsIn_wide.2 (c39 _)).mono ?_; rintro e w1 ⟨rfl, hk1⟩)
        | (refine ⟨trivial, ?_⟩; gi_at_call 55; refine (callsIn_wide.2 (c59 _)).mono ?_; rintro e w2 ⟨rfl, hk2⟩))
      refine ⟨trivial, ?_⟩
      have hk12 := hk1.trans hk2
      have hb2 : w2.heap[w.heap.size]? = some (.cells #[.bool false] 4 (0, 0)) := (hk12.block _ (by simp) (fun x => x)).trans hcellw
      have d1 : w2.cell? ⟨w.heap.size, 0, none⟩ = some (.bool false) := by rw [Lib.cell_of_heap hb2]; rfl
      have f1 : w2.frozen? ⟨w.heap.size, 0, none⟩ = false := Lib.frozen_of_heap hb2 0
      gi_wp2
      refine fin _ false _ rfl (one_setCell hb2) ?_ ((((alloc_keep w _).trans hk12).below (fun _ h => h)).setCell (Nat.le_refl _) _)
      have : decide ((bl s).getLast? = some 93) = false := by rw [decide_eq_false_iff_not, hlast, hq]; simp
      rw [domP, if_pos (hhd.2 hp), this, Bool.false_and]
    | true =>
      have c59 : ∀ w, Calls Tryz.prog 55 #[.string s, .string ⟨#[93]⟩] w fun e w' => e = .returned (.bool true) ∧ Keep (fun _ => False) w w' := fun w => hq ▸ suf_calls s ⟨#[93]⟩ hs w
      have h2 : 2 ≤ s.size := by
        have h1 := hhd.2 hp
        have h2 := hlast.2 hq
        rw [← bl_length]
        match hb : bl s with
        | [] => rw [hb] at h1; cases h1
        | [c] => rw [hb] at h1 h2; simp at h1 h2; omega
        | _ :: _ :: _ => simp
      have hs' := hs
      simp only [big] at hs'
      have hwr : wrap64 ((s.size : Int) - 1) = (s.size : Int) - 1 := by unfold wrap64; omega
      have hlo : (1 : Int) ≤ (s.size : Int) - 1 := by omega
      have hhi : (s.size : Int) - 1 ≤ (s.size : Int) := by omega
      have hto : ((s.size : Int) - 1).toNat = s.size - 1 := by omega
      have hb59 : ∀ w2, Keep (fun _ => False) (w.alloc (.cells #[.bool false] 4)) w2 → Gnd ⟨hid, [], Gr, [], pub, ph⟩ w2 := fun w2 hk => hg.keep hX fun k hk' => ((((alloc_keep w _).trans hk).below (fun _ h => h)).block k hk')
      gi_wp2_with (first
        | (refine ⟨trivial, ?_⟩; gi_at_call 35; refine (callsIn_wide.2 (c39 _)).mono ?_; rintro e w1 ⟨rfl, hk1⟩)
        | (refine ⟨trivial, ?_⟩; gi_at_call 55; refine (callsIn_wide.2 (c59 _)).mono ?_; rintro e w2 ⟨rfl, hk2⟩))
      have hk12 := hk1.trans hk2
      refine ⟨trivial, ?_⟩
      gi_at_call 56
      refine (callsIn_wide.2 (lit_calls (s.extract 1 (s.size - 1)) (by rw [ByteArray.size_extract]; simp only [big]; omega) (hid := hid) (pub := pub) (ph := ph) (fun b hb => by have := hX b hb; have := hk12.size; simp at this; omega) (hb59 _ hk12))).mono ?_
      rintro e w3 ⟨rfl, hk3⟩
      have hk13 := hk12.trans hk3
      have hb2 : w3.heap[w.heap.size]? = some (.cells #[.bool false] 4 (0, 0)) := (hk13.block _ (by simp) (fun x => x)).trans hcellw
      have d1 : w3.cell? ⟨w.heap.size, 0, none⟩ = some (.bool false) := by rw [Lib.cell_of_heap hb2]; rfl
      have f1 : w3.frozen? ⟨w.heap.size, 0, none⟩ = false := Lib.frozen_of_heap hb2 0
      gi_wp2
      refine fin _ _ _ rfl (one_setCell hb2) ?_ ((((alloc_keep w _).trans hk13).below (fun _ h => h)).setCell (Nat.le_refl _) _)
      have : decide ((bl s).getLast? = some 93) = true := by rw [decide_eq_true_iff, hlast, hq]
      rw [domP, if_pos (hhd.2 hp), this, Bool.true_and, bl_extract]
      congr 1
      rw [List.dropLast_eq_take, List.length_drop, bl_length, List.take_drop]
      congr 2
      omega
  | false => exact absurd hp (by rw [hpp]; simp)
attribute [local go_sem] Oper.semAt_some
def domAssign : Code := Code.region 4 #[{ dst := some 3, op := Op.assign (Operand.tmp 18), type := 9, pos := "addr.go:81", after := #[], guard := none }] false
def domBody : Code :=
  Code.block 1
    ((Code.region 5
          #[{ dst := some 19, op := Op.move (Operand.tmp 3), type := 9, pos := "addr.go:82", after := #[], guard := none },
            { dst := some 20, op := Op.call { callee := Callee.value (Operand.func 58), args := #[Operand.tmp 19], argTypes := #[9] }, type := 4, pos := "addr.go:82", after := #[{ on := 0, ground := Ground.data }], guard := none },
            { dst := some 21, op := Op.unOp UnOp.not 4 (Operand.tmp 20), type := 4, pos := "addr.go:82", after := #[{ on := 1, ground := Ground.data }], guard := none }]
          false).seq
      (Code.cond (Operand.tmp 21)
        ((Code.region 6 #[{ dst := none, op := Op.store 4 (Operand.tmp 2) (Operand.const (Value.bool false)), type := 0, pos := "addr.go:83", after := #[], guard := none }] false).seq Code.ret)
        Code.skip))
def domTmps (s : ByteArray) (B n1 : Nat) : Array Value :=
  #[Value.string s, undef, Value.pointer (some { block := B, off := 0 }), undef, Value.string s, Value.bool false, undef, undef, undef, undef, undef, undef, undef, undef, undef, undef, Value.string s,
    Value.func (Fn.func 139) #[] #[Value.pointer (some { block := n1 + 1, off := 0 }), Value.pointer (some { block := n1, off := 0 }), Value.pointer (some { block := n1 + 2, off := 0 })], undef, undef, undef, undef, undef, undef, undef]
def domRec (fn : FuncId) (s : ByteArray) (B n1 : Nat) (st : LoopState) (pend : Option Code) : Loop :=
  { state := st, pending := pend, fn, tmps := domTmps s B n1, params := #[18], assign := domAssign, body := domBody, defers := n1 + 3 }
structure Env (w : World) (n1 : Nat) (rec : Loop) (rest : ByteArray) (W : World) : Prop where
  lt : w.heap.size < n1
  its : Its n1 rest W
  L : W.heap[n1 + 4]? = some (.loop rec)
  K : W.heap[n1 + 3]? = some (.deferred (some []))
  b : W.heap[w.heap.size]? = some (.cells #[.bool false] 4 (0, 0))
  bel : Below w.heap.size w W
theorem Env.drew {w : World} {n1 : Nat} {rec : Loop} {rest : ByteArray} {W : World} (h : Env w n1 rec rest W) : Env w n1 rec rest W.drew := ⟨h.lt, ⟨h.its.s, h.its.sep, h.its.k⟩, h.L, h.K, h.b, h.bel.drew⟩
theorem Env.keep {w : World} {n1 : Nat} {rec : Loop} {rest : ByteArray} {W W' : World} (h : Env w n1 rec rest W) (hk : Keep (fun _ => False) W W') : Env w n1 rec rest W' := by
  have hL := (Array.getElem?_eq_some_iff.1 h.L).1
  have hlt := h.lt
  have g : ∀ k, k ≤ n1 + 4 → W'.heap[k]? = W.heap[k]? := fun k hk' => hk.block k (by omega) (fun x => x)
  exact ⟨h.lt, ⟨(g _ (by omega)).trans h.its.s, (g _ (by omega)).trans h.its.sep, (g _ (by omega)).trans h.its.k⟩, (g _ (by omega)).trans h.L, (g _ (by omega)).trans h.K, (g _ (by omega)).trans h.b,
    h.bel.trans ((hk.below (fun _ h => h)).mono (by omega))⟩
theorem Env.put {w : World} {n1 : Nat} {rec rec' : Loop} {rest : ByteArray} {W : World} (h : Env w n1 rec rest W) : Env w n1 rec' rest (W.putObj (n1 + 4) (.loop rec')) := by
  have hL := (Array.getElem?_eq_some_iff.1 h.L).1
  have hlt := h.lt
  have g : ∀ k, k ≠ n1 + 4 → (W.putObj (n1 + 4) (.loop rec')).heap[k]? = W.heap[k]? := fun k hk => World.putObj_heap_other (by omega)
  exact ⟨h.lt, ⟨(g _ (by omega)).trans h.its.s, (g _ (by omega)).trans h.its.sep, (g _ (by omega)).trans h.its.k⟩, World.putObj_heap_same hL, (g _ (by omega)).trans h.K, (g _ (by omega)).trans h.b,
    h.bel.trans (belowK_b (w := w) (Nat.le_refl _) W _ _ _ (by omega) h.L rfl rfl)⟩
theorem Env.setS {w : World} {n1 : Nat} {rec : Loop} {rest rest' : ByteArray} {W : World} (h : Env w n1 rec rest W) : Env w n1 rec rest' (W.setCell ⟨n1, 0, none⟩ (.string rest')) := by
  have hlt := h.lt
  have g : ∀ k, k ≠ n1 → (W.setCell ⟨n1, 0, none⟩ (.string rest')).heap[k]? = W.heap[k]? := fun k hk => Below.heap_setCell W ⟨n1, 0, none⟩ _ k (by simpa using hk)
  exact ⟨h.lt, ⟨one_setCell h.its.s, (g _ (by omega)).trans h.its.sep, (g _ (by omega)).trans h.its.k⟩, (g _ (by omega)).trans h.L, (g _ (by omega)).trans h.K, (g _ (by omega)).trans h.b, h.bel.setCell (by simp; omega) _⟩
theorem Env.setB {w : World} {n1 : Nat} {rec : Loop} {rest : ByteArray} {W : World} (h : Env w n1 rec rest W) : Env w n1 rec rest (W.setCell ⟨w.heap.size, 0, none⟩ (.bool false)) := by
  have hlt := h.lt
  have g : ∀ k, k ≠ w.heap.size → (W.setCell ⟨w.heap.size, 0, none⟩ (.bool false)).heap[k]? = W.heap[k]? := fun k hk => Below.heap_setCell W ⟨w.heap.size, 0, none⟩ _ k (by simpa using hk)
  exact ⟨h.lt, ⟨(g _ (by omega)).trans h.its.s, (g _ (by omega)).trans h.its.sep, (g _ (by omega)).trans h.its.k⟩, (g _ (by omega)).trans h.L, (g _ (by omega)).trans h.K, one_setCell h.b, h.bel.setCell (by simp) _⟩
set_option maxRecDepth 100000 in
theorem dom_round (m : Nat) (hm : 1 ≤ m) (fn : FuncId) (s : ByteArray) (w : World) (n1 : Nat) (rest x : ByteArray) (hx : x.size ≤ big) (W : World) (hM : Env w n1 (domRec fn s w.heap.size n1 .ready none) rest W) :
    YieldAt Fence.wide m Tryz.prog (n1 + 4) #[.string x] W fun e W' =>
      (isLabel x = true ∧ e = .returned (.bool true) ∧ Env w n1 (domRec fn s w.heap.size n1 .ready none) rest W') ∨ (isLabel x = false ∧ e = .returned (.bool false) ∧ Env w n1 (domRec fn s w.heap.size n1 .done (some .ret)) rest W') := by
  refine ⟨fn, #[Value.string s, undef, Value.pointer (some { block := w.heap.size, off := 0 }), undef, Value.string s, Value.bool false, undef, undef, undef, undef, undef, undef, undef, undef, undef, undef, Value.string s,
    Value.func (Fn.func 139) #[] #[Value.pointer (some { block := n1 + 1, off := 0 }), Value.pointer (some { block := n1, off := 0 }), Value.pointer (some { block := n1 + 2, off := 0 })], .string x, undef, undef, undef, undef, undef, undef], domAssign, domBody,
    by simpa [domRec, domTmps] using run_yield (P := Tryz.prog) (args := #[.string x]) hM.L rfl, ?_⟩
  refine roundIn_of_wpIn trivial ?_
  have hbr := run_beginRound (P := Tryz.prog) hM.L rfl
  have hM2 : Env w n1 { domRec fn s w.heap.size n1 .ready none with state := .busy } rest _ := hM.put
  obtain ⟨W2, hW2⟩ : ∃ W2, W.putObj (n1 + 4) (.loop { domRec fn s w.heap.size n1 .ready none with state := .busy }) = W2 := ⟨_, rfl⟩
  rw [hW2] at hbr hM2
  unfold domAssign
  gi_wp2
  unfold domBody
  cases hl : isLabel x with
  | true =>
    have cl : ∀ w, Calls Tryz.prog 58 #[.string x] w fun e w' => e = .returned (.bool true) ∧ Keep (fun _ => False) w w' := fun w => hl ▸ label_calls x hx w
    gi_wp2_with (refine ⟨trivial, ?_⟩; gi_at_call 58; refine (CallsIn.inRound _ (callsIn_wide.2 (cl _))).mono ?_; rintro e w3 ⟨rfl, hk3⟩)
    have hM3 := hM2.keep hk3
    exact ⟨_, _, run_endRound none hM3.L, .inl ⟨hl, rfl, hM3.put⟩⟩
  | false =>
    have cl : ∀ w, Calls Tryz.prog 58 #[.string x] w fun e w' => e = .returned (.bool false) ∧ Keep (fun _ => False) w w' := fun w => hl ▸ label_calls x hx w
    gi_wp2_with (refine ⟨trivial, ?_⟩; gi_at_call 58; refine (CallsIn.inRound _ (callsIn_wide.2 (cl _))).mono ?_; rintro e w3 ⟨rfl, hk3⟩; have hM3 := hM2.keep hk3; have d1 : w3.cell? ⟨w.heap.size, 0, none⟩ = some (.bool false) := (by rw [Lib.cell_of_heap hM3.b]; rfl); have f1 : w3.frozen? ⟨w.heap.size, 0, none⟩ = false := Lib.frozen_of_heap hM3.b 0)
    exact ⟨_, _, run_endRound (some .ret) hM3.setB.L, .inr ⟨hl, rfl, hM3.setB.put⟩⟩
theorem spl_hit {s : ByteArray} {i : Nat} (h : Lib.indexByte s.data.toList 46 = i) : spl 46 (bl s) [] = bl (s.extract 0 i) :: spl 46 (bl (s.extract (i + 1) s.size)) [] := by
  have h1 := splU_nums 46 s.data.toList []
  rw [splU_hit 46 _ [] i h, List.map_cons, splU_nums] at h1
  rw [show spl 46 (bl s) [] = spl ((46 : UInt8).toNat : Int) (nums s.data.toList) (nums []) from rfl, ← h1, bl_extract, bl_extract]
  congr 1
  · simp [nums, bl, List.map_take]
  · congr 1
    rw [List.take_of_length_le (by rw [bl_length]; exact Nat.le_refl _)]
    simp [nums, bl, List.map_drop]
theorem spl_miss {s : ByteArray} (h : Lib.indexByte s.data.toList 46 = -1) : spl 46 (bl s) [] = [bl s] := by
  have h1 := splU_nums 46 s.data.toList []
  rw [splU_miss 46 _ [] h] at h1
  rw [show spl 46 (bl s) [] = spl ((46 : UInt8).toNat : Int) (nums s.data.toList) (nums []) from rfl, ← h1]
  rfl
theorem dom_res (w : World) (tmps : Array Value) (b : Bool) (W : World) (ht : tmps.getD 2 undef = .pointer (some ⟨w.heap.size, 0, none⟩)) (hc : W.heap[w.heap.size]? = some (.cells #[.bool b] 4 (0, 0))) : (results Tryz.f34 tmps).run Tryz.prog W = .ok (.bool b) W := by
  have ht' : tmps[2]?.getD undef = .pointer (some ⟨w.heap.size, 0, none⟩) := by simpa [Array.getD_eq_getD_getElem?] using ht
  have hc' : W.cell? ⟨w.heap.size, 0, none⟩ = some (.bool b) := by rw [Lib.cell_of_heap hc]; rfl
  simp [results, Tryz.results34, ht', go_sem, hc']
theorem dom_fin (s : ByteArray) (w : World) (n1 : Nat) (hlt : w.heap.size < n1) (tmps : Array Value) (b : Bool) (W : World) (ht : tmps.getD 2 undef = .pointer (some ⟨w.heap.size, 0, none⟩)) (hc : W.heap[w.heap.size]? = some (.cells #[.bool b] 4 (0, 0))) (hb : b = domP (bl s)) (hK : W.heap[n1 + 3]? = some (.deferred (some []))) (hbel : Below w.heap.size w W) :
    bodyPostM Fence.wide 4 Tryz.prog Tryz.f34 (fun e w' => e = .returned (.bool (domP (bl s))) ∧ Keep (fun _ => False) w w') .ret { tmps := tmps, defers := [{ target := .collected (n1 + 3), args := #[] }] } W := by
  subst hb
  have hc2 : (W.putObj (n1 + 3) (.deferred none)).heap[w.heap.size]? = some (.cells #[.bool (domP (bl s))] 4 (0, 0)) := (World.putObj_heap_other (by omega)).trans hc
  refine ⟨by simp, .inl ⟨_, _, rfl, run_takeDeferred hK, ?_⟩⟩
  refine ⟨_, dom_res w tmps _ _ ht hc2, rfl, Below.keep' ?_⟩
  exact hbel.trans (belowK_b (w := w) (Nat.le_refl _) W (n1 + 3) _ _ (by omega) hK rfl rfl)
set_option maxRecDepth 100000 in
theorem dom_labels (s : ByteArray) (hs : s.size ≤ big) (w : World) (hp : pre [91] (bl s) = false) : Calls Tryz.prog 34 #[.string s] w fun e w' => e = .returned (.bool (domP (bl s))) ∧ Keep (fun _ => False) w w' := by
  refine (callsIn_wide (n := 4)).1 ?_
  refine callsIn_of_wp_marks Tryz.func34 rfl trivial ?_ rfl
  simp only [Tryz.ntmps34, List.size_toArray, List.length_cons, List.length_nil, Nat.reduceAdd, Nat.reduceSub, Array.replicate_succ, Array.replicate_zero, List.push_toArray, List.append_toArray, List.nil_append, List.cons_append]
  have hcellw : (w.alloc (.cells #[.bool false] 4)).heap[w.heap.size]? = some (.cells #[.bool false] 4 (0, 0)) := World.alloc_heap_new w _
  have res := dom_res w
  have hhd : ¬ (bl s).head? = some 91 := by
    intro h
    have : pre [91] (bl s) = true := by
      cases hb : bl s with
      | nil => rw [hb] at h; cases h
      | cons c l => rw [hb] at h; simp at h; subst h; simp [pre]
    rw [hp] at this; cases this
  have hdom : domP (bl s) = ((spl 46 (bl s) []).all labL && decide ((s.size : Int) ≤ 255)) := by
    rw [domP, if_neg hhd, bl_length]; congr 1; rw [decide_eq_decide]; omega
  have c39 : ∀ w, Calls Tryz.prog 35 #[.string s] w fun e w' => e = .returned (.bool false) ∧ Keep (fun _ => False) w w' := fun w => hp ▸ lead_calls s w
  have hs' := hs
  simp only [big] at hs'
  gi_wp2_with (refine ⟨trivial, ?_⟩; gi_at_call 35; refine (callsIn_wide.2 (c39 _)).mono ?_; rintro e w1 ⟨rfl, hk1⟩)
  refine ⟨trivial, ?_⟩
  gi_at_call 57
  refine (callsIn_wide.2 (its_calls _ _)).mono ?_
  rintro e w' ⟨rfl, hw⟩
  have hlt : w.heap.size < w1.heap.size := by have := hk1.size; simp at this; omega
  gi_wp2
  refine wpIn_rangeFunc ?_
  intro fn hfn
  have hb1 : w1.heap[w.heap.size]? = some (.cells #[.bool false] 4 (0, 0)) := (hk1.block _ (by simp) (fun x => x)).trans hcellw
  have hbel1 : Below w.heap.size w w1 := (((alloc_keep w _).trans hk1).below (fun _ h => h))
  have hs0 : w'.heap.size = w1.heap.size + 3 := by rw [hw]; simp
  have hits : Its w1.heap.size s w' := by
    rw [hw]
    refine ⟨?_, ?_, ?_⟩
    · exact (Below.heap_alloc _ _ _ (by simp; omega)).trans ((Below.heap_alloc _ _ _ (by simp)).trans (World.alloc_heap_new w1 _))
    · refine (Below.heap_alloc _ _ _ (by simp)).trans ?_
      have := World.alloc_heap_new (w1.alloc (.cells #[.string s] 9)) (.cells #[.string ⟨#[46]⟩] 9)
      rwa [World.size_alloc] at this
    · have := World.alloc_heap_new ((w1.alloc (.cells #[.string s] 9)).alloc (.cells #[.string ⟨#[46]⟩] 9)) (.cells #[.int .i64 0] 3)
      rwa [World.size_alloc, World.size_alloc] at this
  have hkeep : ∀ k, k < w1.heap.size → w'.heap[k]? = w1.heap[k]? := fun k hk => by
    rw [hw]
    exact (Below.heap_alloc _ _ _ (by simp; omega)).trans ((Below.heap_alloc _ _ _ (by simp; omega)).trans (Below.heap_alloc _ _ _ hk))
  have hbel' : Below w.heap.size w w' := by
    rw [hw]
    exact ((hbel1.alloc (by omega) _).alloc (by simp; omega) _).alloc (by simp; omega) _
  rw [← hw]
  obtain ⟨W1, hW1⟩ : ∃ W1, (w'.alloc (.deferred (some []))).alloc (.loop (domRec fn s w.heap.size w1.heap.size .ready none)) = W1 := ⟨_, rfl⟩
  have hM : Env w w1.heap.size (domRec fn s w.heap.size w1.heap.size .ready none) s W1 := by
    have g : ∀ k, k < w'.heap.size → W1.heap[k]? = w'.heap[k]? := fun k hk => by
      rw [← hW1]
      exact (Below.heap_alloc _ _ _ (by simp; omega)).trans (Below.heap_alloc _ _ _ hk)
    refine ⟨hlt, ⟨(g _ (by omega)).trans hits.s, (g _ (by omega)).trans hits.sep, (g _ (by omega)).trans hits.k⟩, ?_, ?_, (g _ (by omega)).trans ((hkeep _ hlt).trans hb1), ?_⟩
    · rw [← hW1]
      have := World.alloc_heap_new (w'.alloc (.deferred (some []))) (.loop (domRec fn s w.heap.size w1.heap.size .ready none))
      rwa [World.size_alloc, hs0] at this
    · rw [← hW1, ← hs0]; exact (Below.heap_alloc _ _ _ (by simp)).trans (World.alloc_heap_new w' _)
    · rw [← hW1]; exact (hbel'.alloc (by omega) _).alloc (by simp; omega) _
  refine ⟨w1.heap.size + 4, [{ target := .collected (w1.heap.size + 3), args := #[] }], W1, { target := .fn (.func 139) #[.pointer (some ⟨w1.heap.size + 1, 0, none⟩), .pointer (some ⟨w1.heap.size, 0, none⟩), .pointer (some ⟨w1.heap.size + 2, 0, none⟩)], args := #[.func (.yield (w1.heap.size + 4)) #[] #[]] }, W1, 139,
    #[.func (.yield (w1.heap.size + 4)) #[] #[], .pointer (some ⟨w1.heap.size + 1, 0, none⟩), .pointer (some ⟨w1.heap.size, 0, none⟩), .pointer (some ⟨w1.heap.size + 2, 0, none⟩)], W1, ?_, ?_, fun _ _ => trivial, ?_, fun _ => by omega, ?_⟩
  · rw [← hW1]
    have := run_enterLoop_outer (P := Tryz.prog) (w := w') fn (domTmps s w.heap.size w1.heap.size) #[18] domAssign domBody
    rw [hs0] at this
    exact this
  · simp [resolve, go_sem]
  · simp [invoke, go_sem]
  · have hround := fun rest x hx W hM => dom_round 2 (by omega) fn s w w1.heap.size rest x hx W hM
    refine (seq_in 3 (by omega) (w1.heap.size + 4) w1.heap.size
      (fun rest W => Env w w1.heap.size (domRec fn s w.heap.size w1.heap.size .ready none) rest W ∧ (spl 46 (bl rest) []).all labL = (spl 46 (bl s) []).all labL ∧ rest.size ≤ s.size)
      (fun W => ∃ rest, Env w w1.heap.size (domRec fn s w.heap.size w1.heap.size .done (some .ret)) rest W ∧ (spl 46 (bl s) []).all labL = false)
      (fun W => ∃ rest, (Env w w1.heap.size (domRec fn s w.heap.size w1.heap.size .ready none) rest W ∧ (spl 46 (bl s) []).all labL = true) ∨ (Env w w1.heap.size (domRec fn s w.heap.size w1.heap.size .done (some .ret)) rest W ∧ (spl 46 (bl s) []).all labL = false))
      (fun rest W h => ⟨h.1.its, by have := h.2.2; omega⟩) (fun rest W h => ⟨h.1.drew, h.2⟩) ?_ ?_ s W1 ⟨hM, rfl, Nat.le_refl _⟩).mono ?_
    · intro r i W h hi
      have hlen : i < r.size := by
        have := (Lib.indexByte_some hi).1
        have := (List.getElem?_eq_some_iff.1 this).1
        rw [Array.length_toList] at this; exact this
      have hr := h.2.2
      obtain ⟨fn', tmps, assign, body, hy, hR⟩ := hround r (r.extract 0 i) (by rw [ByteArray.size_extract]; simp only [big]; omega) W h.1
      refine ⟨fn', tmps, assign, body, hy, hR.mono ?_⟩
      have hlaw := h.2.1
      rw [spl_hit hi, List.all_cons, ← isLabel_eq] at hlaw
      rintro e W' (⟨hl, rfl, hE⟩ | ⟨hl, rfl, hE⟩)
      · refine .inl ⟨rfl, hE.its, hE.setS, ?_, ?_⟩
        · rw [hl, Bool.true_and] at hlaw; exact hlaw
        · rw [ByteArray.size_extract]; omega
      · rw [hl, Bool.false_and] at hlaw
        exact .inr ⟨rfl, r, hE, hlaw.symm⟩
    · intro r W h hi
      have hr := h.2.2
      obtain ⟨fn', tmps, assign, body, hy, hR⟩ := hround r r (by simp only [big]; omega) W h.1
      refine ⟨fn', tmps, assign, body, hy, hR.mono ?_⟩
      have hlaw := h.2.1
      rw [spl_miss hi, List.all_cons, List.all_nil, Bool.and_true, ← isLabel_eq] at hlaw
      rintro e W' (⟨hl, rfl, hE⟩ | ⟨hl, rfl, hE⟩)
      · exact ⟨⟨_, rfl⟩, r, .inl ⟨hE, by rw [← hlaw, hl]⟩⟩
      · exact ⟨⟨_, rfl⟩, r, .inr ⟨hE, by rw [← hlaw, hl]⟩⟩
    rintro e W2 ⟨⟨v, rfl⟩, hor⟩
    have hor2 : ∃ rest, (Env w w1.heap.size (domRec fn s w.heap.size w1.heap.size .ready none) rest W2 ∧ (spl 46 (bl s) []).all labL = true) ∨ (Env w w1.heap.size (domRec fn s w.heap.size w1.heap.size .done (some .ret)) rest W2 ∧ (spl 46 (bl s) []).all labL = false) := by
      rcases hor with h | ⟨r, h1, h2⟩
      · exact h
      · exact ⟨r, .inr ⟨h1, h2⟩⟩
    obtain ⟨rest, ⟨hE, hall⟩ | ⟨hE, hall⟩⟩ := hor2
    · have hend := run_endLoop (P := Tryz.prog) hE.L (by simp [domRec])
      have hE3 : Env w w1.heap.size { domRec fn s w.heap.size w1.heap.size .ready none with state := .exhausted } rest _ := hE.put
      obtain ⟨W3, hW3⟩ : ∃ W3, W2.putObj (w1.heap.size + 4) (.loop { domRec fn s w.heap.size w1.heap.size .ready none with state := .exhausted }) = W3 := ⟨_, rfl⟩
      rw [hW3] at hend hE3
      refine ⟨none, W3, hend, ?_⟩
      have d1 : W3.cell? ⟨w.heap.size, 0, none⟩ = some (.bool false) := by rw [Lib.cell_of_heap hE3.b]; rfl
      have f1 : W3.frozen? ⟨w.heap.size, 0, none⟩ = false := Lib.frozen_of_heap hE3.b 0
      gi_wp2
      have g : ∀ k, k ≠ w.heap.size → (W3.setCell ⟨w.heap.size, 0, none⟩ (.bool (decide ((s.size : Int) ≤ 255)))).heap[k]? = W3.heap[k]? := fun k hk => Below.heap_setCell W3 ⟨w.heap.size, 0, none⟩ _ k (by simpa using hk)
      exact dom_fin s w w1.heap.size hlt _ _ _ rfl (one_setCell hE3.b) (by rw [hdom, hall, Bool.true_and]) ((g _ (by omega)).trans hE3.K) (hE3.bel.setCell (by simp) _)
    · have hend := run_endLoop (P := Tryz.prog) hE.L (by simp [domRec])
      have hE3 : Env w w1.heap.size { domRec fn s w.heap.size w1.heap.size .done (some .ret) with state := .exhausted } rest _ := hE.put
      obtain ⟨W3, hW3⟩ : ∃ W3, W2.putObj (w1.heap.size + 4) (.loop { domRec fn s w.heap.size w1.heap.size .done (some .ret) with state := .exhausted }) = W3 := ⟨_, rfl⟩
      rw [hW3] at hend hE3
      refine ⟨some .ret, W3, hend, ?_⟩
      gi_wp2
      exact dom_fin s w w1.heap.size hlt _ _ _ rfl hE3.b (by rw [hdom, hall, Bool.false_and]) hE3.K hE3.bel
def sDom : Sense := pureS fun xs K => ∃ s, xs = [.one (.str s)] ∧ s.size ≤ big ∧ K (.ret (.one (.bool (domP (bl s)))))
theorem okDom : SenseOK Gr Tryz.prog 34 sDom := by
  intro X w lk os xs vs K hO hl0 hX hXG hgr has hs
  obtain ⟨rfl, s, rfl, hb, hk⟩ := hs
  obtain rfl : lk = [] := List.length_eq_zero_iff.1 (by rw [hO.lsz]; rfl)
  obtain ⟨v, m, rfl, h1, h2⟩ := has.cons_inv
  obtain rfl := h2.nil_inv
  rw [show v = .string s from h1]
  have hgr' : Gnd ⟨X.hid, [], Gr, [], X.pub, X.ph⟩ w := by
    obtain ⟨hid, l0, gr, df, pub, ph⟩ := X
    obtain rfl : gr = Gr := hXG
    exact hgr
  have key : Calls Tryz.prog 34 #[.string s] w fun e w' => e = .returned (.bool (domP (bl s))) ∧ Keep (fun _ => False) w w' := by
    cases hp : pre [91] (bl s) with
    | true => exact dom_lit s hb hp (hid := X.hid) (pub := X.pub) (ph := X.ph) hX hgr'
    | false => exact dom_labels s hb w hp
  refine key.mono ?_
  rintro e w' ⟨rfl, hkp⟩
  exact ⟨[], [], _, hk, ⟨rfl, by simp, by simp, by simp, by simp, by rw [hl0]; exact Nat.le_refl _, by simp⟩, ⟨hkp.os, hkp.tape, hkp.output, hkp.size, fun k h1 _ => hkp.block k h1 (fun x => x)⟩, by simp, _, rfl, rfl⟩
end Go.Proofs.YtilagaapfbfkkaaGreatDoor.Ab
namespace Go.Proofs.YtilagaapfbfkkaaGreatDoor.Ab
open Go Go.RowKit Go.Proofs.YtilagaapfbfkkaaGreatDoorW.PrintWords
variable {X : Cx} {P : Program} {T : Tab} {Γ : Sems}
structure CaughtOK (P : Program) (fc : FuncId) (tw : TypeId) : Prop where
  fn : ∃ fn, P.funcs[fc]? = some fn ∧ fn.body.isSome = true ∧ fn.name ≠ "runtime.NumGoroutine"
  idle : ∀ (p : Addr) (w : World), CallsD P fc #[.pointer (some p)] .returning w fun e u' w' => e = .returned (.tuple #[]) ∧ u' = .returning ∧ w' = w
  caught : ∀ (b : Nat) (k : IntKind) (n : Int) (v0 : Value) (e0 : TypeId) (w : World), w.heap[b]? = some (.cells #[v0] e0 (0, 0)) →
    CallsD P fc #[.pointer (some ⟨b, 0, none⟩)] (.panicking (panE tw k n)) w fun e u' w' => e = .returned (.tuple #[]) ∧ u' = .panicking [{ v := .iface tw (.agg #[.int k n]), recovered := true }] ∧
      w' = (w.alloc (.cells #[.int k n] tw)).setCell ⟨b, 0, none⟩ (.int k n)
def finK (T : Tab) (fn : Func) (σ : St) (K : List Ob → Out → Prop) : Prop :=
  resK T σ fn.results.toList fun r => gc 0 [0] ⟨[outOf r], σ.objs⟩ fun σ' => match σ'.tmps with
    | [v] => K σ'.objs (.ret v)
    | _ => False
def evFnG (T : Tab) (Γ : Sems) (L : Nat → List Nat) (fn : Func) (pre post : Code) (te : Tmp) (tw : TypeId) (as_ : List V) (K : List Ob → Out → Prop) : Prop :=
  evCode T Γ L 0 pre ⟨padT fn.ntmps as_, []⟩ fun e σ => match e with
    | .normal => match opd σ (.tmp te) with
      | .one (.ref i 0) => match nth σ.objs i with
        | some (.box _ [_]) => evCode T Γ L (len σ.objs) post σ fun e σ' => match e with
          | .normal | .ret => finK T fn σ' K
          | .panic (.ifa t k n) => t = tw ∧ (match nth σ'.objs i with
            | some (.box e [_]) => setOb σ' i (.box e [.int k n]) fun σ'' => finK T fn σ'' K
            | _ => False)
          | _ => False
        | _ => False
      | _ => False
    | _ => False
theorem Rel.rebase {w : World} {lk : List Value} {σ : St} {a a' : Act} (h : Rel X w lk σ a) (ht : a'.tmps = a.tmps) (d : List Deferred) (hd : a'.defers = d) : Rel ⟨X.hid, lk, X.gr, d, X.pub, X.ph⟩ w lk σ a' :=
  ⟨by rw [ht]; exact h.tsz, fun t x hx => by rw [ht]; exact h.tm t x hx, h.lsz, h.ob, h.dj, h.lt, h.nx, Nat.le_refl _, fun p v0 o hp _ _ => hp, hd⟩
theorem Rel.unbase {w : World} {lk lk0 : List Value} {σ : St} {a : Act} {d : List Deferred} (hX : X.l0 = []) (h : Rel ⟨X.hid, lk0, X.gr, d, X.pub, X.ph⟩ w lk σ a) {a' : Act} (ht : a'.tmps = a.tmps) (hd : a'.defers = X.df) : Rel X w lk σ a' :=
  ⟨by rw [ht]; exact h.tsz, fun t x hx => by rw [ht]; exact h.tm t x hx, h.lsz, h.ob, h.dj, h.lt, h.nx, by rw [hX]; exact Nat.zero_le _, fun p v0 o hp _ _ => by rw [hX] at hp; simp at hp, hd⟩
theorem Inv.turn {M : Nat → Prop} {w0 w : World} {lk l0 : List Value} {d : List Deferred} (h : Inv X M w0 w lk) : Inv ⟨X.hid, l0, X.gr, d, X.pub, X.ph⟩ M w0 w lk := ⟨h.keep, h.news, h.xl, h.xm, h.gr⟩
theorem Inv.unturn {M : Nat → Prop} {w0 w : World} {lk l0 : List Value} {d : List Deferred} (h : Inv ⟨X.hid, l0, X.gr, d, X.pub, X.ph⟩ M w0 w lk) : Inv X M w0 w lk := ⟨h.keep, h.news, h.xl, h.xm, h.gr⟩
theorem finK_sound (hT : TabOK P T) {fn : Func} {w0 w' : World} {lk' : List Value} {σ : St} {a : Act} {K : List Ob → Out → Prop} {ro : Bool} (h : finK T fn σ K) (hX : X.l0 = []) (hdf : X.df = []) (hr : Rel X w' lk' σ a) (hi : Inv X (fun _ => False) w0 w' lk') :
    ∃ v, (results fn a.tmps).run P w' = .ok v w' ∧ Post X w0 [] ro K (.returned v) w' := by
  unfold finK at h
  obtain ⟨es, v, hq2, hrun, hv⟩ := results_sound hT hr h
  have hrv : Rel X w' lk' ⟨[outOf es], σ.objs⟩ { tmps := #[v], defers := X.df } := ORel.toR hr.toO rfl (fun t x hx => by
    cases t with
    | zero => simp at hx; subst hx; exact hv
    | succ t => simp at hx) rfl
  obtain ⟨σ2, lk2, hq3, hr3, hi3⟩ := gc_sound hq2 hrv hi (by rw [hX]; rfl)
  obtain ⟨ts, os2⟩ := σ2
  match ts, hq3, hr3 with
  | [x], hq3, hr3 =>
    refine ⟨v, hrun, os2, lk2, .ret x, hq3, hr3.toO, ⟨hi3.keep.os, hi3.keep.tape, hi3.keep.output, hi3.keep.size, fun k hk hn => hi3.keep.block k hk (fun x => x)⟩, fun u hu b hb => ?_, v, rfl, hr3.tm 0 x rfl⟩
    rcases hi3.news u hu b hb with h1 | h1
    · exact h1.elim
    · exact .inr h1
  | [], hq3, _ => exact hq3.elim
  | _ :: _ :: _, hq3, _ => exact hq3.elim
theorem SenseOK.guard {G : World → Prop} (hT : TabOK P T) (hΓ : SemsOK G P Γ) {f : FuncId} {fn : Func} (L : Nat → List Nat) (s : Sense) (hf : P.funcs[f]? = some fn) {pre post : Code} {id : Nat} {te : Tmp} {fc : FuncId} {tw : TypeId} {ty : TypeId} {pos : String} {after : Array Edge} {tys : Array TypeId}
    (hb : fn.body = some (.seq pre (.seq (.region id #[⟨none, .defer ⟨.value (.func fc), #[.tmp te], tys⟩, ty, pos, after, none⟩] false) post))) (hc : CaughtOK P fc tw) (hnp : noDraw pre = true) (hn : noDraw post = true)
    (h : ∀ os as_ K, s.f os as_ K → os = [] ∧ evFnG T Γ L fn pre post te tw as_ K) : SenseOK G P f s := by
  refine SenseOK.mk fun X w lk os as_ vs K hdf hO hl0 hX hXG hgr has hs => ?_
  subst hXG
  obtain ⟨rfl, hev⟩ := h os as_ K hs
  obtain rfl : lk = [] := List.length_eq_zero_iff.1 (by rw [hO.lsz]; rfl)
  unfold evFnG at hev
  refine calls_of_wp_defers hf hb ?_
  have hal := has.length
  have hr : Rel X w [] ⟨padT fn.ntmps as_, []⟩ { tmps := vs.toArray ++ Array.replicate (fn.ntmps - vs.toArray.size) undef, defers := [] } := by
    refine ORel.toR hO ?_ (fun t x hx => ?_) hdf.symm
    · simp [padT, tops_length, len_length, hal]
    · simp only [padT] at hx
      rcases Nat.lt_or_ge t as_.length with hlt | hge
      · rw [List.getElem?_append_left hlt] at hx
        obtain ⟨u, hu, hru⟩ := has.get hx
        have htl : t < vs.length := (List.getElem?_eq_some_iff.1 hu).1
        have : (vs.toArray ++ Array.replicate (fn.ntmps - vs.toArray.size) undef).getD t undef = u := by
          rw [Array.getD_eq_getD_getElem?, Array.getElem?_append_left (by simpa using htl)]
          simp [hu]
        rw [this]; exact hru
      · rw [List.getElem?_append_right hge] at hx
        rw [tops_get _ _ _ hx]; trivial
  have hi : Inv X (fun _ => False) w w [] := ⟨Keep.refl _ _, fun v hv => by simp at hv, hX, fun b hb h => h, hgr⟩
  refine wp_seq (evCode_sound (M := fun _ => False) (w0 := w) hT hΓ (by rw [hl0]; rfl) pre hev hr hi ?_ (.inl hnp))
  intro e σ1 a1 w1 lk1 ex hq he hr1 hi1
  cases e with
  | exit i => exact hq.elim
  | ret => exact hq.elim
  | panic c => exact hq.elim
  | normal =>
  simp only [exOf, Option.some.injEq] at he
  subst he
  simp only at hq
  split at hq
  · rename_i i hio
    rw [nth_get] at hq
    split at hq
    · rename_i e0 c0 hbox
      have hte := opd_rep hr1 (.tmp te)
      rw [hio] at hte
      obtain ⟨b, hlb, hpe⟩ := hte
      show Code.wp P _ _ _ _
      refine wp_seq (wp_region ?_)
      have hpe' : a1.eval (.tmp te) = .pointer (some ⟨b, 0, none⟩) := hpe
      have hfe : a1.eval (.func fc) = .func (.func fc) #[] #[] := rfl
      obtain ⟨fnc, hfc1, hfc2, hfc3⟩ := hc.fn
      have hinv : ∀ w', (invoke (.fn (.func fc) #[]) #[.pointer (some ⟨b, 0, none⟩)]).run P w' = .ok (.enter fc #[.pointer (some ⟨b, 0, none⟩)]) w' := fun w' => by
        have h1 : (#[Value.pointer (some ⟨b, 0, none⟩)] : Array Value) ++ #[] = #[Value.pointer (some ⟨b, 0, none⟩)] := by simp
        simp only [invoke, h1]
        exact run_callFunc_enter hfc1 hfc2 hfc3 _ _
      have hstep : Code.wp P post (bodyPostD P fn (Post X w [] s.ro K)) { tmps := a1.tmps, defers := { target := .fn (.func fc) #[], args := #[.pointer (some ⟨b, 0, none⟩)] } :: a1.defers } w1 →
          wpOps P #[⟨none, .defer ⟨.value (.func fc), #[.tmp te], tys⟩, ty, pos, after, none⟩] (Exit.then (Code.wp P post (bodyPostD P fn (Post X w [] s.ro K))) (bodyPostD P fn (Post X w [] s.ro K))) [0] a1 w1 := by
        intro hcw
        simp [wpOps, Region.wanted, Oper.wp, execOp, resolve, Deferred.ofValue, hpe', Act.put, Exit.then, Oper.upon, hfe, hcw]
      refine hstep ?_
      have hdf1 : a1.defers = [] := hr1.df.trans hdf
      rw [hdf1]
      generalize hd : ({ target := .fn (.func fc) #[], args := #[.pointer (some ⟨b, 0, none⟩)] } : Deferred) = d
      refine evCode_sound (X := ⟨X.hid, lk1, X.gr, [d], X.pub, X.ph⟩) (M := fun _ => False) (w0 := w) hT hΓ (by show lk1.length = len σ1.objs; rw [len_length]; exact hr1.lsz) post hq (hr1.rebase (a' := { tmps := a1.tmps, defers := [d] }) rfl [d] rfl) hi1.turn ?_ (.inl hn)
      intro e σ2 a2 w2 lk2 ex hq2 he2 hr2 hi2
      have hlk2 : ∀ e' c', σ2.objs[i]? = some (.box e' c') → lk2[i]? = some (.pointer (some ⟨b, 0, none⟩)) := fun e' c' ho => hr2.kp i _ _ hlb ho rfl
      have hdf2 : a2.defers = [d] := hr2.df
      have key : finK T fn σ2 K → Leaves P fn a2.tmps (Post X w [] s.ro K) a2.defers .returning w2 := by
        intro hk
        rw [hdf2, ← hd]
        refine leaves_cons (f := fc) (args := #[.pointer (some ⟨b, 0, none⟩)]) (by simp) (hinv w2) ((hc.idle _ w2).mono ?_)
        rintro e u' w' ⟨rfl, rfl, rfl⟩
        simp only [settle, Leaves]
        exact finK_sound (a := { tmps := a2.tmps, defers := X.df }) hT hk hl0 hdf (hr2.unbase hl0 rfl rfl) hi2.unturn
      cases e with
      | exit i => exact hq2.elim
      | ret => simp only [exOf, Option.some.injEq] at he2; subst he2; exact key hq2
      | normal => simp only [exOf, Option.some.injEq] at he2; subst he2; exact key hq2
      | panic c =>
      obtain ⟨t, k, n, rfl⟩ : ∃ t k n, c = .ifa t k n := by cases c <;> first | exact ⟨_, _, _, rfl⟩ | exact hq2.elim
      simp only [exOf, Option.some.injEq] at he2
      subst he2
      obtain ⟨rfl, hq2⟩ := hq2
      rw [nth_get] at hq2
      split at hq2
      · rename_i e2 c2 hbox2
        rw [setOb_iff] at hq2
        have hl2 := hlk2 _ _ hbox2
        obtain ⟨b2, cur, hb2, hh2, hcur⟩ := hr2.ob i _ _ hbox2 hl2
        obtain rfl : b = b2 := by simpa using hb2
        obtain ⟨v0, m0, hv0, hc0, hm0⟩ := hcur.cons_inv
        obtain rfl : m0 = [] := hm0.nil_inv
        obtain rfl : cur = #[v0] := Array.toList_inj.1 (by simpa using hv0)
        show Leaves P fn a2.tmps _ a2.defers (.panicking _) w2
        rw [hdf2, ← hd]
        refine leaves_cons (f := fc) (args := #[.pointer (some ⟨b, 0, none⟩)]) (by simp) (hinv w2) ((hc.caught b _ _ v0 e2 w2 hh2).mono ?_)
        rintro e u' w' ⟨rfl, rfl, rfl⟩
        simp only [settle, Leaves, List.dropWhile_nil]
        have hbl : b < w2.heap.size := (Array.getElem?_eq_some_iff.1 hh2).1
        generalize hw3 : (w2.alloc (.cells #[.int k n] t)).setCell ⟨b, 0, none⟩ (.int k n) = w3
        have hfar : ∀ q, q < w2.heap.size → q ≠ b → w3.heap[q]? = w2.heap[q]? := fun q hq hqb => by
          rw [← hw3, Below.heap_setCell _ _ _ _ hqb]
          exact alloc_old w2 _ q hq
        have hat : w3.heap[b]? = some (.cells #[.int k n] e2 (0, 0)) := by
          rw [← hw3]
          exact one_setCell (by rw [alloc_old w2 _ b hbl]; exact hh2)
        have hsz : w2.heap.size ≤ w3.heap.size := by rw [← hw3]; simp [World.setCell]
        have hil : i < lk2.length := (List.getElem?_eq_some_iff.1 hl2).1
        have hol : i < σ2.objs.length := (List.getElem?_eq_some_iff.1 hbox2).1
        have hsame : lk2.set i (.pointer (some ⟨b, 0, none⟩)) = lk2 := by
          apply List.ext_getElem?
          intro q
          by_cases hqi : q = i
          · subst hqi; rw [List.getElem?_set_self hil, hl2]
          · rw [List.getElem?_set_ne (Ne.symm hqi)]
        have hfar' : ∀ q, q < w2.heap.size → blk (.pointer (some ⟨b, 0, none⟩)) ≠ some q → w3.heap[q]? = w2.heap[q]? := fun q hq hn => hfar q hq (fun e => hn (by rw [e]; rfl))
        have hgo : Goes w2 (Imm ⟨X.hid, lk1, X.gr, [d], X.pub, X.ph⟩ w2 lk2) w3 (Imm ⟨X.hid, lk1, X.gr, [d], X.pub, X.ph⟩ w3 (lk2.set i (.pointer (some ⟨b, 0, none⟩)))) :=
          Goes.upd hl2 hfar' hsz (fun b hb => .inl hb)
        have hrel : Rel ⟨X.hid, lk1, X.gr, [d], X.pub, X.ph⟩ w3 (lk2.set i (.pointer (some ⟨b, 0, none⟩))) ⟨σ2.tmps, σ2.objs.set i (.box e2 [.int k n])⟩ a2 := by
          refine hr2.upd (o' := .box e2 [.int k n]) hl2 hfar' hsz (fun b hb => .inl hb) hi2.lx (fun _ => ⟨rfl, fun o hoo => by rw [hbox2] at hoo; simp at hoo; subst hoo; rfl⟩) rfl (by simp) (fun t' x' hx' => ⟨x', hx', fun u hu' => hu'.goes hgo (by rw [hsame]; exact Keeps.refl _ _)⟩) ?_ ?_ (fun j oj hji hj => ?_)
          · rw [List.getElem?_set_self hol]
          · exact ⟨b, _, rfl, hat, ⟨⟨rfl, rfl⟩, trivial⟩⟩
          · rw [List.getElem?_set_ne (Ne.symm hji)] at hj
            exact ⟨oj, hj, rfl, fun u hb hu' => ORep.goes hgo (by rw [hsame]; exact Keeps.refl _ _) hb hu'⟩
        have hkeep : Keep (fun q => blk (.pointer (some ⟨b, 0, none⟩)) = some q) w2 w3 :=
          ⟨by rw [← hw3]; rfl, by rw [← hw3]; rfl, by rw [← hw3]; rfl, hsz, fun q hq hn => hfar q hq (fun e => hn (by rw [e]; rfl))⟩
        have hinv2 : Inv X (fun _ => False) w w3 (lk2.set i (.pointer (some ⟨b, 0, none⟩))) := (hi2.upd hl2 hkeep (fun b hb => .inl hb)).unturn
        exact finK_sound (a := { tmps := a2.tmps, defers := X.df }) hT hq2 hl0 hdf (hrel.unbase hl0 rfl rfl) hinv2
      · exact hq2.elim
    · exact hq.elim
  · exact hq.elim
end Go.Proofs.YtilagaapfbfkkaaGreatDoor.Ab
namespace Go.Proofs.YtilagaapfbfkkaaGreatDoor.Ab
open Go Go.RowKit Go.Proofs.YtilagaapfbfkkaaGreatDoorW.PrintWords
set_option maxRecDepth 100000
variable {G : World → Prop}
theorem SenseOK.turn {f : FuncId} {s s' : Sense} (h : SenseOK G Tryz.prog f s) (hr : s'.ro = s.ro) (hf : ∀ os xs K, s'.f os xs K → s.f os xs K) : SenseOK G Tryz.prog f s' := by
  intro X w lk os xs vs K hO hl0 hX hXG hgr has hs
  rw [hr]
  exact h X w lk os xs vs K hO hl0 hX hXG hgr has (hf _ _ _ hs)
theorem ok38 : SenseOK Gr Tryz.prog 34 s38 := SenseOK.turn okDom rfl fun os xs K ⟨ho, s, hx, hb, hk⟩ => ⟨ho, s, hx, by simp only [mid, big] at hb ⊢; omega, by rw [domP_eq]; exact hk⟩
theorem caught106 : CaughtOK Tryz.prog 129 167 where
  fn := ⟨_, Tryz.func129, rfl, by decide⟩
  idle p w := by
    refine callsD_of_wpS Tryz.func129 rfl fun c₀ cs hu => ?_
    apply wpS_seq
    apply wpS_region
    simp [wpOpsS, go_sem, recoverD, hu, Tryz.ntmps129, Exit.thenS]
    apply wpS_seq
    apply wpS_seq
    apply wpS_region
    simp [wpOpsS, go_sem, hu, Exit.thenS]
    refine wpS_cond (t := true) (by simp [Act.eval, Array.replicate]) ?_
    simp only [if_true]
    refine wpS_of_wp (wp_ret ?_)
    cases c₀
    simp_all [bodyPostS, Exit.thenS, results, Tryz.results129]
  caught b k n v0 e0 w hb := by
    refine callsD_of_wpS Tryz.func129 rfl fun c₀ cs hu => ?_
    apply wpS_seq
    apply wpS_region
    simp [wpOpsS, go_sem, recoverD, hu, Tryz.ntmps129, Exit.thenS, panE]
    apply wpS_seq
    apply wpS_seq
    apply wpS_region
    simp [wpOpsS, go_sem, hu, Exit.thenS]
    refine wpS_cond (t := false) (by simp [Act.eval, Array.replicate]) ?_
    simp only [if_false, Bool.false_eq_true]
    refine wpS_of_wp (wp_skip ?_)
    simp only [Exit.thenS]
    have hbl : b < w.heap.size := (Array.getElem?_eq_some_iff.1 hb).1
    have hb2 : (w.alloc (.cells #[.int k n] 167)).heap[b]? = some (.cells #[v0] e0 (0, 0)) := (alloc_old w _ b hbl).trans hb
    have d1 : (w.alloc (.cells #[.int k n] 167)).cell? ⟨b, 0, none⟩ = some v0 := by rw [Lib.cell_of_heap hb2]; rfl
    have f1 : (w.alloc (.cells #[.int k n] 167)).frozen? ⟨b, 0, none⟩ = false := Lib.frozen_of_heap hb2 0
    have ta : ∀ w, (Instr.typeAssert (.iface 167 (.agg #[.int k n])) 20 167 true).run Tryz.prog w = .ok (.tuple #[.agg #[.int k n], .bool true]) w := by
      intro w
      simp [Instr.typeAssert, run_underlying Tryz.underlying167]
    refine wpS_of_wp ?_
    simp only [Array.replicate_succ, Array.replicate_zero, List.push_toArray, List.append_toArray, List.nil_append, List.cons_append, List.setIfInBounds_toArray, List.set_cons_zero, List.set_cons_succ]
    go_wp2
    refine ⟨rfl, _, rfl, _, results_none (fn := Tryz.f129) rfl _ _ _, rfl, rfl, ?_⟩
    exact (World.setCell_alloc_past _ _ _ _ hbl).symm
def Γ82 : Sems := ext 130 s107 Γ0
theorem Γ82.ok : SemsOK Gr Tryz.prog Γ82 := Γ0.ok.ext Tryz.func130 rfl (by decide) (ok107 ok38)
def s82 : Sense := pureS fun xs K => ∃ s, xs = [.one (.str s)] ∧ s.size ≤ mid ∧ (parseP (bl s) = none → K (.ret (.tup [.agg [.str ByteArray.empty, .str ByteArray.empty], .one (.int .i64 8)]))) ∧
  ∀ p t a b, parseP (bl s) = some (a, b) → bl p = a → bl t = b → K (.ret (.tup [.agg [.str p, .str t], .one (.int .i64 0)]))
theorem ok82 : SenseOK Gr Tryz.prog 88 s82 := SenseOK.guard TT.ok Γ82.ok (fun _ => []) s82 Tryz.func88 rfl caught106 rfl rfl fun os xs K h => by
  obtain ⟨rfl, s, rfl, hb, hk0, hk1⟩ := h
  refine ⟨rfl, ?_⟩
  refine zv ?_
  refine ⟨fun hn => ?_, fun p t a b hn hp ht => ?_⟩
  · refine zv ?_
    exact hk0 hn
  · refine zv ?_
    exact hk1 p t a b hn hp ht
def Γ58 : Sems := ext 88 s82 (ext 89 s83 Γ0)
theorem Γ58.ok : SemsOK Gr Tryz.prog Γ58 := (Γ0.ok.ext Tryz.func89 rfl (by decide) ok83).ext Tryz.func88 rfl (by decide) ok82
def mayA (a d : ByteArray) : Bool := mayR (bl a) (bl d)
def s58 : Sense := pureS fun xs K => ∃ a d, xs = [.agg [.str a, .str d]] ∧ a.size + d.size < mid ∧ K (.ret (.one (.bool (mayA a d))))
theorem ok58 : SenseOK Gr Tryz.prog 47 s58 := SenseOK.pure Γ58.ok (fun _ => []) Tryz.func47 fun xs K h => by
  obtain ⟨a, d, rfl, hb, hk⟩ := h
  have hb' := hb
  simp only [mid] at hb'
  refine zv ?_
  refine ⟨by simp only [big]; omega, by simp only [big]; omega, fun r hr => ?_⟩
  have hrs : r.size ≤ mid := by
    rw [← bl_length, hr, List.length_append, List.length_cons, bl_length, bl_length]; simp only [mid]; omega
  have hm := may_eq (bl a) (bl d)
  refine zv ?_
  refine ⟨fun hn => ?_, fun p t x y hn hp ht => ?_⟩
  · refine zv ?_
    have : mayA a d = false := by
      rw [hr] at hn
      unfold mayA
      rw [Bool.eq_false_iff, ne_eq, ← hm, hn]
      simp
    rw [this] at hk
    exact hk
  · have : mayA a d = (p.toList == a.toList && (t.toList == d.toList && true)) := by
      rw [hr] at hn
      unfold mayA
      rw [Bool.eq_iff_iff, ← hm, hn, str_beq, str_beq]
      simp [← hp, ← ht]
    refine zs0 ?_
    rw [this] at hk
    exact hk
end Go.Proofs.YtilagaapfbfkkaaGreatDoor.Ab
namespace Go.Proofs.YtilagaapfbfkkaaGreatDoor
open Go.RowKit Go.Lib Go.Proofs.YtilagaapfbfkkaaGreatDoorW.PrintWords
set_option maxRecDepth 100000 in
theorem idxRune_bad (w : World) (r : Int) (h0 : 128 ≤ r) (h1 : r ≤ 1114111) (hne : r ≠ 65533) (hv : Lib.validRune r = false) :
    Calls Tryz.prog 183 #[.string ⟨#[13, 10]⟩, .int .i32 r] w fun e w' => e = .returned (.int .i64 (-1)) ∧ Below w.heap.size w w' := by
  have e1 : (r == 65533) = false := beq_eq_false_iff_ne.2 hne
  have e2 : decide (r < 128) = false := decide_eq_false (by omega)
  go_enter Tryz.func183, Tryz.ntmps183
  go_wp2_with (go_at_call 207; refine (Tryz.utf8_ValidRune _ _).mono ?_; rintro e w' ⟨rfl, rfl⟩)
  go_ret
  exact ⟨rfl, Below.refl _ _⟩
set_option maxRecDepth 100000 in
theorem idxRune_err (w : World) :
    Calls Tryz.prog 183 #[.string ⟨#[13, 10]⟩, .int .i32 65533] w fun e w' => e = .returned (.int .i64 (-1)) ∧ Below w.heap.size w w' := by
  go_enter Tryz.func183, Tryz.ntmps183
  go_wp2
  go_loopg [5, 6] 2 (fun g _ _ wx => ∃ i : Nat, i + g = 2 ∧ wx = w.iter ⟨#[13, 10]⟩ i)
  case atStart => exact ⟨0, rfl, rfl⟩
  case round =>
    obtain ⟨i, hig, rfl⟩ := hrel
    match gk, i, hig with
    | 0, 2, _ =>
      have hnx := run_next_end (P := Tryz.prog) w ⟨#[13, 10]⟩ 2
      go_wp2
      go_ret
      exact ⟨rfl, (Below.refl _ _).alloc (Nat.le_refl _) _⟩
    | 1, 1, _ =>
      have hnx := fun ty => run_next_ascii (P := Tryz.prog) w ⟨#[13, 10]⟩ 1 ty (by decide) (by decide)
      go_wp2
      go_roundg 0
      case measure => omega
      case rel => exact ⟨2, rfl, rfl⟩
    | 2, 0, _ =>
      have hnx := fun ty => run_next_ascii (P := Tryz.prog) w ⟨#[13, 10]⟩ 0 ty (by decide) (by decide)
      go_wp2
      go_roundg 1
      case measure => omega
      case rel => exact ⟨1, rfl, rfl⟩
theorem enc_cases (r : Int) (h0 : 128 ≤ r) (h1 : r ≤ 1114111) : (∃ a b : UInt8, Utf8.encode r = ⟨#[a, b]⟩ ∧ 128 ≤ b.toNat) ∨ (∃ a b c : UInt8, Utf8.encode r = ⟨#[a, b, c]⟩) ∨ (∃ a b c d : UInt8, Utf8.encode r = ⟨#[a, b, c, d]⟩) := by
  unfold Utf8.encode
  have hc : 128 ≤ (if Utf8.valid r = true then r.toNat else Utf8.runeError) := by
    split
    · omega
    · decide
  generalize (if Utf8.valid r = true then r.toNat else Utf8.runeError) = c at hc
  simp only []
  rw [if_neg (by omega)]
  split
  · left
    refine ⟨_, _, rfl, ?_⟩
    rw [UInt8.toNat_ofNat_of_lt' (by show 128 + c % 64 < 256; omega)]
    omega
  · right
    split
    · left; exact ⟨_, _, _, rfl⟩
    · right; exact ⟨_, _, _, _, rfl⟩
set_option maxRecDepth 100000 in
theorem idxRune_good (w : World) (r : Int) (h0 : 128 ≤ r) (h1 : r ≤ 1114111) (hne : r ≠ 65533) (hv : Lib.validRune r = true) :
    Calls Tryz.prog 183 #[.string ⟨#[13, 10]⟩, .int .i32 r] w fun e w' => e = .returned (.int .i64 (-1)) ∧ Below w.heap.size w w' := by
  have e1 : (r == 65533) = false := beq_eq_false_iff_ne.2 hne
  have e2 : decide (r < 128) = false := decide_eq_false (by omega)
  rcases enc_cases r h0 h1 with ⟨a, b, henc, hb⟩ | ⟨a, b, c, henc⟩ | ⟨a, b, c, d, henc⟩
  · have hcv : ∀ W, (convert 21 9 (.int .i32 r)).run Tryz.prog W = .ok (.string ⟨#[a, b]⟩) W := fun W => by simp [convert, Tryz.underlying21, Tryz.underlying9, Conv.intToString, henc]
    clear henc
    have hb10 : ((10 : Int) == (b.toNat : Int)) = false := beq_eq_false_iff_ne.2 (by omega)
    have hb11 : ¬ (10 : Int) = (b.toNat : Int) := by omega
    have hg1 : ∀ h : 1 < (⟨#[13, 10]⟩ : ByteArray).size, (⟨#[13, 10]⟩ : ByteArray)[1]'h = 10 := fun _ => rfl
    have hg2 : ∀ h : 1 < (⟨#[a, b]⟩ : ByteArray).size, (⟨#[a, b]⟩ : ByteArray)[1]'h = b := fun _ => rfl
    have hg3 : ∀ c : UInt8, indexByte ByteArray.empty.data.toList c = -1 := fun _ => rfl
    go_enter Tryz.func183, Tryz.ntmps183
    go_wp2_with (go_at_call 207; refine (Tryz.utf8_ValidRune _ _).mono ?_; rintro e w' ⟨rfl, hw⟩; rw [hw]; clear hw)
    refine wp_scope_straight ?_
    go_wp2
    go_loopg [9, 10] 0 (fun g v9 v10 wx => v9 = .int .i64 1 ∧ v10 = .int .i64 0 ∧ wx = w)
    case atStart => exact ⟨rfl, rfl, rfl⟩
    case round =>
      obtain ⟨rfl, rfl, rfl⟩ := hrel
      go_wp2
      refine wp_scope_straight ?_
      go_wp2
      go_quiet (fail)
      go_wp2
      go_quiet ((go_at_call 189; refine (Tryz.strings_IndexByte _ _ _).mono ?_; rintro e w2 ⟨rfl, rfl⟩; (try first | exact ⟨rfl, _, rfl⟩)))
      go_wp2
      simp only [Exit.noGoto_ret, Exit.inBlock, Exit.then]
      go_ret
      exact ⟨rfl, by first | exact Below.refl _ _ | exact Drawn0.below ⟨⟨_, rfl⟩⟩ | (repeat (first | exact Below.refl _ _ | apply pw_below_drewN))⟩
  · have hcv : ∀ W, (convert 21 9 (.int .i32 r)).run Tryz.prog W = .ok (.string ⟨#[a, b, c]⟩) W := fun W => by simp [convert, Tryz.underlying21, Tryz.underlying9, Conv.intToString, henc]
    clear henc
    go_enter Tryz.func183, Tryz.ntmps183
    go_wp2_with (go_at_call 207; refine (Tryz.utf8_ValidRune _ _).mono ?_; rintro e w' ⟨rfl, hw⟩; rw [hw]; clear hw)
    refine wp_scope_straight ?_
    go_wp2
    go_loopg [9, 10] 0 (fun g v9 v10 wx => v9 = .int .i64 2 ∧ v10 = .int .i64 0 ∧ wx = w)
    case atStart => exact ⟨rfl, rfl, rfl⟩
    case round =>
      obtain ⟨rfl, rfl, rfl⟩ := hrel
      go_wp2
      rw [Exit.noGoto_ret]
      go_ret
      exact ⟨rfl, Below.refl _ _⟩
  · have hcv : ∀ W, (convert 21 9 (.int .i32 r)).run Tryz.prog W = .ok (.string ⟨#[a, b, c, d]⟩) W := fun W => by simp [convert, Tryz.underlying21, Tryz.underlying9, Conv.intToString, henc]
    clear henc
    go_enter Tryz.func183, Tryz.ntmps183
    go_wp2_with (go_at_call 207; refine (Tryz.utf8_ValidRune _ _).mono ?_; rintro e w' ⟨rfl, hw⟩; rw [hw]; clear hw)
    refine wp_scope_straight ?_
    go_wp2
    go_loopg [9, 10] 0 (fun g v9 v10 wx => v9 = .int .i64 3 ∧ v10 = .int .i64 0 ∧ wx = w)
    case atStart => exact ⟨rfl, rfl, rfl⟩
    case round =>
      obtain ⟨rfl, rfl, rfl⟩ := hrel
      go_wp2
      rw [Exit.noGoto_ret]
      go_ret
      exact ⟨rfl, Below.refl _ _⟩
theorem decode_max (s : ByteArray) (pos : Nat) : (Utf8.decode s pos).1 ≤ 1114111 := by
  have hb : ∀ k, (s.get! (pos + k)).toNat < 256 := fun k => (s.get! (pos + k)).toNat_lt
  have h0 := hb 0; have h1 := hb 1; have h2 := hb 2; have h3 := hb 3
  simp only [Utf8.decode]
  repeat' split
  all_goals simp_all [Utf8.runeError, Utf8.valid]
  all_goals omega
theorem decode_skip (s : ByteArray) (pos : Nat) (h : pos < s.size) (ha : 128 ≤ (s[pos]'h).toNat) (j : Nat) (b : UInt8) (h1 : pos ≤ j) (h2 : j < pos + (Utf8.decode s pos).2) (hj : s.data.toList[j]? = some b) : 128 ≤ b.toNat := by
  have hjl : j < s.size := by have := (List.getElem?_eq_some_iff.1 hj).1; rwa [data_length] at this
  have hbj : s.get! j = b := by
    have := (List.getElem?_eq_some_iff.1 hj).2
    rw [← this]
    simp [ByteArray.get!, hjl, getElem!_pos]
  have hb0 : s.get! (pos + 0) = s[pos]'h := by simp [ByteArray.get!, h, getElem!_pos]; rfl
  have hn : ¬ (s.get! (pos + 0)).toNat < 128 := by rw [hb0]; omega
  obtain ⟨d, rfl⟩ : ∃ d, j = pos + d := ⟨j - pos, by omega⟩
  cases d with
  | zero => rw [← hbj, hb0]; exact ha
  | succ d =>
    have hd : d + 1 < (Utf8.decode s pos).2 := by omega
    clear h2
    rw [← hbj]
    simp only [Utf8.decode, hn, if_false] at hd
    have key : ∀ k, (decide (pos + k < s.size) && (s.get! (pos + k)).toNat / 64 == 2) = true → 128 ≤ (s.get! (pos + k)).toNat := by
      intro k hk
      rw [Bool.and_eq_true, beq_iff_eq] at hk
      omega
    split at hd
    · rename_i hc
      rw [Bool.and_eq_true] at hc
      split at hd
      · have : d = 0 := by simp at hd; omega
        subst this
        exact key 1 hc.2
      · simp at hd
    · split at hd
      · rename_i hc
        rw [Bool.and_eq_true, Bool.and_eq_true] at hc
        split at hd
        · have : d = 0 ∨ d = 1 := by simp at hd; omega
          rcases this with rfl | rfl
          · exact key 1 hc.1.2
          · exact key 2 hc.2
        · simp at hd
      · split at hd
        · rename_i hc
          rw [Bool.and_eq_true, Bool.and_eq_true, Bool.and_eq_true] at hc
          split at hd
          · have : d = 0 ∨ d = 1 ∨ d = 2 := by simp at hd; omega
            rcases this with rfl | rfl | rfl
            · exact key 1 hc.1.1.2
            · exact key 2 hc.1.2
            · exact key 3 hc.2
          · simp at hd
        · simp at hd
theorem idxRune_high (w : World) (r : Int) (h0 : 128 ≤ r) (h1 : r ≤ 1114111) :
    Calls Tryz.prog 183 #[.string ⟨#[13, 10]⟩, .int .i32 r] w fun e w' => e = .returned (.int .i64 (-1)) ∧ Below w.heap.size w w' := by
  by_cases hne : r = 65533
  · subst hne; exact idxRune_err w
  · cases hv : Lib.validRune r with
    | true => exact idxRune_good w r h0 h1 hne hv
    | false => exact idxRune_bad w r h0 h1 hne hv
theorem NoAny.high {s : List UInt8} {i w : Nat} (h : Lib.NoAny s [13, 10] i) (hh : ∀ j b, i ≤ j → j < i + w → s[j]? = some b → 128 ≤ b.toNat) : Lib.NoAny s [13, 10] (i + w) := fun j b hj hb => by
  by_cases hji : j < i
  · exact h j b hji hb
  · have := hh j b (by omega) hj hb
    have h13 : b ≠ 13 := by rintro rfl; revert this; decide
    have h10 : b ≠ 10 := by rintro rfl; revert this; decide
    simp [h13, h10]
set_option maxRecDepth 1000000 in
theorem idxAny_short (s : ByteArray) (w : World) (h8 : s.size ≤ 8) :
    Calls Tryz.prog 157 #[.string s, .string ⟨#[13, 10]⟩] w fun e w' => e = .returned (.int .i64 (Lib.indexAny s.data.toList [13, 10])) ∧ Below w.heap.size w w' := by
  have h8z : decide ((8 : Int) < (s.size : Int)) = false := decide_eq_false (by omega)
  go_enter Tryz.func157, Tryz.ntmps157
  go_wp2_with (go_at_call 184; refine (Tryz.strings_shouldUseASCIISet _ _).mono ?_; rintro e w' ⟨rfl, hw⟩; rw [hw, h8z]; clear hw)
  go_loopg [9, 10] s.size (fun g _ _ wx => ∃ i : Nat, s.size ≤ i + g ∧ wx.heap[w.heap.size]? = some (.stringIter s i) ∧ Aside0 (Below w.heap.size w wx) ∧ Aside0 (Lib.NoAny s.data.toList [13, 10] i))
  case atStart => exact ⟨0, by omega, heap_alloc_new w _, ⟨(Below.refl _ _).alloc (Nat.le_refl _) _⟩, ⟨Lib.NoAny.zero _ _⟩⟩
  case round =>
    obtain ⟨i, hig, hit, HB, HN⟩ := hrel
    by_cases hi : i < s.size
    · cases gk with
      | zero => omega
      | succ g =>
        by_cases h128 : (s[i]'hi).toNat < 128
        · obtain ⟨x, hx⟩ : ∃ x : UInt8, s[i]'hi = x := ⟨_, rfl⟩
          have hxl : s.data.toList[i]? = some x := by rw [← hx]; exact Lib.data_getElem? s i hi
          rw [hx] at h128
          have hnx := fun ty => run_next_ascii_at (P := Tryz.prog) wr w.heap.size s i ty hit hi (by rw [hx]; exact h128)
          rw [hx] at hnx
          have Hx : Aside0 (s.data.toList[i]? = some x) := ⟨hxl⟩
          have hit2 : Aside0 ((wr.iterAt w.heap.size s (i + 1)).heap[w.heap.size]? = some (.stringIter s (i + 1))) := ⟨iterAt_heap _ _ _ _ _ hit⟩
          have HB2 : Aside0 (Below w.heap.size w (wr.iterAt w.heap.size s (i + 1))) := ⟨below_iterAt HB.out (Nat.le_refl _) _ _⟩
          clear hxl hx hit
          have hcon := Lib.contains_iff_indexByte [13, 10] x
          have hback : ((x.toNat : Int)).toNat.toUInt8 = x := by simp
          cases hin : ([13, 10] : List UInt8).contains x
          · rw [hin] at hcon
            have hlt : ¬ ((0 : Int) ≤ Lib.indexByte [13, 10] x) := of_decide_eq_false hcon.symm
            clear hcon
            go_wp2_with (go_at_call 183; refine (Tryz.strings_IndexRune_ascii _ _ _ (by omega) (by omega)).mono ?_; rintro e w' ⟨rfl, hw⟩; rw [hw, hback])
            go_roundg g
            case measure => omega
            case rel => exact ⟨i + 1, by omega, hit2.out, HB2, ⟨HN.out.succ Hx.out hin⟩⟩
          · rw [hin] at hcon
            have hge : (0 : Int) ≤ Lib.indexByte [13, 10] x := of_decide_eq_true hcon.symm
            clear hcon
            go_wp2_with (go_at_call 183; refine (Tryz.strings_IndexRune_ascii _ _ _ (by omega) (by omega)).mono ?_; rintro e w' ⟨rfl, hw⟩; rw [hw, hback])
            go_ret
            exact ⟨by rw [Lib.indexAny_hit HN.out Hx.out hin]; rfl, HB2.out⟩
        · have hnx := fun ty => run_next_any_at (P := Tryz.prog) wr w.heap.size s i ty hit hi
          have hd := decode_high s i hi (by omega)
          have hm := decode_max s i
          have HS : Aside0 (Lib.NoAny s.data.toList [13, 10] (i + (Utf8.decode s i).2)) := ⟨NoAny.high HN.out (fun j b h1 h2 h3 => decode_skip s i hi (by omega) j b h1 h2 h3)⟩
          generalize (Utf8.decode s i).1 = c at hnx hd hm
          generalize (Utf8.decode s i).2 = wd at hnx hd HS
          have hit2 : Aside0 ((wr.iterAt w.heap.size s (i + wd)).heap[w.heap.size]? = some (.stringIter s (i + wd))) := ⟨iterAt_heap _ _ _ _ _ hit⟩
          have HB2 : Aside0 (Below w.heap.size w (wr.iterAt w.heap.size s (i + wd))) := ⟨below_iterAt HB.out (Nat.le_refl _) _ _⟩
          clear hit
          go_wp2_with (go_at_call 183; refine (idxRune_high _ _ (by omega) (by omega)).mono ?_; rintro e w' ⟨rfl, hb⟩; have HB3 := Aside0.mk hb; clear hb)
          go_roundg g
          case measure => omega
          case rel => exact ⟨i + wd, by omega, (HB3.out.block _ (Array.getElem?_eq_some_iff.1 hit2.out).1).trans hit2.out, ⟨below_step HB2.out HB3.out⟩, HS⟩
    · have hnx := fun ty => run_next_end_at (P := Tryz.prog) wr w.heap.size s i ty hit hi
      clear hit
      go_wp2
      go_ret
      exact ⟨by rw [Lib.indexAny_none (fun j b hj hb => HN.out j b (by rw [data_length] at hj; omega) hb)]; rfl, HB.out⟩
set_option maxRecDepth 100000 in
theorem zero157 : ∀ w, (zeroValue 191).run Tryz.prog w = .ok (.agg (Array.replicate 256 (.bool false))) w := by
  intro w
  have h : Tryz.t191.zero = some (.agg (Array.replicate 256 (.bool false))) := by kernel_rfl
  have h2 : Tryz.prog.info? 191 = some Tryz.t191 := Tryz.type191
  simp [zeroValue, typeInfo, h2, h]
theorem below_alloc2 (w : World) (a b : Obj) : Below w.heap.size w ((w.alloc a).alloc b) :=
  ((Below.refl _ _).alloc (Nat.le_refl _) _).alloc (by show w.heap.size ≤ (w.heap.push a).size; rw [Array.size_push]; exact Nat.le_succ _) _
theorem idxAny_crlf (s : ByteArray) (w : World) (hs : s.size < 4294967281) :
    Calls Tryz.prog 157 #[.string s, .string ⟨#[13, 10]⟩] w fun e w' => e = .returned (.int .i64 (Lib.indexAny s.data.toList [13, 10])) ∧ Below w.heap.size w w' := by
  by_cases h8 : s.size ≤ 8
  · exact idxAny_short s w h8
  · refine (Tryz.strings_IndexAny_long zero157 s ⟨#[13, 10]⟩ w (by decide) (by omega) hs (by decide) ?_).mono ?_
    · intro j b hb
      match j, hb with
      | 0, hb => simp at hb; subst hb; decide
      | 1, hb => simp at hb; subst hb; decide
      | j + 2, hb => simp at hb
    · rintro e w' ⟨rfl, rfl⟩
      exact ⟨rfl, below_alloc2 _ _ _⟩
def strings_ContainsAny.f (a0 a1 : ByteArray) : Option Bool := if a0.size < 4294967281 ∧ a1 = ⟨#[13, 10]⟩ then some (Lib.containsAny a0.data.toList [13, 10]) else none
theorem strings_ContainsAny.calls (a0 a1 : ByteArray) (r : Bool) (w : World) (h : strings_ContainsAny.f a0 a1 = some r) :
    Calls Tryz.prog 128 #[.string a0, .string a1] w fun e w' => e = .returned (.bool r) ∧ Below w.heap.size w w' := by
  unfold strings_ContainsAny.f at h
  split at h
  · rename_i hs
    obtain ⟨hs, rfl⟩ := hs
    obtain rfl := Option.some.inj h
    have c := idxAny_crlf a0 w hs
    go_enter Tryz.func128, Tryz.ntmps128
    go_wp2_with (go_at_call 157; refine c.mono ?_; rintro e w' ⟨rfl, hw⟩)
    go_ret
    exact ⟨rfl, hw⟩
  · cases h
end Go.Proofs.YtilagaapfbfkkaaGreatDoor
namespace Go.Proofs.YtilagaapfbfkkaaGreatDoor.Ab
open Go Go.RowKit Go.Proofs.YtilagaapfbfkkaaGreatDoorW.PrintWords
set_option maxRecDepth 100000
variable {G : World → Prop}
def cutI : List Int → Option (List Int × List Int)
  | [] => none
  | x :: r => if x = 13 ∧ r.head? = some 10 then some ([], r.drop 1) else (cutI r).map fun y => (x :: y.1, y.2)
theorem cutI_app : ∀ {l a r : List Int}, cutI l = some (a, r) → l = a ++ 13 :: 10 :: r
  | [], _, _, h => by cases h
  | x :: l, a, r, h => by
    rw [cutI] at h
    split at h
    · rename_i hc
      obtain ⟨rfl, hh⟩ := hc
      simp only [Option.some.injEq, Prod.mk.injEq] at h
      obtain ⟨rfl, rfl⟩ := h
      cases l with
      | nil => cases hh
      | cons y l => simp at hh; subst hh; rfl
    · obtain ⟨⟨a', r'⟩, h1, h2⟩ := Option.map_eq_some_iff.1 h
      simp only [Prod.mk.injEq] at h2
      obtain ⟨rfl, rfl⟩ := h2
      rw [cutI_app h1]; rfl
theorem cutI_U : ∀ l : List UInt8, cutI (nums l) = if 0 ≤ Lib.index l [13, 10] then some (nums (l.take (Lib.index l [13, 10]).toNat), nums (l.drop ((Lib.index l [13, 10]).toNat + 2))) else none
  | [] => by simp [nums, cutI, Lib.index]
  | b :: l => by
    have ih := cutI_U l
    have hge := Lib.index_ge l [13, 10]
    rw [show nums (b :: l) = (b.toNat : Int) :: nums l from rfl, cutI, ih]
    have hhd : (nums l).head? = some 10 ↔ l.head? = some 10 := by
      cases l with
      | nil => simp [nums]
      | cons c l =>
        simp only [nums, List.map_cons, List.head?_cons, Option.some.injEq]
        constructor
        · intro h; exact UInt8.toNat_inj.1 (by have : (10 : UInt8).toNat = 10 := rfl; omega)
        · rintro rfl; rfl
    have hb : ((b.toNat : Int) = 13) ↔ b = 13 := by
      constructor
      · intro h; exact UInt8.toNat_inj.1 (by have : (13 : UInt8).toNat = 13 := rfl; omega)
      · rintro rfl; rfl
    have hpre : ([13, 10] : List UInt8).isPrefixOf (b :: l) = (decide (b = 13) && decide (l.head? = some 10)) := by
      cases l with
      | nil => simp [List.isPrefixOf]
      | cons c l =>
        simp only [List.isPrefixOf, Bool.and_true, List.head?_cons, Option.some.injEq]
        rw [Bool.eq_iff_iff]
        simp only [Bool.and_eq_true, beq_iff_eq, decide_eq_true_eq]
        exact ⟨fun h => ⟨h.1.symm, h.2.symm⟩, fun h => ⟨h.1.symm, h.2.symm⟩⟩
    rw [Lib.index, hpre]
    by_cases hc : b = 13 ∧ l.head? = some 10
    · rw [if_pos ⟨hb.2 hc.1, hhd.2 hc.2⟩]
      have hct : (decide (b = 13) && decide (l.head? = some 10)) = true := by rw [decide_eq_true hc.1, decide_eq_true hc.2]; rfl
      rw [hct, if_pos rfl, if_pos (Int.le_refl 0)]
      cases l with
      | nil => cases hc.2
      | cons c l => rfl
    · rw [if_neg (fun h => hc ⟨hb.1 h.1, hhd.1 h.2⟩)]
      have hcf : (decide (b = 13) && decide (l.head? = some 10)) = false := by
        rw [Bool.eq_false_iff]; intro h; simp at h; exact hc h
      rw [hcf]
      simp only [Bool.false_eq_true, if_false]
      by_cases hi : 0 ≤ Lib.index l [13, 10]
      · have hne : (Lib.index l [13, 10] == -1) = false := by simp; omega
        obtain ⟨i, hi'⟩ : ∃ i : Nat, Lib.index l [13, 10] = i := ⟨(Lib.index l [13, 10]).toNat, by omega⟩
        rw [hne, if_pos hi, hi']
        simp only [Bool.false_eq_true, if_false]
        rw [if_pos (by omega), show ((i : Int) + 1).toNat = i + 1 by omega, show ((i : Int)).toNat = i by omega]
        simp [nums]
      · have hne : (Lib.index l [13, 10] == -1) = true := by simp; omega
        rw [hne, if_neg hi]
        simp
def s80 : Sense := pureS fun xs K => ∃ s, xs = [.one (.str s), .one (.str ⟨#[13, 10]⟩)] ∧ s.size ≤ big ∧ (cutI (bl s) = none → K (.ret (.tup [.one (.str s), .one (.str ByteArray.empty), .one (.bool false)]))) ∧
  ∀ l r, cutI (bl s) = some (bl l, bl r) → K (.ret (.tup [.one (.str l), .one (.str r), .one (.bool true)]))
theorem ok80 : SenseOK Gr Tryz.prog 86 s80 := SenseOK.lib2 fun xs K h => by
  obtain ⟨s, rfl, hb, hk0, hk1⟩ := h
  have hb' := hb
  simp only [big] at hb'
  have hU := cutI_U s.data.toList
  have hv : ∀ (w : World) (I : Nat → Prop) (lk vs : List Value), All2 (VRep w I lk) [V.one (.str s), V.one (.str ⟨#[13, 10]⟩)] vs → vs = [.string s, .string ⟨#[13, 10]⟩] := fun w I lk vs hv => by
    obtain ⟨v1, m1, rfl, h1, h2⟩ := hv.cons_inv
    obtain ⟨v2, m2, rfl, h3, h4⟩ := h2.cons_inv
    obtain rfl := h4.nil_inv
    rw [show v1 = .string s from h1, show v2 = _ from h3]
  refine ⟨_, hv, ?_⟩
  by_cases hi : 0 ≤ Lib.index s.data.toList [13, 10]
  · rw [if_pos hi] at hU
    refine ⟨_, hk1 ⟨(s.data.toList.take (Lib.index s.data.toList [13, 10]).toNat).toArray⟩ ⟨(s.data.toList.drop ((Lib.index s.data.toList [13, 10]).toNat + 2)).toArray⟩ hU, fun w hw => by
    obtain ⟨m, hm⟩ := hw.mlen
    refine (Tryz.strings_Cut s ⟨#[13, 10]⟩ m w (by omega) hm).mono ?_
    rintro e w' ⟨rfl, n, rfl⟩
    refine ⟨fun I lk => ⟨_, rfl, ?_⟩, pw_below_drewN (Below.refl _ _) _⟩
    simp only [Lib.cut, if_pos hi]
    exact ⟨_, rfl, rfl, rfl, rfl, trivial⟩⟩
  · rw [if_neg hi] at hU
    refine ⟨_, hk0 hU, fun w hw => by
    obtain ⟨m, hm⟩ := hw.mlen
    refine (Tryz.strings_Cut s ⟨#[13, 10]⟩ m w (by omega) hm).mono ?_
    rintro e w' ⟨rfl, n, rfl⟩
    refine ⟨fun I lk => ⟨_, rfl, ?_⟩, pw_below_drewN (Below.refl _ _) _⟩
    simp only [Lib.cut, if_neg hi]
    exact ⟨_, rfl, rfl, rfl, rfl, trivial⟩⟩
def s105 : Sense := pureS fun xs K => ∃ s, xs = [.one (.str s), .one (.str ⟨#[13, 10]⟩)] ∧ s.size ≤ big ∧ K (.ret (.one (.bool ((bl s).any crlf))))
theorem any_U (l : List UInt8) : Lib.containsAny l [13, 10] = (nums l).any crlf := by
  have key : ∀ l : List UInt8, decide (0 ≤ Lib.indexAny l [13, 10]) = (nums l).any crlf := by
    intro l
    induction l with
    | nil => rfl
    | cons b l ih =>
      have hge := Lib.indexAny_ge [13, 10] l
      rw [show nums (b :: l) = (b.toNat : Int) :: nums l from rfl, List.any_cons, ← ih, Lib.indexAny]
      have hc : ([13, 10] : List UInt8).contains b = crlf (b.toNat : Int) := by
        rw [Bool.eq_iff_iff]
        simp only [List.contains_eq_mem, List.mem_cons, List.not_mem_nil, or_false, decide_eq_true_eq, crlf, Bool.or_eq_true, beq_iff_eq]
        constructor
        · rintro (rfl | rfl)
          · exact .inl rfl
          · exact .inr rfl
        · rintro (h | h)
          · exact .inl (UInt8.toNat_inj.1 (by have : (13 : UInt8).toNat = 13 := rfl; omega))
          · exact .inr (UInt8.toNat_inj.1 (by have : (10 : UInt8).toNat = 10 := rfl; omega))
      rw [hc]
      cases crlf (b.toNat : Int) with
      | true => simp
      | false =>
        by_cases hi : 0 ≤ Lib.indexAny l [13, 10]
        · have hne : (Lib.indexAny l [13, 10] == -1) = false := by simp; omega
          rw [hne]; simp; omega
        · have hne : (Lib.indexAny l [13, 10] == -1) = true := by simp; omega
          rw [hne]; simp; omega
  exact key l
theorem ok105 : SenseOK G Tryz.prog 128 s105 := SenseOK.lib2 fun xs K h => by
  obtain ⟨s, rfl, hb, hk⟩ := h
  have hb' := hb
  simp only [big] at hb'
  have hv : ∀ (w : World) (I : Nat → Prop) (lk vs : List Value), All2 (VRep w I lk) [V.one (.str s), V.one (.str ⟨#[13, 10]⟩)] vs → vs = [.string s, .string ⟨#[13, 10]⟩] := fun w I lk vs hv => by
    obtain ⟨v1, m1, rfl, h1, h2⟩ := hv.cons_inv
    obtain ⟨v2, m2, rfl, h3, h4⟩ := h2.cons_inv
    obtain rfl := h4.nil_inv
    rw [show v1 = .string s from h1, show v2 = _ from h3]
  refine ⟨_, hv, _, hk, fun w _ => ?_⟩
  refine (Go.Proofs.YtilagaapfbfkkaaGreatDoor.strings_ContainsAny.calls s ⟨#[13, 10]⟩ (Lib.containsAny s.data.toList [13, 10]) w (by unfold strings_ContainsAny.f; rw [if_pos ⟨by omega, rfl⟩])).mono ?_
  rintro e w' ⟨rfl, hbl⟩
  exact ⟨fun I lk => ⟨_, rfl, by rw [any_U]; rfl⟩, hbl⟩
def Γ81 : Sems := ext 128 s105 Γ0
theorem Γ81.ok : SemsOK G Tryz.prog Γ81 := Γ0.ok.ext Tryz.func128 rfl (by decide) ok105
theorem ok81 : SenseOK G Tryz.prog 87 s71 := SenseOK.pure Γ81.ok (fun _ => []) Tryz.func87 fun xs K h => by
  obtain ⟨s, rfl, hb, hk⟩ := h
  have hlen := bl_len s
  by_cases h1 : s.size ≤ 509
  · have f1 : decide ((s.size : Int) ≤ 509) = true := by simp; omega
    have hc : cleanL (bl s) = !(bl s).any crlf := by rw [cleanL, hlen, decide_eq_true h1, Bool.and_true]
    rw [hc] at hk
    refine zs1 f1 ?_
    exact hk
  · have f1 : decide ((s.size : Int) ≤ 509) = false := by simp; omega
    have hc : cleanL (bl s) = false := by rw [cleanL, hlen, decide_eq_false h1, Bool.and_false]
    rw [hc] at hk
    refine zs1 f1 ?_
    exact hk
theorem cutI_none_app : ∀ {u : List Int} {X : List Int}, cutI (u ++ [13]) = none → cutI (u ++ 13 :: 10 :: X) = some (u, X)
  | [], X, _ => by simp [cutI]
  | x :: u, X, h => by
    rw [List.cons_append, cutI] at h ⊢
    split at h
    · cases h
    · rename_i hc
      have h2 : cutI (u ++ [13]) = none := by simpa using h
      have hhd : (u ++ 13 :: 10 :: X).head? = (u ++ [13]).head? := by cases u <;> rfl
      rw [hhd, if_neg hc, cutI_none_app h2]; rfl
theorem cutI_snoc : ∀ {u : List Int} {c : Int}, cutI u = none → ¬ (u.getLast? = some 13 ∧ c = 10) → cutI (u ++ [c]) = none
  | [], c, _, _ => by simp [cutI]
  | [x], c, h, hn => by
    simp only [List.cons_append, List.nil_append, cutI]
    rw [if_neg (by rintro ⟨rfl, h2⟩; simp at h2; exact hn ⟨rfl, h2⟩)]
    simp
  | x :: y :: u, c, h, hn => by
    rw [cutI] at h
    split at h
    · cases h
    · rename_i hc
      have h2 : cutI (y :: u) = none := by simpa using h
      have := cutI_snoc (u := y :: u) (c := c) h2 (by simpa using hn)
      rw [List.cons_append, cutI, if_neg (by simpa using hc), this]; rfl
theorem rowsB_cut : ∀ (X u : List Int), cutI u = none → rowsB u X = match cutI (u ++ X) with
    | none => decide (u ++ X = [])
    | some (a, r) => cleanL a && rowsB [] r
  | [], u, h => by rw [List.append_nil, h, rowsB]
  | c :: X, u, h => by
    by_cases hc : u.getLast? = some 13 ∧ c = 10
    · rw [rowsB_end hc.1 hc.2]
      obtain ⟨h1, rfl⟩ := hc
      obtain ⟨v, rfl⟩ : ∃ v, u = v ++ [13] := by
        rcases List.eq_nil_or_concat u with rfl | ⟨v, x, rfl⟩
        · cases h1
        · simp at h1; subst h1; exact ⟨v, by simp⟩
      rw [List.append_assoc, List.singleton_append, cutI_none_app h, List.dropLast_concat]
    · rw [rowsB_go hc, rowsB_cut X (u ++ [c]) (cutI_snoc h hc), List.append_assoc, List.singleton_append]
def Γ57 : Sems := ext 86 s80 (ext 87 s71 Γ0)
theorem Γ57.ok : SemsOK Gr Tryz.prog Γ57 := (Γ0.ok.ext Tryz.func87 rfl (by decide) ok81).ext Tryz.func86 rfl (by decide) ok80
def s57 : Sense := pureS fun xs K => ∃ s, xs = [.one (.str s)] ∧ K (.ret (.one (.bool (mayT (bl s)))))
theorem ok57 : SenseOK Gr Tryz.prog 46 s57 := SenseOK.pure Γ57.ok (fun _ => [0]) Tryz.func46 fun xs K h => by
  obtain ⟨s, rfl, hk⟩ := h
  have hlen := bl_len s
  by_cases h1 : s.size ≤ 8192
  case neg =>
    have f0 : decide ((s.size : Int) > 8192) = true := by simp; omega
    have hm : mayT (bl s) = false := by rw [mayT, hlen]; simp; omega
    rw [hm] at hk
    refine zs1 f0 ?_
    exact hk
  have f0 : decide ((s.size : Int) > 8192) = false := by simp; omega
  have hm : mayT (bl s) = rowsB [] (bl s) := by rw [mayT, hlen, decide_eq_true h1, Bool.true_and]
  rw [hm] at hk
  refine zs1 f0 ?_
  refine iter_of (I := fun k σ => ∃ t : ByteArray, k = t.size ∧ t.size ≤ s.size ∧ rowsB [] (bl s) = rowsB [] (bl t) ∧ σ = ⟨slots 25 [(0, .one (.str t))], []⟩) ?_ s.size ⟨s, rfl, Nat.le_refl _, rfl, rfl⟩
  rintro k σ K' ⟨t, rfl, hts, ht, rfl⟩ hK'
  have hcut := rowsB_cut (bl t) [] rfl
  rw [List.nil_append] at hcut
  have hem : (t.toList == ByteArray.empty.toList) = decide (bl t = []) := by rw [str_beq]; rfl
  have hem' : (!(t.toList == ({ data := #[] } : ByteArray).toList)) = !decide (bl t = []) := by rw [str_beq]; rfl
  by_cases he : bl t = []
  · have e1 : (!(t.toList == ({ data := #[] } : ByteArray).toList)) = false := by rw [hem', decide_eq_true he]; rfl
    have : rowsB [] (bl s) = true := by rw [ht, he]; rfl
    rw [this] at hk
    refine zs1 e1 ?_
    exact hk
  have e1 : (!(t.toList == ({ data := #[] } : ByteArray).toList)) = true := by rw [hem', decide_eq_false he]; rfl
  refine zs1 e1 ?_
  refine ⟨by simp only [big]; omega, fun hn => ?_, fun l r hn => ?_⟩
  · rw [hn] at hcut
    have : rowsB [] (bl s) = false := by rw [ht, hcut, decide_eq_false he]
    rw [this] at hk
    refine zs0 ?_
    exact hk
  · have happ := congrArg List.length (cutI_app hn)
    rw [List.length_append, List.length_cons, List.length_cons, bl_length, bl_length, bl_length] at happ
    rw [hn] at hcut
    replace hcut : rowsB [] (bl t) = (cleanL (bl l) && rowsB [] (bl r)) := hcut
    refine zs0 ?_
    refine ⟨by simp only [big]; omega, ?_⟩
    cases hc : cleanL (bl l) with
    | false =>
      have : rowsB [] (bl s) = false := by rw [ht, hcut, hc]; rfl
      rw [this] at hk
      refine zs0 ?_
      exact hk
    | true =>
      refine zs0 ?_
      exact hK' _ _ (by omega) ⟨r, rfl, by omega, by rw [ht, hcut, hc]; rfl, rfl⟩
def decL (n : Nat) : List Int := if h : n < 10 then [48 + (n : Int)] else decL (n / 10) ++ [48 + ((n % 10 : Nat) : Int)]
termination_by n
decreasing_by omega
def s20 : Sense := pureS fun xs K => ∃ (n : Nat), xs = [.one (.int .i64 n)] ∧ n < 4611686018427387904 ∧ ∀ t, bl t = decL n → K (.ret (.one (.str t)))
theorem ok20 : SenseOK G Tryz.prog 20 s20 := SenseOK.pure Γ0.ok (fun _ => [0, 3]) Tryz.func20 fun xs K h => by
  obtain ⟨n, rfl, hb, hk⟩ := h
  have f0 : decide ((n : Int) < 0) = false := by simp
  refine zs1 f0 ?_
  refine iter_of (I := fun k σ => ∃ (q : Nat) (t : ByteArray), k = q ∧ t.size + q ≤ n ∧ decL n = decL q ++ bl t ∧ σ = ⟨slots 29 [(0, .one (.int .i64 q)), (3, .one (.str t))], []⟩) ?_ n ⟨n, ByteArray.empty, rfl, Nat.le_of_eq (Nat.zero_add n), by simp [bl], rfl⟩
  rintro q σ K' ⟨_, t, rfl, hq, hn, rfl⟩ hK'
  by_cases h1 : 10 ≤ q
  · have f1 : decide ((q : Int) ≥ 10) = true := by simp; omega
    have t1 : (q : Int).tmod 10 = ((q % 10 : Nat) : Int) := rfl
    have t2 : (q : Int).tdiv 10 = ((q / 10 : Nat) : Int) := rfl
    have w1 : IntKind.i64.wrap (48 + ((q % 10 : Nat) : Int)) = 48 + ((q % 10 : Nat) : Int) := IntWalk.i64_in _ (by omega)
    have w2 : IntKind.u8.wrap (48 + ((q % 10 : Nat) : Int)) = 48 + ((q % 10 : Nat) : Int) := by rw [u8_wrap]; omega
    have w3 : IntKind.i64.wrap ((q / 10 : Nat) : Int) = ((q / 10 : Nat) : Int) := IntWalk.i64_in _ (by omega)
    have hx : bl (strOfNums [48 + ((q % 10 : Nat) : Int)]) = [48 + ((q % 10 : Nat) : Int)] := bl_nums _ (fun c hc => by rw [List.mem_singleton] at hc; omega)
    have hs : (strOfNums [48 + ((q % 10 : Nat) : Int)]).size = 1 := by rw [← bl_len, hx]; rfl
    have ha := bl_append (strOfNums [48 + ((q % 10 : Nat) : Int)]) t
    rw [hx] at ha
    have hsz : (strOfNums [48 + ((q % 10 : Nat) : Int)] ++ t).size = 1 + t.size := by rw [← bl_len, ha, List.length_append, bl_len]; rfl
    have hob : (strOfNums [48 + ((q % 10 : Nat) : Int)]).size + t.size ≤ 9223372036854775807 := by rw [hs]; omega
    have hd : decL q = decL (q / 10) ++ [48 + ((q % 10 : Nat) : Int)] := by rw [decL, dif_neg (by omega)]
    refine zs6 f1 t1 t2 w1 w2 w3 ?_
    exact hK' _ _ (by omega) ⟨q / 10, _, rfl, by rw [hsz]; omega, by rw [hn, hd, ha, List.append_assoc], rfl⟩
  · have f1 : decide ((q : Int) ≥ 10) = false := by simp; omega
    have w1 : IntKind.i64.wrap (48 + (q : Int)) = 48 + (q : Int) := IntWalk.i64_in _ (by omega)
    have w2 : IntKind.u8.wrap (48 + (q : Int)) = 48 + (q : Int) := by rw [u8_wrap]; omega
    have hx : bl (strOfNums [48 + (q : Int)]) = [48 + (q : Int)] := bl_nums _ (fun c hc => by rw [List.mem_singleton] at hc; omega)
    have hs : (strOfNums [48 + (q : Int)]).size = 1 := by rw [← bl_len, hx]; rfl
    have ha := bl_append (strOfNums [48 + (q : Int)]) t
    rw [hx] at ha
    have hob : (strOfNums [48 + (q : Int)]).size + t.size ≤ 9223372036854775807 := by rw [hs]; omega
    have hd : decL q = [48 + (q : Int)] := by rw [decL, dif_pos (by omega)]
    refine zs3 f1 w1 w2 ?_
    exact hk _ (by rw [hn, hd, ha])
end Go.Proofs.YtilagaapfbfkkaaGreatDoor.Ab
