/- Part 10 of 10 of the texts that the sender's rows rest on, put together by a program; no condition. -/
import Derived.Test.YtilagaapfbfkkaaGreatDoorZV9
import Derived.Test.YtilagaapfbfkkaaGreatDoorZV7
import Derived.Test.YtilagaapfbfkkaaGreatDoorZV6
set_option maxHeartbeats 128000000
set_option linter.unusedSimpArgs false
set_option linter.unusedVariables false
namespace Go.Proofs.YtilagaapfbfkkaaGreatDoor.Ab
open Go Go.RowKit Go.Proofs.YtilagaapfbfkkaaGreatDoorW.PrintWords
set_option maxRecDepth 100000
theorem scan_append : ∀ (a b u : List Int) (s : Bool), scanI u s (a ++ b) = ((scanI u s a).1 ++ (scanI (scanI u s a).2.1 (scanI u s a).2.2 b).1, (scanI (scanI u s a).2.1 (scanI u s a).2.2 b).2)
  | [], b, u, s => by simp [scanI]
  | c :: a, b, u, s => by
    rw [List.cons_append, scanI, scanI]
    split
    · rw [scan_append a b [] false]; simp
    · exact scan_append a b _ s
theorem hearL_append (m : Md) (h : ByteArray) : ∀ (l1 l2 : List LT.den) (s : Sd) (o : ByteArray), hearL m h (l1 ++ l2) s o = hearL m h l2 (hearL m h l1 s o).1 (hearL m h l1 s o).2
  | [], l2, s, o => rfl
  | x :: l1, l2, s, o => by
    rw [List.cons_append, hearL, hearL]
    by_cases h7 : s.st = 7
    · rw [if_pos h7, if_pos h7]; exact (hearL_done m h o h7 l2).symm
    · rw [if_neg h7, if_neg h7]; exact hearL_append m h l1 l2 _ _
def opnA (A : List Int) (p : Nat) : List Int := (scanI [] false (A.take p)).2.1
def lnsA (A : List Int) (p : Nat) : List (List Int) := (scanI [] false (A.take p)).1.map (·.1)
def chkP (A : List Int) (p : Nat) : Bool :=
  (scanI [] false (A.take p)).1.all (fun x => !x.2) && !(scanI [] false (A.take p)).2.2 && decide ((opnA A p).length < 512) && (opnA A p).all (fun c => decide (0 ≤ c ∧ c ≤ 255)) && fmP (opnA A p) false &&
    (lnsA A p).all (fun l => l.all (fun c => decide (0 ≤ c ∧ c ≤ 255)))
def chkL (l : List (List Int)) : Bool := decide (l.length < 16) && (decide (l = []) || ((rpParse l).1 == 7))
def chkA (A : List Int) (k : Int) : Bool :=
  (List.range (A.length + 1)).all (chkP A) && (List.range 16).all (fun j => chkL ((lnsA A (A.length - 1)).take j)) && decide ((lnsA A (A.length - 1)).length < 16) && decide (lnsA A A.length = lnsA A (A.length - 1) ++ (lnsA A A.length).drop (lnsA A (A.length - 1)).length) && decide (((lnsA A A.length).drop (lnsA A (A.length - 1)).length).length = 1) && decide (opnA A A.length = []) && decide (rpParse (lnsA A A.length) = (0, k)) && decide (A.all (fun c => decide (0 ≤ c ∧ c ≤ 255)) = true) && decide (0 < A.length)
def d3 (k : Int) : List Int := [48 + k / 100, 48 + k / 10 % 10, 48 + k % 10]
def ans2 (k : Int) : List Int := d3 k ++ [45, 111, 110, 101, 13, 10] ++ d3 k ++ [32, 116, 119, 111, 13, 10]
def ans1 : List Int := [52, 53, 49, 32, 120, 13, 10]
theorem chk_ans1 : chkA ans1 451 = true := by decide +kernel
theorem chk_ans2' : (List.range 400).all (fun k => chkA (ans2 (200 + k)) (200 + k)) = true := by decide +kernel
theorem chk_ans2 {k : Int} (h0 : 200 ≤ k) (h1 : k ≤ 599) : chkA (ans2 k) k = true := by
  have := List.all_eq_true.1 chk_ans2' (k - 200).toNat (List.mem_range.2 (by omega))
  have e : (200 : Int) + ((k - 200).toNat : Int) = k := by omega
  rw [e] at this; exact this
def midS (s : Sd) (A : List Int) (p : Nat) : Sd := { s with wt := 0, rest := strOfNums (opnA A p), skip := false, ln := (lnsA A p).map strOfNums }
theorem chkA.p {A : List Int} {k : Int} (h : chkA A k = true) {p : Nat} (hp : p ≤ A.length) : chkP A p = true := by
  unfold chkA at h
  simp only [Bool.and_eq_true] at h
  exact List.all_eq_true.1 h.1.1.1.1.1.1.1.1 p (List.mem_range.2 (by omega))
theorem chkA.l {A : List Int} {k : Int} (h : chkA A k = true) (j : Nat) : chkL ((lnsA A (A.length - 1)).take j) = true := by
  unfold chkA at h
  simp only [Bool.and_eq_true, decide_eq_true_eq] at h
  obtain ⟨⟨⟨⟨⟨⟨⟨⟨_, h1⟩, h2⟩, _⟩, _⟩, _⟩, _⟩, _⟩, _⟩ := h
  by_cases hj : j < 16
  · exact List.all_eq_true.1 h1 j (List.mem_range.2 hj)
  · have := List.all_eq_true.1 h1 15 (List.mem_range.2 (by omega))
    rw [List.take_of_length_le (by omega)] at this
    rw [List.take_of_length_le (by omega)]
    exact this
theorem chkA.len {A : List Int} {k : Int} (h : chkA A k = true) : 0 < A.length := by
  unfold chkA at h
  simp only [Bool.and_eq_true, decide_eq_true_eq] at h
  exact h.2
theorem chkA.last {A : List Int} {k : Int} (h : chkA A k = true) : (∃ x, lnsA A A.length = lnsA A (A.length - 1) ++ [x]) ∧ opnA A A.length = [] ∧ rpParse (lnsA A A.length) = (0, k) := by
  unfold chkA at h
  simp only [Bool.and_eq_true, decide_eq_true_eq] at h
  obtain ⟨⟨⟨⟨⟨⟨⟨⟨_, _⟩, _⟩, h1⟩, h2⟩, h3⟩, h4⟩, _⟩, _⟩ := h
  obtain ⟨x, hx⟩ := List.length_eq_one_iff.1 h2
  rw [hx] at h1
  exact ⟨⟨x, h1⟩, h3, h4⟩
theorem chkA.byts {A : List Int} {k : Int} (h : chkA A k = true) : Byts A := by
  unfold chkA at h
  simp only [Bool.and_eq_true, decide_eq_true_eq] at h
  exact fun c hc => by
    have : 0 ≤ c ∧ c ≤ 255 := of_decide_eq_true (List.all_eq_true.1 h.1.2 c hc)
    omega
theorem chkP.bl {A : List Int} {p : Nat} (h : chkP A p = true) : bl (strOfNums (opnA A p)) = opnA A p := by
  unfold chkP at h
  simp only [Bool.and_eq_true] at h
  exact bl_nums _ fun c hc => of_decide_eq_true (List.all_eq_true.1 h.1.1.2 c hc)
theorem chkP.scan {A : List Int} {p : Nat} (h : chkP A p = true) : scanI [] false (A.take p) = ((lnsA A p).map (·, false), opnA A p, false) := by
  unfold chkP at h
  simp only [Bool.and_eq_true, Bool.not_eq_true'] at h
  have h1 : (scanI [] false (A.take p)).1 = (lnsA A p).map (·, false) := by
    rw [lnsA, List.map_map]
    conv => lhs; rw [← List.map_id (scanI [] false (A.take p)).1]
    refine List.map_congr_left fun x hx => ?_
    have := List.all_eq_true.1 h.1.1.1.1.1 x hx
    simp only [Bool.not_eq_true'] at this
    exact Prod.ext rfl this
  exact Prod.ext h1 (Prod.ext rfl h.1.1.1.1.2)
theorem chkP.lns {A : List Int} {p : Nat} (h : chkP A p = true) : ((lnsA A p).map strOfNums).map Ab.bl = lnsA A p := by
  unfold chkP at h
  simp only [Bool.and_eq_true] at h
  rw [List.map_map]
  conv => rhs; rw [← List.map_id (lnsA A p)]
  refine List.map_congr_left fun l hl => bl_nums _ fun c hc => ?_
  exact of_decide_eq_true (List.all_eq_true.1 (List.all_eq_true.1 h.2 l hl) c hc)
theorem part_scan {A : List Int} {p q : Nat} (hpq : p ≤ q) (hp : chkP A p = true) (hq : chkP A q = true) : ∃ new, lnsA A q = lnsA A p ++ new ∧ frmM (bl (strOfNums (opnA A p))) false ((A.take q).drop p) = ((opnA A q, false), new.map (·, false)) := by
  have e : A.take q = A.take p ++ (A.take q).drop p := by
    conv => lhs; rw [← List.take_append_drop p (A.take q)]
    rw [List.take_take, Nat.min_eq_left hpq]
  have h1 := scan_append (A.take p) ((A.take q).drop p) [] false
  rw [← e, chkP.scan hp, chkP.scan hq] at h1
  simp only [Prod.mk.injEq] at h1
  obtain ⟨h1, h2⟩ := h1
  generalize hs : scanI (opnA A p) false ((A.take q).drop p) = r at h1 h2
  obtain ⟨l, u, s⟩ := r
  simp only [Prod.mk.injEq] at h2
  obtain ⟨rfl, rfl⟩ := h2
  have h3 : l = (l.map (·.1)).map (·, false) := by
    have : ∀ x ∈ l, x.2 = false := fun x hx => by
      have : x ∈ (lnsA A q).map (·, false) := by rw [h1]; exact List.mem_append_right _ hx
      obtain ⟨y, _, rfl⟩ := List.mem_map.1 this
      rfl
    rw [List.map_map]
    conv => lhs; rw [← List.map_id l]
    exact List.map_congr_left fun x hx => Prod.ext rfl (this x hx)
  refine ⟨l.map (·.1), ?_, ?_⟩
  · have := congrArg (List.map (·.1)) h1
    simp only [List.map_append, List.map_map] at this
    have hid : ∀ L : List (List Int), L.map ((fun x : List Int × Bool => x.1) ∘ fun x => (x, false)) = L := fun L => by
      conv => rhs; rw [← List.map_id L]
      rfl
    rw [hid, hid] at this
    exact this
  · have hl : (opnA A q).length < 512 := by
      unfold chkP at hq
      simp only [Bool.and_eq_true, decide_eq_true_eq] at hq
      exact hq.1.1.1.2
    rw [frmM, chkP.bl hp, hs, ← h3]
    show (stI (opnA A q) false, l) = _
    rw [stI, if_neg (by simp; exact hl)]
theorem hearL_open (m : Md) (h : ByteArray) : ∀ (new : List (List Int)) (s : Sd) (o : ByteArray), s.st ≠ 7 → (∀ j, j < new.length → (rpParse ((s.ln ++ (new.take (j + 1)).map strOfNums).map bl)).1 = 7 ∧ s.ln.length + (j + 1) < 16) →
    hearL m h ((new.map (·, false)).map lnU) s o = ({ s with ln := s.ln ++ new.map strOfNums }, o)
  | [], s, o, _, _ => by simp [hearL]
  | x :: new, s, o, h7, hj => by
    have h0 := hj 0 (by simp)
    have hln : lineM m h s o (lnU (x, false)) = ({ s with ln := s.ln ++ [strOfNums x] }, o) := by
      have h1 : (rpParse ((s.ln ++ [strOfNums x]).map bl)).1 = 7 := h0.1
      unfold lineM
      rw [show (lnU (x, false)).2 = false from rfl, cond_false, show (lnU (x, false)).1 = strOfNums x from rfl, if_neg (by rw [h1]; decide), if_pos ⟨h1, by have := h0.2; simp; omega⟩]
    rw [List.map_cons, List.map_cons, hearL, if_neg h7, hln]
    have := hearL_open m h new { s with ln := s.ln ++ [strOfNums x] } o h7 fun j hj2 => by
      have := hj (j + 1) (by simp; omega)
      refine ⟨?_, ?_⟩
      · have h2 := this.1
        rw [List.take_succ_cons, List.map_cons] at h2
        simpa [List.append_assoc] using h2
      · have h2 := this.2
        show (s.ln ++ [strOfNums x]).length + (j + 1) < 16
        simp; omega
    rw [this]
    simp
theorem chkL.opn {l : List (List Int)} (h : chkL l = true) (hn : l ≠ []) : (rpParse l).1 = 7 ∧ l.length < 16 := by
  unfold chkL at h
  simp only [Bool.and_eq_true, Bool.or_eq_true, decide_eq_true_eq] at h
  refine ⟨?_, h.1⟩
  rcases h.2 with h | h
  · exact absurd h hn
  · simpa using h
theorem pre_take {α : Type} {L pl new rest : List α} (h : L = (pl ++ new) ++ rest) {j : Nat} (hj : j < new.length) : pl ++ new.take (j + 1) = L.take (pl.length + (j + 1)) := by
  rw [h, List.append_assoc, List.take_length_add_append, List.take_append_of_le_length (by omega)]
theorem open_j {A : List Int} {k : Int} (hA : chkA A k = true) {pl new rest : List (List Int)} (hL : lnsA A (A.length - 1) = (pl ++ new) ++ rest) {j : Nat} (hj : j < new.length) :
    (rpParse ((pl.map strOfNums ++ (new.take (j + 1)).map strOfNums).map bl)).1 = 7 ∧ (pl.map strOfNums).length + (j + 1) < 16 := by
  have e := pre_take hL hj
  have hne : pl ++ new.take (j + 1) ≠ [] := fun h0 => by
    have h5 := congrArg List.length (List.append_eq_nil_iff.1 h0).2
    rw [List.length_take, List.length_nil] at h5
    omega
  have h1 := chkL.opn (chkA.l hA (pl.length + (j + 1))) (by rw [← e]; exact hne)
  have h2 : ((pl ++ new.take (j + 1)).map strOfNums).map bl = pl ++ new.take (j + 1) := by
    have h3 := chkP.lns (chkA.p hA (p := A.length - 1) (by omega))
    rw [List.map_map] at h3
    rw [e, List.map_map, List.map_take, h3]
  rw [← List.map_append, h2, e]
  refine ⟨h1.1, ?_⟩
  have h4 := h1.2
  rw [← e, List.length_append, List.length_take] at h4
  rw [List.length_map]
  omega
theorem hear_mid {A : List Int} {k : Int} (hA : chkA A k = true) (m : Md) (h : ByteArray) (s : Sd) (h7 : s.st ≠ 7) {p q : Nat} (hpq : p ≤ q) (hq : q < A.length) : hearS m h (midS s A p) ((A.take q).drop p) = (midS s A q, ⟨#[]⟩) := by
  obtain ⟨new, hn, hf⟩ := part_scan hpq (chkA.p hA (by omega)) (chkA.p hA (by omega))
  obtain ⟨rest, hr, _⟩ := part_scan (p := q) (q := A.length - 1) (by omega) (chkA.p hA (by omega)) (chkA.p hA (by omega))
  have h7' : (midS s A p).st ≠ 7 := h7
  rw [hearS, if_neg h7', heardM, show (midS s A p).skip = false from rfl, show (midS s A p).rest = strOfNums (opnA A p) from rfl, hf]
  show hearL m h ((new.map (·, false)).map lnU) ({ s with wt := 0, rest := strOfNums (opnA A q), skip := false, ln := (lnsA A p).map strOfNums } : Sd) ByteArray.empty = _
  rw [hearL_open m h new ({ s with wt := 0, rest := strOfNums (opnA A q), skip := false, ln := (lnsA A p).map strOfNums } : Sd) ByteArray.empty h7 fun j hj => open_j hA (by rw [hr, hn]) hj]
  show (({ s with wt := 0, rest := strOfNums (opnA A q), skip := false, ln := (lnsA A p).map strOfNums ++ new.map strOfNums } : Sd), ByteArray.empty) = _
  rw [← List.map_append, ← hn]; rfl
theorem hear_end {A : List Int} {k : Int} (hA : chkA A k = true) (m : Md) (h : ByteArray) (s : Sd) (h7 : s.st ≠ 7) {p : Nat} (hp : p < A.length) : hearS m h (midS s A p) (A.drop p) = goesM m h { s with wt := 0, rest := ByteArray.empty, skip := false, ln := [] } ByteArray.empty k := by
  obtain ⟨new, hn, hf⟩ := part_scan (p := p) (q := A.length) (by omega) (chkA.p hA (by omega)) (chkA.p hA (by omega))
  obtain ⟨rest, hr, _⟩ := part_scan (p := p) (q := A.length - 1) (by omega) (chkA.p hA (by omega)) (chkA.p hA (by omega))
  obtain ⟨⟨x, hx⟩, ho, hk⟩ := chkA.last hA
  rw [List.take_length] at hf
  have hnew : new = rest ++ [x] := by
    have : lnsA A p ++ new = lnsA A p ++ (rest ++ [x]) := by rw [← hn, hx, hr, List.append_assoc]
    exact List.append_cancel_left this
  subst hnew
  have hst : (strOfNums (opnA A A.length)) = ByteArray.empty := by rw [ho]; rfl
  have h7' : (midS s A p).st ≠ 7 := h7
  rw [hearS, if_neg h7', heardM, show (midS s A p).skip = false from rfl, show (midS s A p).rest = strOfNums (opnA A p) from rfl, hf]
  show hearL m h (((rest ++ [x]).map (·, false)).map lnU) ({ s with wt := 0, rest := strOfNums (opnA A A.length), skip := false, ln := (lnsA A p).map strOfNums } : Sd) ByteArray.empty = _
  rw [hst, List.map_append, List.map_append, hearL_append, hearL_open m h rest ({ s with wt := 0, rest := ByteArray.empty, skip := false, ln := (lnsA A p).map strOfNums } : Sd) ByteArray.empty h7 fun j hj => open_j hA (rest := []) (by rw [hr, List.append_nil]) hj]
  obtain ⟨S, hS⟩ : ∃ S : Sd, S = { s with wt := 0, rest := ByteArray.empty, skip := false, ln := (lnsA A p).map strOfNums ++ rest.map strOfNums } := ⟨_, rfl⟩
  have hl : (S.ln ++ [strOfNums x]).map bl = lnsA A A.length := by
    have := chkP.lns (chkA.p hA (p := A.length) (by omega))
    rw [hx, hr] at this
    rw [hx, hr, hS]
    simpa [List.append_assoc] using this
  have hline : lineM m h S ByteArray.empty (strOfNums x, false) = goesM m h { S with ln := [] } ByteArray.empty k := by
    unfold lineM
    rw [cond_false, hl, hk, if_pos rfl]
  have e : ({ S with ln := [] } : Sd) = { s with wt := 0, rest := ByteArray.empty, skip := false, ln := [] } := by rw [hS]
  show hearL m h [(strOfNums x, false)] ({ s with wt := 0, rest := ByteArray.empty, skip := false, ln := (lnsA A p).map strOfNums ++ rest.map strOfNums } : Sd) ByteArray.empty = _
  rw [← hS, hearL, if_neg (by rw [hS]; exact h7), hline, e]
  rfl
theorem mid_may {A : List Int} {k : Int} (hA : chkA A k = true) {m : Md} {s : Sd} (h : maySd s m = true) {p : Nat} (hp : p < A.length) : maySd (midS s A p) m = true := by
  have h1 := chkA.p hA (p := p) (by omega)
  have hb := chkP.bl h1
  obtain ⟨rest, hr, _⟩ := part_scan (p := p) (q := A.length - 1) (by omega) (chkA.p hA (by omega)) (chkA.p hA (by omega))
  have hl := chkA.l hA (lnsA A p).length
  rw [hr, List.take_left' rfl] at hl
  unfold chkP at h1
  simp only [Bool.and_eq_true] at h1
  unfold maySd at h ⊢
  simp only [Bool.and_eq_true, decide_eq_true_eq] at h ⊢
  obtain ⟨⟨a, hj, hs, _, _⟩, c1, c2, c3, _⟩ := h
  refine ⟨⟨a, hj, hs, ⟨by show (0 : Int) ≤ 0; decide, by show (0 : Int) ≤ 100; decide⟩, ?_⟩, c1, c2, c3, ?_⟩
  · show fmP (bl (strOfNums (opnA A p))) false = true
    rw [hb]; exact h1.1.2
  · show lnsP ((lnsA A p).map strOfNums) = true
    rw [lnsP, chkP.lns (chkA.p hA (p := p) (by omega)), List.length_map]
    unfold chkL at hl
    simp only [Bool.and_eq_true, Bool.or_eq_true, decide_eq_true_eq] at hl
    rcases hl.2 with h0 | h0
    · rw [h0]; rfl
    · rw [h0, decide_eq_true (show ((lnsA A p).length : Int) < 16 by omega)]; simp
def zs (n : Nat) : List Int := List.replicate n 0
def f0 (x : Int) : Int := if x = -1 then 0 else x
def negI : Nat → List Int → List Int
  | _, [] => []
  | i, x :: l => if x = -1 then (i : Int) :: negI (i + 1) l else negI (i + 1) l
def putW (c x : Int) : Int := if x = -1 then c else x
theorem negI_append : ∀ (a b : List Int) (i : Nat), negI i (a ++ b) = negI i a ++ negI (i + a.length) b
  | [], b, i => by simp [negI]
  | x :: a, b, i => by
    rw [List.cons_append, negI, negI, negI_append a b (i + 1), show i + 1 + a.length = i + (x :: a).length by simp; omega]
    split <;> simp
theorem negI_nil : ∀ {l : List Int} {i : Nat}, negI i l = [] → ∀ x ∈ l, x ≠ -1
  | [], _, _, x, hx => by cases hx
  | y :: l, i, h, x, hx => by
    rw [negI] at h
    split at h
    · cases h
    · rcases List.mem_cons.1 hx with rfl | hx
      · assumption
      · exact negI_nil h x hx
theorem fillT_neg (c : Int) : ∀ (l pre : List Int), fillT (negI pre.length l) (pre ++ l.map f0) c = pre ++ l.map (putW c)
  | [], pre => by simp [negI, fillT]
  | x :: l, pre => by
    rw [negI]
    split
    case isTrue h =>
      have h1 : f0 x = 0 := by rw [f0, if_pos h]
      have h2 : putW c x = c := by rw [putW, if_pos h]
      show fillT (negI (pre.length + 1) l) ((pre ++ (x :: l).map f0).set (pre.length : Int).toNat c) c = _
      have e : (pre ++ (x :: l).map f0).set (pre.length : Int).toNat c = (pre ++ [c]) ++ l.map f0 := by
        rw [Int.toNat_natCast, List.map_cons, List.set_append_right _ _ (Nat.le_refl _), Nat.sub_self, List.set_cons_zero]; simp
      rw [e]
      have := fillT_neg c l (pre ++ [c])
      rw [List.length_append, List.length_singleton] at this
      rw [this, List.map_cons, h2]; simp
    case isFalse h =>
      have h1 : f0 x = x := by rw [f0, if_neg h]
      have h2 : putW c x = x := by rw [putW, if_neg h]
      have := fillT_neg c l (pre ++ [x])
      rw [List.length_append, List.length_singleton] at this
      rw [List.map_cons, List.map_cons, h1, h2]
      simpa using this
theorem fillT_neg0 (c : Int) (w : List Int) : fillT (negI 0 w) (w.map f0) c = w.map (putW c) := fillT_neg c w []
theorem neg_first {c : Int} (hc : c ≠ -1) : ∀ (l : List Int) (i : Nat) (k : Int) (t : List Int), negI i l = k :: t → ∃ j : Nat, j < l.length ∧ k = ((i + j : Nat) : Int) ∧ l[j]? = some (-1) ∧ (∀ x ∈ l.take j, x ≠ -1) ∧ negI i (l.set j c) = t ∧ (l.map f0).set j c = (l.set j c).map f0
  | [], i, k, t, h => by cases h
  | x :: l, i, k, t, h => by
    rw [negI] at h
    split at h
    case isTrue hx =>
      injection h with h1 h2
      subst hx
      refine ⟨0, by simp, by simpa using h1.symm, rfl, by simp, ?_, ?_⟩
      · rw [List.set_cons_zero, negI, if_neg hc]; exact h2
      · rw [List.map_cons, List.set_cons_zero, List.set_cons_zero, List.map_cons, f0, if_neg hc]
    case isFalse hx =>
      obtain ⟨j, h1, h2, h3, h4, h5, h6⟩ := neg_first hc l (i + 1) k t h
      refine ⟨j + 1, by simp; omega, by rw [h2]; congr 1; omega, by simpa using h3, fun y hy => ?_, ?_, ?_⟩
      · rw [List.take_succ_cons] at hy
        rcases List.mem_cons.1 hy with rfl | hy
        · exact hx
        · exact h4 y hy
      · rw [List.set_cons_succ, negI, if_neg hx]; exact h5
      · rw [List.map_cons, List.set_cons_succ, List.set_cons_succ, List.map_cons, h6]
theorem negI_ris : ∀ (l : List Int) (i : Nat) (p : Option Int) (n : Nat), (∀ q, p = some q → q < i) → i + l.length ≤ n → risF n p (negI i l) = true
  | [], i, p, n, _, _ => rfl
  | x :: l, i, p, n, hp, hn => by
    rw [List.length_cons] at hn
    rw [negI]
    split
    · rw [risF_cons]
      simp only [Bool.and_eq_true, decide_eq_true_eq]
      refine ⟨⟨by omega, by omega⟩, ?_, negI_ris l (i + 1) _ n (fun q hq => by injection hq with hq; omega) (by omega)⟩
      cases p with
      | none => rfl
      | some q => exact decide_eq_true (hp q rfl)
    · exact negI_ris l (i + 1) p n (fun q hq => by have := hp q hq; omega) (by omega)
theorem negI_len : ∀ (l : List Int) (i : Nat), (negI i l).length ≤ l.length
  | [], _ => Nat.le_refl _
  | x :: l, i => by
    rw [negI]
    have := negI_len l (i + 1)
    split <;> simp <;> omega
theorem f0_id {l : List Int} (h : ∀ x ∈ l, x ≠ -1) : l.map f0 = l := by
  conv => rhs; rw [← List.map_id l]
  exact List.map_congr_left fun x hx => by rw [f0, if_neg (h x hx)]; rfl
def icB : Nat → List Int
  | 0 => []
  | n + 1 => icB n ++ [(n : Int)]
def locB (i : Nat) : ByteArray := strOfNums [IntKind.u8.wrap (IntKind.i64.wrap (112 + (i : Int)))]
def rB (i : Nat) : RT.den := ((locB i, ⟨#[120]⟩), (0, (0, (0, 0))))
def rcB : Nat → List RT.den
  | 0 => []
  | n + 1 => rcB n ++ [rB n]
theorem icB_len : ∀ n : Nat, (icB n).length = n
  | 0 => rfl
  | n + 1 => by rw [icB, List.length_append, icB_len n]; rfl
theorem rcB_len : ∀ n : Nat, (rcB n).length = n
  | 0 => rfl
  | n + 1 => by rw [rcB, List.length_append, rcB_len n]; rfl
theorem icB_get : ∀ {n i : Nat}, i < n → (icB n)[i]? = some (i : Int)
  | n + 1, i, h => by
    rw [icB]
    by_cases h1 : i < n
    · rw [List.getElem?_append_left (by rw [icB_len]; exact h1), icB_get h1]
    · obtain rfl : i = n := by omega
      rw [List.getElem?_append_right (by rw [icB_len]; exact Nat.le_refl _), icB_len, Nat.sub_self]; rfl
theorem rcB_get : ∀ {n i : Nat}, i < n → (rcB n)[i]? = some (rB i)
  | n + 1, i, h => by
    rw [rcB]
    by_cases h1 : i < n
    · rw [List.getElem?_append_left (by rw [rcB_len]; exact h1), rcB_get h1]
    · obtain rfl : i = n := by omega
      rw [List.getElem?_append_right (by rw [rcB_len]; exact Nat.le_refl _), rcB_len, Nat.sub_self]; rfl
theorem rcB_mem : ∀ {n : Nat} {r : RT.den}, r ∈ rcB n → ∃ i, r = rB i
  | 0, r, h => by cases h
  | n + 1, r, h => by
    rcases List.mem_append.1 h with h | h
    · exact rcB_mem h
    · exact ⟨n, List.mem_singleton.1 h⟩
def jB (n : Nat) : Jb := ⟨1, 0, ⟨#[120]⟩, icB n⟩
def mB (n : Nat) (body : ByteArray) : Md := { mM with rc := rcB n, body := body }
def hB : ByteArray := (⟨#[104, 46, 120]⟩ : ByteArray)
def sB (n : Nat) (lm : Bool) (st a : Int) (tk cd : List Int) : Sd := ⟨1, 1, 0, ⟨#[120]⟩, icB n, lm, st, a, tk, cd, 0, ByteArray.empty, false, []⟩
theorem new_sB (n : Nat) (lm : Bool) : newSd 1 (jB n) lm = sB n lm 0 0 [] (zs n) := by
  show (⟨1, 1, 0, ⟨#[120]⟩, icB n, lm, 0, 0, [], List.replicate (Int.toNat ((icB n).length : Int)) (0 : Int), 0, ByteArray.empty, false, []⟩ : Sd) = _
  rw [Int.toNat_natCast, icB_len]; rfl
def helB (lm : Bool) : ByteArray := bif lm then (⟨#[76, 72, 76, 79, 32, 104, 46, 120, 13, 10]⟩ : ByteArray) else (⟨#[69, 72, 76, 79, 32, 104, 46, 120, 13, 10]⟩ : ByteArray)
def FR (lm : Bool) : Nat → ByteArray
  | 0 => helB lm ++ (⟨#[77, 65, 73, 76, 32, 70, 82, 79, 77, 58, 60, 97, 64, 120, 62, 13, 10]⟩ : ByteArray)
  | i + 1 => ((FR lm i ++ (⟨#[82, 67, 80, 84, 32, 84, 79, 58, 60]⟩ : ByteArray)) ++ locB i) ++ (⟨#[64, 120, 62, 13, 10]⟩ : ByteArray)
def allB (lm : Bool) (n : Nat) (body : ByteArray) : ByteArray := (FR lm n ++ (⟨#[68, 65, 84, 65, 13, 10]⟩ : ByteArray)) ++ layO body
def quitB : ByteArray := (⟨#[81, 85, 73, 84, 13, 10]⟩ : ByteArray)
theorem say0 (lm : Bool) : ByteArray.empty ++ sayO ByteArray.empty ((bif lm then (⟨#[76, 72, 76, 79, 32]⟩ : ByteArray) else (⟨#[69, 72, 76, 79, 32]⟩ : ByteArray)) ++ hB) = helB lm := by cases lm <;> decide +kernel
theorem say1 (n : Nat) (lm : Bool) (body : ByteArray) : helB lm ++ sayO ByteArray.empty (((⟨#[77, 65, 73, 76, 32, 70, 82, 79, 77, 58, 60]⟩ : ByteArray) ++ (bif (mB n body).nul then ⟨#[]⟩ else adrB (mB n body).fl (mB n body).fd)) ++ (⟨#[62]⟩ : ByteArray)) = FR lm 0 := by
  have h0 : ∀ lm : Bool, helB lm ++ sayO ByteArray.empty (((⟨#[77, 65, 73, 76, 32, 70, 82, 79, 77, 58, 60]⟩ : ByteArray) ++ adrB mM.fl mM.fd) ++ (⟨#[62]⟩ : ByteArray)) = FR lm 0 := by decide +kernel
  exact h0 lm
theorem who_B {n i : Nat} (h : i < n) (lm : Bool) (tk cd : List Int) (body : ByteArray) : whoR (mB n body) (sB n lm 3 i tk cd) = rB i := by
  show rdx (rcB n) (rdx (icB n) (i : Int).toNat IT.dflt).toNat RT.dflt = rB i
  rw [Int.toNat_natCast, show rdx (icB n) i IT.dflt = (i : Int) from nth_of (icB_get h) IT.dflt, Int.toNat_natCast]
  exact nth_of (rcB_get h) RT.dflt
theorem say3 {n i : Nat} (h : i < n) (lm : Bool) (tk cd : List Int) (body : ByteArray) : FR lm i ++ nameO (mB n body) (sB n lm 3 i tk cd) ByteArray.empty = FR lm (i + 1) := bl_inj (by
  rw [nameO, nameL, who_B h, sayO, FR, adrB, rB]
  simp only [bl_append, List.append_assoc]
  rfl)
theorem FR_pre (lm : Bool) (i : Nat) : ∀ j, ∃ t, FR lm (i + j) = FR lm i ++ t
  | 0 => ⟨ByteArray.empty, bl_inj (by rw [bl_append]; show _ = _ ++ []; rw [List.append_nil]; rfl)⟩
  | j + 1 => by
    obtain ⟨t, ht⟩ := FR_pre lm i j
    refine ⟨((t ++ (⟨#[82, 67, 80, 84, 32, 84, 79, 58, 60]⟩ : ByteArray)) ++ locB (i + j)) ++ (⟨#[64, 120, 62, 13, 10]⟩ : ByteArray), bl_inj ?_⟩
    rw [show i + (j + 1) = (i + j) + 1 from rfl, FR, ht]
    simp only [bl_append, List.append_assoc]
inductive RB (n : Nat) (lm : Bool) (body : ByteArray) : List Int → Sd → ByteArray → Int → Nat → Prop where
  | g0 : RB n lm body (zs n) (sB n lm 0 0 [] (zs n)) ByteArray.empty 0 (2 * n + 4)
  | g1 : RB n lm body (zs n) (sB n lm 1 0 [] (zs n)) (helB lm) 0 (2 * n + 3)
  | g2 : RB n lm body (zs n) (sB n lm 2 0 [] (zs n)) (FR lm 0) 0 (2 * n + 2)
  | rcp (pre : List Int) (hl : pre.length < n) (hp : ∀ x ∈ pre, x = -1 ∨ (200 ≤ x ∧ x ≤ 599)) : RB n lm body (pre ++ zs (n - pre.length)) (sB n lm 3 (pre.length : Nat) (negI 0 pre) (pre.map f0 ++ zs (n - pre.length))) (FR lm (pre.length + 1)) 0 (2 * n + 1 - pre.length)
  | ask (w : List Int) (hl : w.length = n) (hw : ∀ x ∈ w, x = -1 ∨ (200 ≤ x ∧ x ≤ 599)) (hne : negI 0 w ≠ []) : RB n lm body w (sB n lm 4 0 (negI 0 w) (w.map f0)) (FR lm n ++ (⟨#[68, 65, 84, 65, 13, 10]⟩ : ByteArray)) 0 (n + 1)
  | bod (w tk : List Int) (a : Nat) (en : Int) (hl : w.length = n) (hw : ∀ x ∈ w, x = -1 ∨ (200 ≤ x ∧ x ≤ 599)) (ht : risB tk n = true) (hd : tk.drop a = negI 0 w) (hne : negI 0 w ≠ []) (ha : lm = false → a = 0) : RB n lm body w (sB n lm 5 (a : Nat) tk (w.map f0)) (allB lm n body) en (negI 0 w).length
  | quit (w : List Int) (X t : ByteArray) (en : Int) (hl : w.length = n) (hw : ∀ x ∈ w, 200 ≤ x ∧ x ≤ 599) (hX : allB lm n body = X ++ t) (he : en = 0 ∨ X = allB lm n body) : RB n lm body w (sB n lm 6 0 [] w) (X ++ quitB) en 0
def kB (st k : Int) : Int := if st = 5 ∧ 300 ≤ k ∧ k ≤ 399 then 451 else k
def fineK (k : Int) : Bool := decide (k ≥ 200) && decide (k ≤ 299)
theorem fine_good {k : Int} : goodC k = fineK k := by
  rw [goodC, fineK]; congr 1; rw [Bool.eq_iff_iff]; simp; omega
def putF (c : Int) : List Int → List Int
  | [] => []
  | x :: l => if x = -1 then c :: l else x :: putF c l
theorem putF_set {c : Int} : ∀ (l : List Int) (j : Nat), l[j]? = some (-1) → (∀ x ∈ l.take j, x ≠ -1) → putF c l = l.set j c
  | [], j, h, _ => by cases h
  | x :: l, 0, h, _ => by
    have : x = -1 := by simpa using h
    rw [putF, if_pos this]; rfl
  | x :: l, j + 1, h, hn => by
    rw [putF, if_neg (hn x (by simp)), putF_set l j (by simpa using h) fun y hy => hn y (by simp [hy])]; rfl
def wantB (lm : Bool) (s : Sd) (w : List Int) (k : Int) : List Int :=
  if s.st = 3 then w.set s.at_.toNat (bif fineK k then -1 else k)
  else if s.st = 4 then (if k = 354 then w else w.map (putW (bif fineK k then 451 else k)))
  else if s.st = 5 then (bif lm then putF (kB 5 k) w else w.map (putW (kB 5 k)))
  else bif fineK k then w else w.map fun _ => k
theorem pre_FR (lm : Bool) {n i : Nat} (h : i ≤ n) (body : ByteArray) : ∃ t, allB lm n body = FR lm i ++ t := by
  obtain ⟨t, ht⟩ := FR_pre lm i (n - i)
  rw [show i + (n - i) = n by omega] at ht
  exact ⟨(t ++ (⟨#[68, 65, 84, 65, 13, 10]⟩ : ByteArray)) ++ layO body, bl_inj (by rw [allB, ht]; simp only [bl_append, List.append_assoc])⟩
theorem pre_hel (lm : Bool) (n : Nat) (body : ByteArray) : ∃ t, allB lm n body = helB lm ++ t := by
  obtain ⟨t, ht⟩ := pre_FR lm (Nat.zero_le n) body
  exact ⟨(⟨#[77, 65, 73, 76, 32, 70, 82, 79, 77, 58, 60, 97, 64, 120, 62, 13, 10]⟩ : ByteArray) ++ t, bl_inj (by rw [ht, FR]; simp only [bl_append, List.append_assoc])⟩
theorem pre_nil (lm : Bool) (n : Nat) (body : ByteArray) : ∃ t, allB lm n body = ByteArray.empty ++ t := ⟨allB lm n body, bl_inj (by rw [bl_append]; rfl)⟩
theorem pre_data (lm : Bool) (n : Nat) (body : ByteArray) : ∃ t, allB lm n body = (FR lm n ++ (⟨#[68, 65, 84, 65, 13, 10]⟩ : ByteArray)) ++ t := ⟨layO body, rfl⟩
theorem pre_all (lm : Bool) (n : Nat) (body : ByteArray) : ∃ t, allB lm n body = allB lm n body ++ t := ⟨ByteArray.empty, bl_inj (by rw [bl_append]; show _ = _ ++ []; rw [List.append_nil])⟩
theorem quitO_B : quitO ByteArray.empty = quitB := by decide +kernel
theorem quit_to {n : Nat} {lm : Bool} {body : ByteArray} {st a : Int} {tk cd w : List Int} {X : ByteArray} {en : Int} (hcd : cd = w) (hl : w.length = n) (hw : ∀ x ∈ w, 200 ≤ x ∧ x ≤ 599) (hX : ∃ t, allB lm n body = X ++ t) (he : en = 0 ∨ X = allB lm n body) :
    RB n lm body w (quitS (sB n lm st a tk cd)) (X ++ quitO ByteArray.empty) en 0 := by
  obtain ⟨t, ht⟩ := hX
  subst hcd
  rw [quitO_B]
  exact .quit cd X t en hl hw ht he
theorem putW_ok {c : Int} (hc : 200 ≤ c ∧ c ≤ 599) {w : List Int} (hw : ∀ x ∈ w, x = -1 ∨ (200 ≤ x ∧ x ≤ 599)) : ∀ x ∈ w.map (putW c), 200 ≤ x ∧ x ≤ 599 := fun x hx => by
  obtain ⟨y, hy, rfl⟩ := List.mem_map.1 hx
  rw [putW]
  split
  · exact hc
  · rcases hw y hy with h | h
    · contradiction
    · exact h
theorem zs_set (pre : List Int) (m : Nat) (v : Int) : (pre ++ zs (m + 1)).set pre.length v = (pre ++ [v]) ++ zs m := by
  rw [List.set_append_right _ _ (Nat.le_refl _), Nat.sub_self, zs, List.replicate_succ, List.set_cons_zero, List.append_assoc]; rfl
theorem zs_zf (n : Nat) (k : Int) : (zs n).map (zf k) = (zs n).map fun _ => k := List.map_congr_left fun x hx => by
  rw [List.eq_of_mem_replicate hx, zf, if_pos rfl]
theorem kB_of {st k : Int} (h : 200 ≤ k ∧ k ≤ 599) : 200 ≤ kB st k ∧ kB st k ≤ 599 := by
  unfold kB; split <;> omega
theorem kB_c451 (k : Int) : c451 (kB 5 k) = kB 5 k := by
  have h : ¬ ((300 ≤ kB 5 k) ∧ kB 5 k < 400) := by unfold kB; split <;> omega
  unfold c451
  cases h1 : (decide (kB 5 k ≥ 300) && decide (kB 5 k < 400)) with
  | false => rfl
  | true =>
    simp only [Bool.and_eq_true, decide_eq_true_eq] at h1
    exact absurd ⟨h1.1, h1.2⟩ h
theorem beg_quit {n : Nat} {lm : Bool} {body al : ByteArray} {st k : Int} (hst : st = 0 ∨ st = 1 ∨ st = 2) (hf : fineK k = false) (hk : 200 ≤ k ∧ k ≤ 599) (hX : ∃ t, allB lm n body = al ++ t) :
    RB n lm body (wantB lm (sB n lm st 0 [] (zs n)) (zs n) k) (goesM (mB n body) hB (sB n lm st 0 [] (zs n)) ByteArray.empty k).1 (al ++ (goesM (mB n body) hB (sB n lm st 0 [] (zs n)) ByteArray.empty k).2) 0 0 := by
  have h1 : goesM (mB n body) hB (sB n lm st 0 [] (zs n)) ByteArray.empty k = (quitS (sB n lm st 0 [] ((zs n).map (zf k))), quitO ByteArray.empty) := by
    unfold goesM beginM
    rw [show (sB n lm st 0 [] (zs n)).st = st from rfl, if_neg (by omega), if_neg (by omega), if_neg (by omega), if_neg (by omega), fine_good, hf]
    rfl
  have h2 : wantB lm (sB n lm st 0 [] (zs n)) (zs n) k = (zs n).map fun _ => k := by
    unfold wantB
    rw [show (sB n lm st 0 [] (zs n)).st = st from rfl, if_neg (by omega), if_neg (by omega), if_neg (by omega), hf]
    rfl
  rw [h1, h2]
  refine quit_to (by rw [zs_zf]) (by simp [zs]) (fun x hx => ?_) hX (.inl rfl)
  obtain ⟨_, _, rfl⟩ := List.mem_map.1 hx
  exact hk
theorem beg_good {n : Nat} {lm : Bool} {body : ByteArray} {st k : Int} (hst : st = 0 ∨ st = 1 ∨ st = 2) (hf : fineK k = true) :
    wantB lm (sB n lm st 0 [] (zs n)) (zs n) k = zs n := by
  unfold wantB
  rw [show (sB n lm st 0 [] (zs n)).st = st from rfl, if_neg (by omega), if_neg (by omega), if_neg (by omega), hf]
  rfl
theorem zs_len (n : Nat) : (zs n).length = n := by simp [zs]
theorem to_snoc {n : Nat} {lm : Bool} {body : ByteArray} (pre : List Int) (v : Int) (hl : pre.length < n) (hv : v = -1 ∨ (200 ≤ v ∧ v ≤ 599)) (hp : ∀ x ∈ pre, x = -1 ∨ (200 ≤ x ∧ x ≤ 599)) :
    ∀ x ∈ pre ++ [v], x = -1 ∨ (200 ≤ x ∧ x ≤ 599) := fun x hx => by
  rcases List.mem_append.1 hx with hx | hx
  · exact hp x hx
  · rw [List.mem_singleton] at hx; subst hx; exact hv
theorem to_two {n : Nat} {lm : Bool} {body : ByteArray} (pre : List Int) (v : Int) (hl : pre.length < n) (hv : ∀ x ∈ pre ++ [v], x = -1 ∨ (200 ≤ x ∧ x ≤ 599)) (s2 : Sd)
    (h2 : s2 = sB n lm 3 ((pre ++ [v]).length : Nat) (negI 0 (pre ++ [v])) ((pre ++ [v]).map f0 ++ zs (n - (pre ++ [v]).length))) (p : Sd × ByteArray)
    (hp : p = if s2.at_ < s2.rc.length then (s2, nameO (mB n body) s2 ByteArray.empty) else if s2.tk.length = 0 then (quitS s2, quitO ByteArray.empty) else ({ s2 with st := 4, at_ := 0 }, sayO ByteArray.empty (⟨#[68, 65, 84, 65]⟩ : ByteArray))) :
    ∃ μ', μ' < 2 * n + 1 - pre.length ∧ RB n lm body ((pre ++ [v]) ++ zs (n - (pre ++ [v]).length)) p.1 (FR lm (pre.length + 1) ++ p.2) 0 μ' := by
  have hlen : (pre ++ [v]).length = pre.length + 1 := by simp
  have e1 : s2.at_ = ((pre ++ [v]).length : Nat) := by rw [h2]; rfl
  have e2 : (s2.rc.length : Int) = n := by rw [h2]; show ((icB n).length : Int) = n; rw [icB_len]
  have e3 : s2.tk = negI 0 (pre ++ [v]) := by rw [h2]; rfl
  by_cases c1 : (pre ++ [v]).length < n
  · rw [if_pos (by rw [e1, e2]; omega)] at hp
    rw [hp, ← hlen, h2]
    refine ⟨2 * n + 1 - (pre ++ [v]).length, by omega, ?_⟩
    have := RB.rcp (n := n) (lm := lm) (body := body) (pre ++ [v]) c1 hv
    rw [← say3 c1 lm (negI 0 (pre ++ [v])) ((pre ++ [v]).map f0 ++ zs (n - (pre ++ [v]).length)) body] at this
    exact this
  · have hn : (pre ++ [v]).length = n := by omega
    rw [if_neg (by rw [e1, e2]; omega)] at hp
    have e0 : zs (n - (pre ++ [v]).length) = [] := by rw [hn, Nat.sub_self]; rfl
    rw [e0, List.append_nil] at h2 ⊢
    by_cases c2 : s2.tk.length = 0
    · rw [if_pos c2] at hp
      have hnn := negI_nil (show negI 0 (pre ++ [v]) = [] by rw [← e3]; exact List.length_eq_zero_iff.1 c2)
      rw [hp, h2, ← hlen, hn]
      exact ⟨0, by omega, quit_to (f0_id hnn) hn (fun x hx => (hv x hx).resolve_left (hnn x hx)) (pre_FR lm (Nat.le_refl n) body) (.inl rfl)⟩
    · rw [if_neg c2] at hp
      have hne : negI 0 (pre ++ [v]) ≠ [] := fun h => c2 (by rw [e3, h]; rfl)
      rw [hp, h2, ← hlen, hn]
      refine ⟨n + 1, by omega, ?_⟩
      have := RB.ask (n := n) (lm := lm) (body := body) (pre ++ [v]) hn hv hne
      have e : FR lm n ++ sayO ByteArray.empty (⟨#[68, 65, 84, 65]⟩ : ByteArray) = FR lm n ++ (⟨#[68, 65, 84, 65, 13, 10]⟩ : ByteArray) := by
        rw [show sayO ByteArray.empty (⟨#[68, 65, 84, 65]⟩ : ByteArray) = (⟨#[68, 65, 84, 65, 13, 10]⟩ : ByteArray) by decide +kernel]
      show RB n lm body (pre ++ [v]) (sB n lm 4 0 (negI 0 (pre ++ [v])) ((pre ++ [v]).map f0)) (FR lm n ++ sayO ByteArray.empty (⟨#[68, 65, 84, 65]⟩ : ByteArray)) 0 (n + 1)
      rw [e]; exact this
theorem stepB {n : Nat} {lm : Bool} {body al : ByteArray} {w : List Int} {s : Sd} {en : Int} {μ : Nat} (h : RB n lm body w s al en μ) (hn : 1 ≤ n) {k : Int} (hk : 200 ≤ k ∧ k ≤ 599) (h6 : s.st ≠ 6) (en' : Int) (he : s.st ≠ 5 → en' = en) :
    ∃ μ', μ' < μ ∧ RB n lm body (wantB lm s w k) (goesM (mB n body) hB s ByteArray.empty (kB s.st k)).1 (al ++ (goesM (mB n body) hB s ByteArray.empty (kB s.st k)).2) en' μ' := by
  have kn : ∀ st : Int, st ≠ 5 → kB st k = k := fun st h => by rw [kB, if_neg (fun h' => h h'.1)]
  cases h with
  | g0 =>
    obtain rfl := he (by show (0 : Int) ≠ 5; decide)
    rw [show (sB n lm 0 0 [] (zs n)).st = 0 from rfl, kn 0 (by decide)]
    cases hf : fineK k with
    | false => exact ⟨0, by omega, beg_quit (.inl rfl) hf hk (pre_nil lm n body)⟩
    | true =>
      refine ⟨2 * n + 3, by omega, ?_⟩
      rw [beg_good (body := body) (.inl rfl) hf]
      have h1 : goesM (mB n body) hB (sB n lm 0 0 [] (zs n)) ByteArray.empty k = (sB n lm 1 0 [] (zs n), sayO ByteArray.empty ((bif lm then (⟨#[76, 72, 76, 79, 32]⟩ : ByteArray) else (⟨#[69, 72, 76, 79, 32]⟩ : ByteArray)) ++ hB)) := by
        unfold goesM beginM
        rw [show (sB n lm 0 0 [] (zs n)).st = 0 from rfl, if_neg (by decide), if_neg (by decide), if_neg (by decide), if_neg (by decide), fine_good, hf, cond_true, if_pos rfl]
        rfl
      rw [h1, say0]
      exact .g1
  | g1 =>
    obtain rfl := he (by show (1 : Int) ≠ 5; decide)
    rw [show (sB n lm 1 0 [] (zs n)).st = 1 from rfl, kn 1 (by decide)]
    cases hf : fineK k with
    | false => exact ⟨0, by omega, beg_quit (.inr (.inl rfl)) hf hk (pre_hel lm n body)⟩
    | true =>
      refine ⟨2 * n + 2, by omega, ?_⟩
      rw [beg_good (body := body) (.inr (.inl rfl)) hf]
      have h1 : goesM (mB n body) hB (sB n lm 1 0 [] (zs n)) ByteArray.empty k = (sB n lm 2 0 [] (zs n), sayO ByteArray.empty (((⟨#[77, 65, 73, 76, 32, 70, 82, 79, 77, 58, 60]⟩ : ByteArray) ++ (bif (mB n body).nul then ⟨#[]⟩ else adrB (mB n body).fl (mB n body).fd)) ++ (⟨#[62]⟩ : ByteArray))) := by
        unfold goesM beginM
        rw [show (sB n lm 1 0 [] (zs n)).st = 1 from rfl, if_neg (by decide), if_neg (by decide), if_neg (by decide), if_neg (by decide), fine_good, hf, cond_true, if_neg (by decide), if_pos rfl]
        rfl
      rw [h1, say1]
      exact .g2
  | g2 =>
    obtain rfl := he (by show (2 : Int) ≠ 5; decide)
    rw [show (sB n lm 2 0 [] (zs n)).st = 2 from rfl, kn 2 (by decide)]
    cases hf : fineK k with
    | false => exact ⟨0, by omega, beg_quit (.inr (.inr rfl)) hf hk (pre_FR lm (Nat.zero_le n) body)⟩
    | true =>
      refine ⟨2 * n + 1, by omega, ?_⟩
      rw [beg_good (body := body) (.inr (.inr rfl)) hf]
      have h1 : goesM (mB n body) hB (sB n lm 2 0 [] (zs n)) ByteArray.empty k = (sB n lm 3 (0 : Nat) [] (zs n), nameO (mB n body) (sB n lm 3 (0 : Nat) [] (zs n)) ByteArray.empty) := by
        unfold goesM beginM
        rw [show (sB n lm 2 0 [] (zs n)).st = 2 from rfl, if_neg (by decide), if_neg (by decide), if_neg (by decide), if_neg (by decide), fine_good, hf, cond_true, if_neg (by decide), if_neg (by decide)]
        rfl
      rw [h1, say3 (by omega)]
      exact RB.rcp [] (by show 0 < n; omega) (fun x hx => by cases hx)
  | rcp pre hl hp =>
    obtain rfl := he (by show (3 : Int) ≠ 5; decide)
    rw [show (sB n lm 3 (pre.length : Nat) (negI 0 pre) (pre.map f0 ++ zs (n - pre.length))).st = 3 from rfl, kn 3 (by decide)]
    obtain ⟨d, hd⟩ : ∃ d, n - pre.length = d + 1 := ⟨n - pre.length - 1, by omega⟩
    have hw : wantB lm (sB n lm 3 (pre.length : Nat) (negI 0 pre) (pre.map f0 ++ zs (n - pre.length))) (pre ++ zs (n - pre.length)) k = (pre ++ [bif fineK k then -1 else k]) ++ zs (n - (pre ++ [bif fineK k then -1 else k]).length) := by
      unfold wantB
      rw [if_pos (show (sB n lm 3 (pre.length : Nat) (negI 0 pre) (pre.map f0 ++ zs (n - pre.length))).st = 3 from rfl)]
      show (pre ++ zs (n - pre.length)).set ((pre.length : Nat) : Int).toNat _ = _
      rw [Int.toNat_natCast, hd, zs_set]
      congr 2
      simp; omega
    rw [hw]
    refine to_two pre (bif fineK k then -1 else k) hl ?_ (bif fineK k then { sB n lm 3 (pre.length : Nat) (negI 0 pre) (pre.map f0 ++ zs (n - pre.length)) with tk := negI 0 pre ++ [(pre.length : Int)], at_ := (pre.length : Int) + 1 } else { sB n lm 3 (pre.length : Nat) (negI 0 pre) (pre.map f0 ++ zs (n - pre.length)) with cd := (pre.map f0 ++ zs (n - pre.length)).set (pre.length : Int).toNat k, at_ := (pre.length : Int) + 1 }) ?_ _ ?_
    · refine to_snoc (lm := lm) (body := body) pre _ hl ?_ hp
      cases fineK k
      · exact .inr hk
      · exact .inl rfl
    · have hlen : ∀ v : Int, (pre ++ [v]).length = pre.length + 1 := fun v => by simp
      have hdd : n - (pre.length + 1) = d := by omega
      cases hf : fineK k with
      | true =>
        show sB n lm 3 ((pre.length : Int) + 1) (negI 0 pre ++ [(pre.length : Int)]) (pre.map f0 ++ zs (n - pre.length)) = sB n lm 3 ((pre ++ [-1]).length : Nat) (negI 0 (pre ++ [-1])) ((pre ++ [-1]).map f0 ++ zs (n - (pre ++ [-1]).length))
        have e1 : negI 0 (pre ++ [-1]) = negI 0 pre ++ [(pre.length : Int)] := by
          rw [negI_append, Nat.zero_add]; rfl
        have e2 : (pre ++ [-1]).map f0 ++ zs d = pre.map f0 ++ zs (d + 1) := by
          rw [List.map_append, List.append_assoc]; rfl
        rw [hlen, hdd, hd, e1, e2]
        rfl
      | false =>
        have hk1 : k ≠ -1 := by omega
        show sB n lm 3 ((pre.length : Int) + 1) (negI 0 pre) ((pre.map f0 ++ zs (n - pre.length)).set (pre.length : Int).toNat k) = sB n lm 3 ((pre ++ [k]).length : Nat) (negI 0 (pre ++ [k])) ((pre ++ [k]).map f0 ++ zs (n - (pre ++ [k]).length))
        have e1 : negI 0 (pre ++ [k]) = negI 0 pre := by
          rw [negI_append, Nat.zero_add, negI, if_neg hk1, negI, List.append_nil]
        have e2 : (pre.map f0 ++ zs (d + 1)).set (pre.length : Int).toNat k = (pre ++ [k]).map f0 ++ zs d := by
          have := zs_set (pre.map f0) d k
          rw [List.length_map] at this
          rw [Int.toNat_natCast, this, List.map_append]
          show _ = (pre.map f0 ++ [f0 k]) ++ zs d
          rw [f0, if_neg hk1]
        rw [hlen, hdd, hd, e1, e2]
        rfl
    · unfold goesM namedM
      rw [if_pos (show (sB n lm 3 (pre.length : Nat) (negI 0 pre) (pre.map f0 ++ zs (n - pre.length))).st = 3 from rfl), fine_good]
      rfl
  | ask w hl hw hne =>
    obtain rfl := he (by show (4 : Int) ≠ 5; decide)
    rw [show (sB n lm 4 0 (negI 0 w) (w.map f0)).st = 4 from rfl, kn 4 (by decide)]
    have hg : goesM (mB n body) hB (sB n lm 4 0 (negI 0 w) (w.map f0)) ByteArray.empty k = askedM (mB n body) (sB n lm 4 0 (negI 0 w) (w.map f0)) ByteArray.empty k := by
      unfold goesM
      rw [show (sB n lm 4 0 (negI 0 w) (w.map f0)).st = 4 from rfl, if_neg (by decide), if_pos rfl]
    have hwt : wantB lm (sB n lm 4 0 (negI 0 w) (w.map f0)) w k = if k = 354 then w else w.map (putW (bif fineK k then 451 else k)) := by
      unfold wantB
      rw [show (sB n lm 4 0 (negI 0 w) (w.map f0)).st = 4 from rfl, if_neg (by decide), if_pos rfl]
    rw [hg, hwt]
    unfold askedM
    by_cases h3 : k = 354
    · rw [if_pos h3, if_pos h3]
      refine ⟨(negI 0 w).length, by have := negI_len w 0; omega, ?_⟩
      have := RB.bod (n := n) (lm := lm) (body := body) w (negI 0 w) 0 0 hl hw (negI_ris w 0 none n (fun q hq => by cases hq) (by omega)) rfl hne (fun _ => rfl)
      have e : (FR lm n ++ (⟨#[68, 65, 84, 65, 13, 10]⟩ : ByteArray)) ++ (ByteArray.empty ++ layO (mB n body).body) = allB lm n body := bl_inj (by rw [allB]; simp only [bl_append]; rfl)
      show RB n lm body w (sB n lm 5 (0 : Nat) (negI 0 w) (w.map f0)) ((FR lm n ++ (⟨#[68, 65, 84, 65, 13, 10]⟩ : ByteArray)) ++ (ByteArray.empty ++ layO (mB n body).body)) 0 _
      rw [e]; exact this
    · rw [if_neg h3, if_neg h3, fine_good]
      refine ⟨0, by omega, ?_⟩
      exact quit_to (cd := fillT (negI 0 w) (w.map f0) (bif fineK k then 451 else k)) (fillT_neg0 _ w) (by simp [hl]) (putW_ok (by cases fineK k <;> simp <;> omega) hw) (pre_data lm n body) (.inl rfl)
  | bod w tk a en hl hw ht hd hne ha =>
    rw [show (sB n lm 5 (a : Nat) tk (w.map f0)).st = 5 from rfl]
    have hkk := kB_of (st := 5) hk
    have hg : goesM (mB n body) hB (sB n lm 5 (a : Nat) tk (w.map f0)) ByteArray.empty (kB 5 k) = bodiedM (sB n lm 5 (a : Nat) tk (w.map f0)) ByteArray.empty (kB 5 k) := by
      unfold goesM
      rw [show (sB n lm 5 (a : Nat) tk (w.map f0)).st = 5 from rfl, if_neg (by decide), if_neg (by decide), if_pos rfl]
    have hwt : wantB lm (sB n lm 5 (a : Nat) tk (w.map f0)) w k = bif lm then putF (kB 5 k) w else w.map (putW (kB 5 k)) := by
      unfold wantB
      rw [show (sB n lm 5 (a : Nat) tk (w.map f0)).st = 5 from rfl, if_neg (by decide), if_neg (by decide), if_pos rfl]
    rw [hg, hwt]
    unfold bodiedM
    rw [show (sB n lm 5 (a : Nat) tk (w.map f0)).lm = lm from rfl, kB_c451]
    have hpos := List.length_pos_iff.2 hne
    cases lm with
    | false =>
      obtain rfl := ha rfl
      rw [cond_false, cond_false]
      refine ⟨0, hpos, ?_⟩
      have hd : tk = negI 0 w := hd
      subst hd
      exact quit_to (cd := fillT (negI 0 w) (w.map f0) (kB 5 k)) (fillT_neg0 _ w) (by simp [hl]) (putW_ok hkk hw) (pre_all false n body) (.inr rfl)
    | true =>
      rw [cond_true, cond_true]
      obtain ⟨k0, t, hkt⟩ := List.exists_cons_of_ne_nil hne
      obtain ⟨j, hj, hj0, hjg, hjt, hjn, hjc⟩ := neg_first (c := kB 5 k) (by omega) w 0 k0 t hkt
      rw [hkt] at hd
      have hta : tk[a]? = some k0 := by
        have := congrArg List.head? hd
        rw [List.head?_drop] at this
        exact this
      have htl : tk.drop (a + 1) = t := by
        have := congrArg List.tail hd
        rw [List.tail_drop] at this
        exact this
      have hal : a < tk.length := (List.getElem?_eq_some_iff.1 hta).1
      have hput : putF (kB 5 k) w = w.set j (kB 5 k) := putF_set w j hjg hjt
      have hlt : t.length = tk.length - (a + 1) := by rw [← htl, List.length_drop]
      have hwset : ∀ x ∈ w.set j (kB 5 k), x = -1 ∨ (200 ≤ x ∧ x ≤ 599) := fun x hx => by
        rcases List.mem_or_eq_of_mem_set hx with hx | hx
        · exact hw x hx
        · exact .inr (hx ▸ hkk)
      have hcd : (w.map f0).set (rdx tk a IT.dflt).toNat (kB 5 k) = (w.set j (kB 5 k)).map f0 := by
        rw [show rdx tk a IT.dflt = k0 from nth_of hta IT.dflt, hj0, Int.toNat_natCast, Nat.zero_add]; exact hjc
      rw [hput]
      show ∃ μ', μ' < (negI 0 w).length ∧ RB n true body (w.set j (kB 5 k)) (if ((a : Nat) : Int) + 1 = tk.length then (quitS (sB n true 5 (((a : Nat) : Int) + 1) tk ((w.map f0).set (rdx tk ((a : Nat) : Int).toNat IT.dflt).toNat (kB 5 k))), quitO ByteArray.empty) else (sB n true 5 (((a : Nat) : Int) + 1) tk ((w.map f0).set (rdx tk ((a : Nat) : Int).toNat IT.dflt).toNat (kB 5 k)), ByteArray.empty)).1 (allB true n body ++ (if ((a : Nat) : Int) + 1 = tk.length then (quitS (sB n true 5 (((a : Nat) : Int) + 1) tk ((w.map f0).set (rdx tk ((a : Nat) : Int).toNat IT.dflt).toNat (kB 5 k))), quitO ByteArray.empty) else (sB n true 5 (((a : Nat) : Int) + 1) tk ((w.map f0).set (rdx tk ((a : Nat) : Int).toNat IT.dflt).toNat (kB 5 k)), ByteArray.empty)).2) en' μ'
      rw [Int.toNat_natCast, hcd]
      by_cases hlast : t = []
      · rw [if_pos (by rw [hlast] at hlt; simp at hlt; omega)]
        subst hlast
        have hnn := negI_nil hjn
        exact ⟨0, hpos, quit_to (f0_id hnn) (by simp [hl]) (fun x hx => (hwset x hx).resolve_left (hnn x hx)) (pre_all true n body) (.inr rfl)⟩
      · rw [if_neg (by have := List.length_pos_iff.2 hlast; omega)]
        refine ⟨t.length, by rw [hkt]; simp, ?_⟩
        have := RB.bod (n := n) (lm := true) (body := body) (w.set j (kB 5 k)) tk (a + 1) en' (by simp [hl]) hwset ht (by rw [htl, hjn]) (by rw [hjn]; exact hlast) (fun h => by cases h)
        rw [hjn] at this
        have e : allB true n body ++ ByteArray.empty = allB true n body := bl_inj (by rw [bl_append]; show _ ++ [] = _; rw [List.append_nil])
        rw [e]
        exact this
  | quit => exact absurd rfl h6
theorem jobB0 : (List.range 8).all (fun i => jobP (jB (i + 1)) (mB (i + 1) ByteArray.empty)) = true := by decide +kernel
theorem jobB {n : Nat} (h1 : 1 ≤ n) (h8 : n ≤ 8) (body : ByteArray) : jobP (jB n) (mB n body) = true := by
  have := List.all_eq_true.1 jobB0 (n - 1) (List.mem_range.2 (by omega))
  rw [Nat.sub_add_cancel h1] at this
  exact this
theorem mailB0 : (List.range 8).all (fun i => mailP (mB (i + 1) ByteArray.empty).ml) = true := by decide +kernel
theorem mailB {n : Nat} (h1 : 1 ≤ n) (h8 : n ≤ 8) {body : ByteArray} (hb : mayT (bl body) = true) : mailP (mB n body).ml = true := by
  have h0 := List.all_eq_true.1 mailB0 (n - 1) (List.mem_range.2 (by omega))
  rw [Nat.sub_add_cancel h1] at h0
  unfold mailP at h0 ⊢
  rw [Bool.and_eq_true] at h0 ⊢
  exact ⟨h0.1, hb⟩
theorem hostB : hostP hB = true := by decide +kernel
theorem placeB {n : Nat} {lm : Bool} {body : ByteArray} {w : List Int} {s : Sd} {al : ByteArray} {en : Int} {μ : Nat} (h : RB n lm body w s al en μ) (h1 : 1 ≤ n) : placeP s = true := by
  cases h with
  | g0 => rfl
  | g1 => rfl
  | g2 => rfl
  | quit => rfl
  | rcp pre hl hp =>
    have hr := negI_ris pre 0 none pre.length (fun q hq => by cases hq) (by omega)
    unfold placeP
    rw [if_pos (show (sB n lm 3 (pre.length : Nat) (negI 0 pre) (pre.map f0 ++ zs (n - pre.length))).st = 3 from rfl)]
    show (decide ((0 : Int) ≤ (pre.length : Nat)) && decide (((pre.length : Nat) : Int) ≤ ((icB n).length : Int) - 1) && risB (negI 0 pre) (pre.length : Nat)) = true
    rw [icB_len]
    simp only [Bool.and_eq_true, decide_eq_true_eq]
    exact ⟨⟨by omega, by omega⟩, hr⟩
  | ask w hl hw hne =>
    have hr := negI_ris w 0 none n (fun q hq => by cases hq) (by omega)
    unfold placeP
    rw [show (sB n lm 4 0 (negI 0 w) (w.map f0)).st = 4 from rfl, if_neg (by decide), if_pos rfl]
    show ((0 : Int) == 0 && (decide (((negI 0 w).length : Int) > 0) && risB (negI 0 w) ((icB n).length : Nat))) = true
    rw [icB_len]
    have := List.length_pos_iff.2 hne
    simp only [Bool.and_eq_true, decide_eq_true_eq]
    exact ⟨rfl, by omega, hr⟩
  | bod w tk a en hl hw ht hd hne ha =>
    unfold placeP
    rw [show (sB n lm 5 (a : Nat) tk (w.map f0)).st = 5 from rfl, if_neg (by decide), if_neg (by decide), if_pos rfl]
    show (decide ((tk.length : Int) > 0) && (risB tk ((icB n).length : Nat) && (((a : Nat) : Int) == 0 || (lm && (decide ((0 : Int) ≤ (a : Nat)) && decide (((a : Nat) : Int) ≤ (tk.length : Int) - 1)))))) = true
    rw [icB_len]
    have hpos := List.length_pos_iff.2 hne
    rw [← hd, List.length_drop] at hpos
    simp only [Bool.and_eq_true, Bool.or_eq_true, decide_eq_true_eq]
    refine ⟨by omega, ht, ?_⟩
    cases lm with
    | true => exact .inr ⟨rfl, by omega, by omega⟩
    | false => rw [ha rfl]; exact .inl rfl
theorem cdB {n : Nat} {lm : Bool} {body : ByteArray} {w : List Int} {s : Sd} {al : ByteArray} {en : Int} {μ : Nat} (h : RB n lm body w s al en μ) : ∃ st a tk cd, s = sB n lm st a tk cd ∧ (0 ≤ st ∧ st ≤ 6) ∧ cd.length = n ∧ (∀ x ∈ cd, 0 ≤ x ∧ x ≤ 599) ∧ tk.length ≤ n ∧ w.length = n := by
  have hz : ∀ k : Nat, ∀ x ∈ zs k, (0 : Int) ≤ x ∧ x ≤ 599 := fun k x hx => by rw [List.eq_of_mem_replicate hx]; decide
  have hf : ∀ {l : List Int}, (∀ x ∈ l, x = -1 ∨ (200 ≤ x ∧ x ≤ 599)) → ∀ x ∈ l.map f0, (0 : Int) ≤ x ∧ x ≤ 599 := fun hp x hx => by
    obtain ⟨y, hy, rfl⟩ := List.mem_map.1 hx
    rw [f0]
    split
    · decide
    · rcases hp y hy with h | h <;> omega
  cases h with
  | g0 => exact ⟨0, 0, [], zs n, rfl, by decide, zs_len n, hz n, Nat.zero_le _, zs_len n⟩
  | g1 => exact ⟨1, 0, [], zs n, rfl, by decide, zs_len n, hz n, Nat.zero_le _, zs_len n⟩
  | g2 => exact ⟨2, 0, [], zs n, rfl, by decide, zs_len n, hz n, Nat.zero_le _, zs_len n⟩
  | rcp pre hl hp =>
    refine ⟨3, _, _, _, rfl, by decide, by simp [zs]; omega, fun x hx => ?_, Nat.le_trans (negI_len pre 0) (by omega), by simp [zs]; omega⟩
    rcases List.mem_append.1 hx with hx | hx
    · exact hf hp x hx
    · exact hz _ x hx
  | ask w hl hw hne => exact ⟨4, _, _, _, rfl, by decide, by simp [hl], hf hw, Nat.le_trans (negI_len w 0) (by omega), hl⟩
  | bod w tk a en hl hw ht hd hne ha => exact ⟨5, _, _, _, rfl, by decide, by simp [hl], hf hw, by have := ris_count ht (by omega); omega, hl⟩
  | quit w X t en hl hw hX he => exact ⟨6, _, _, _, rfl, by decide, hl, fun x hx => by have := hw x hx; omega, Nat.zero_le _, hl⟩
theorem RB.may {n : Nat} {lm : Bool} {body : ByteArray} {w : List Int} {s : Sd} {al : ByteArray} {en : Int} {μ : Nat} (h : RB n lm body w s al en μ) (h1 : 1 ≤ n) (h8 : n ≤ 8) : maySd s (mB n body) = true := by
  have hp := placeB h h1
  obtain ⟨st, a, tk, cd, rfl, hst, hl, hc, _⟩ := cdB h
  have hj : jobP (sB n lm st a tk cd).jb (mB n body) = true := jobB h1 h8 body
  have hk : (sB n lm st a tk cd).cd.any badK = false := by
    rw [List.any_eq_false]
    intro x hx
    have := hc x hx
    rw [badK, decide_eq_true this.1, decide_eq_true this.2]; decide
  have hcl : (((sB n lm st a tk cd).cd.length : Int) == (sB n lm st a tk cd).rc.length) = true := by
    show ((cd.length : Int) == ((icB n).length : Int)) = true
    rw [icB_len, hl]; exact beq_self_eq_true _
  unfold maySd
  rw [hj, hk, hcl, hp]
  simp only [Bool.and_eq_true, decide_eq_true_eq]
  refine ⟨⟨⟨by show (1 : Int) ≤ 1; decide, by show (1 : Int) ≤ 1099511627776; decide⟩, trivial, ⟨hst.1, by show st ≤ 7; omega⟩, ⟨by show (0 : Int) ≤ 0; decide, by show (0 : Int) ≤ 100; decide⟩, rfl⟩, trivial, rfl, trivial, rfl⟩
theorem RB.fit {n : Nat} {lm : Bool} {body : ByteArray} {w : List Int} {s : Sd} {al : ByteArray} {en : Int} {μ : Nat} (h : RB n lm body w s al en μ) (h8 : n ≤ 8) : s.fit := by
  obtain ⟨st, a, tk, cd, rfl, _, hl, _, ht, _⟩ := cdB h
  refine ⟨⟨?_, ?_, ?_, ?_⟩, ?_, ?_, fun x hx => by cases hx⟩
  · show (icB n).length ≤ big; rw [icB_len]; simp only [big]; omega
  · show tk.length ≤ big; simp only [big]; omega
  · show cd.length ≤ big; simp only [big]; omega
  · show (0 : Nat) ≤ big; omega
  · show (1 : Nat) ≤ mid; decide
  · show (0 : Nat) ≤ big; omega
theorem nums_size {l : List Int} (h : ∀ c ∈ l, 0 ≤ c ∧ c ≤ 255) : (strOfNums l).size = l.length := by
  rw [← bl_len, bl_nums l h]
theorem mid_fit {A : List Int} {k : Int} (hA : chkA A k = true) (hl : A.length ≤ 100) {s : Sd} (h : s.fit) {p : Nat} (hp : p ≤ A.length) : (midS s A p).fit := by
  have h1 := chkA.p hA hp
  have hsc := scan_len (A.take p) [] false
  unfold chkP at h1
  simp only [Bool.and_eq_true, decide_eq_true_eq] at h1
  have hr : (strOfNums (opnA A p)).size < 512 := by
    rw [nums_size fun c hc => of_decide_eq_true (List.all_eq_true.1 h1.1.1.2 c hc)]
    exact h1.1.1.1.2
  refine ⟨⟨h.1.1, h.1.2.1, h.1.2.2.1, ?_⟩, h.2.1, ?_, fun x hx => ?_⟩
  · show ((lnsA A p).map strOfNums).length ≤ big
    have := hsc.1
    rw [List.length_map, lnsA, List.length_map]
    simp only [List.length_take] at this
    simp only [big]; omega
  · show (strOfNums (opnA A p)).size ≤ big
    simp only [big]; omega
  · obtain ⟨l, hl2, rfl⟩ := List.mem_map.1 hx
    have h2 : ∀ c ∈ l, 0 ≤ c ∧ c ≤ 255 := fun c hc => of_decide_eq_true (List.all_eq_true.1 (List.all_eq_true.1 h1.2 l hl2) c hc)
    rw [nums_size h2]
    obtain ⟨y, hy, rfl⟩ := List.mem_map.1 hl2
    have := hsc.2 y hy
    simp only [big]; omega
theorem mid_rest {A : List Int} {k : Int} (hA : chkA A k = true) {s : Sd} {p : Nat} (hp : p ≤ A.length) : (midS s A p).rest.size ≤ 512 := by
  have h1 := chkA.p hA hp
  unfold chkP at h1
  simp only [Bool.and_eq_true, decide_eq_true_eq] at h1
  have hr : (strOfNums (opnA A p)).size < 512 := by
    rw [nums_size fun c hc => of_decide_eq_true (List.all_eq_true.1 h1.1.1.2 c hc)]
    exact h1.1.1.1.2
  exact Nat.le_of_lt hr
theorem mB_fit {n : Nat} (h8 : n ≤ 8) {body : ByteArray} (hb : body.size ≤ 3000) : (mB n body).fit := by
  refine ⟨⟨?_, fun r hr => ?_, ?_⟩, ?_⟩
  · exact mM_sml.1
  · obtain ⟨i, rfl⟩ := rcB_mem (show r ∈ rcB n from hr)
    have h1 : (locB i).size = 1 := rfl
    show (locB i).size + (1 : Nat) < mid
    rw [h1]; decide
  · show (rcB n).length ≤ big; rw [rcB_len]; simp only [big]; omega
  · show body.size ≤ big; simp only [big]; omega
theorem RB.codes {n : Nat} {lm : Bool} {body : ByteArray} {w : List Int} {s : Sd} {al : ByteArray} {en : Int} {μ : Nat} (h : RB n lm body w s al en μ) (h6 : s.st = 6) (h1 : 1 ≤ n) (h8 : n ≤ 8) (hb : mayT (bl body) = true) : codesL s (mB n body) = (w, 0) := by
  have h2 := mailB h1 h8 hb
  have h3 := h.may h1 h8
  unfold codesL
  rw [h2, h3, Bool.and_true, cond_true, if_pos (.inl h6)]
  cases h with
  | g0 => cases h6
  | g1 => cases h6
  | g2 => cases h6
  | rcp => exact absurd h6 (by show ¬ (3 : Int) = 6; decide)
  | ask => exact absurd h6 (by show ¬ (4 : Int) = 6; decide)
  | bod => exact absurd h6 (by show ¬ (5 : Int) = 6; decide)
  | quit => rfl
end Go.Proofs.YtilagaapfbfkkaaGreatDoor.Ab
namespace Go.Proofs.YtilagaapfbfkkaaGreatDoor.Ab
open Go Go.RowKit Go.Proofs.YtilagaapfbfkkaaGreatDoorW.PrintWords
def ownsAt (σ : St) : List Nat → List Nat
  | [] => []
  | t :: l => match nth σ.tmps t with
    | some (.one (.own i)) => i :: ownsAt σ l
    | _ => ownsAt σ l
def frzSl (fs : List Nat) (σ : St) (Q : St → Prop) : Prop :=
  match fs with
  | [] => Q σ
  | t :: l => frzAll (ownsAt σ (t :: l)) σ [] fun σ' _ => Q σ'
def evCodeJ (T : Tab) (Γ : Sems) (L : Nat → List Nat) (J : Nat → Option (List Nat)) (F : Nat → List Nat) (m : Nat) : Code → St → (Ex → St → Prop) → Prop
  | .skip, σ, Q => Q .normal σ
  | .region _ ops draw, σ, Q => bif draw then (∃ dirty pl, Okd (Region.noSelect ops && planB ops pl) ∧ evReg T Γ ops.toList (len σ.objs) dirty pl σ Q) else evOps T Γ ops.toList ops.toList σ Q
  | .seq a b, σ, Q => match J ((firstRegion b).getD 0) with
    | none => evCodeJ T Γ L J F m a σ fun e σ' => match e with
      | .normal => evCodeJ T Γ L J F m b σ' Q
      | e => Q e σ'
    | some ks => ∃ I : St → Prop, (evCodeJ T Γ L J F m a σ fun e σ' => match e with
      | .normal => frzSl (F ((firstRegion b).getD 0)) σ' fun σ'' => gc m ks σ'' I
      | e => Q e σ') ∧ ∀ σ', I σ' → evCodeJ T Γ L J F m b σ' Q
  | .cond c a b, σ, Q => match opd σ c with
    | .one (.bool g) => Br g (evCodeJ T Γ L J F m a σ Q) (evCodeJ T Γ L J F m b σ Q)
    | _ => False
  | .block id a, σ, Q => evCodeJ T Γ L J F m a σ fun e σ' => match e with
    | .exit i => if i = id then Q .normal σ' else Q (.exit i) σ'
    | e => Q e σ'
  | .loop a, σ, Q => gc m (L ((firstRegion a).getD 0)) σ fun σ' => ∃ n, evIter (evCodeJ T Γ L J F m a) (gc m (L ((firstRegion a).getD 0))) n σ' Q
  | .exit id, σ, Q => Q (.exit id) σ
  | .ret, σ, Q => Q .ret σ
  | _, _, _ => False
def evFnJ (T : Tab) (Γ : Sems) (L : Nat → List Nat) (J : Nat → Option (List Nat)) (F : Nat → List Nat) (fn : Func) (os : List Ob) (as_ : List V) (Q : List Ob → Out → Prop) : Prop :=
  match fn.body with
  | none => False
  | some c => evCodeJ T Γ L J F (len os) c ⟨padT fn.ntmps as_, os⟩ fun e σ => match e with
    | .normal | .ret => resK T σ fn.results.toList fun r => gc (len os) [0] ⟨[outOf r], σ.objs⟩ fun σ' => match σ'.tmps with
      | [v] => Q σ'.objs (.ret v)
      | _ => False
    | .panic p => gc (len os) [] ⟨[], σ.objs⟩ fun σ' => Q σ'.objs (.pan p)
    | .exit _ => False
variable {X : Cx} {P : Program} {T : Tab} {Γ : Sems}
theorem frzSl_sound {M : Nat → Prop} {w0 w : World} {lk : List Value} {a : Act} : ∀ (fs : List Nat) {σ : St} {Q : St → Prop}, frzSl fs σ Q → Rel X w lk σ a → Inv X M w0 w lk → ∃ lk' σ', Q σ' ∧ Rel X w lk' σ' a ∧ Inv X M w0 w lk'
  | [], σ, Q, h, hr, hi => ⟨lk, σ, h, hr, hi⟩
  | t :: l, σ, Q, h, hr, hi => by
    obtain ⟨lk', σ', l', h2, hr', hi', _, _⟩ := frzAll_sound (us := []) _ h hr hi trivial
    exact ⟨lk', σ', h2, hr', hi'⟩
theorem evCodeJ_sound (hT : TabOK P T) (hΓ : SemsOK X.gr P Γ) {M : Nat → Prop} {w0 : World} {L : Nat → List Nat} {J : Nat → Option (List Nat)} {F : Nat → List Nat} {m : Nat} (hm : X.l0.length = m) :
    ∀ (c : Code) {σ : St} {a : Act} {w : World} {lk : List Value} {Q : Ex → St → Prop} {QQ : Exit → Act → World → Prop}, evCodeJ T Γ L J F m c σ Q → Rel X w lk σ a → Inv X M w0 w lk → FF X M w0 Q QQ → (noDraw c = true ∨ ∀ c a a' w, a'.defers = a.defers → QQ (.panic c) a w → QQ (.panic c) a' w) → c.wp P QQ a w
  | .skip, σ, a, w, lk, Q, QQ, h, hr, hi, hF, hP => wp_skip (hF _ _ _ _ _ _ h rfl hr hi)
  | .region id ops draw, σ, a, w, lk, Q, QQ, h, hr, hi, hF, hP => by
    simp only [evCodeJ] at h
    cases draw with
    | true => obtain ⟨dirty, pl, h1, h2⟩ := h; exact region_sound hT hΓ hF (hP.resolve_left (by simp [noDraw])) h1.h h2 hr hi
    | false =>
      refine wp_region ?_
      rw [List.range_eq_range']
      exact evOps_sound hT hΓ hF ops.size 0 (by omega) h hr hi
  | .seq x y, σ, a, w, lk, Q, QQ, h, hr, hi, hF, hP => by
    simp only [evCodeJ] at h
    have hPx : noDraw x = true ∨ ∀ c a a' w, a'.defers = a.defers → QQ (.panic c) a w → QQ (.panic c) a' w := hP.imp (fun h => by simp only [noDraw, Bool.and_eq_true] at h; exact h.1) id
    have hPy : noDraw y = true ∨ ∀ c a a' w, a'.defers = a.defers → QQ (.panic c) a w → QQ (.panic c) a' w := hP.imp (fun h => by simp only [noDraw, Bool.and_eq_true] at h; exact h.2) id
    split at h
    · refine wp_seq (evCodeJ_sound hT hΓ hm x h hr hi ?_ (hPx.imp id fun hP c a a' w h1 h2 => hP c a a' w h1 h2))
      intro e σ' a' w' lk' ex hq he hr' hi'
      cases e with
      | normal =>
        simp only [exOf, Option.some.injEq] at he; subst he
        exact evCodeJ_sound hT hΓ hm y hq hr' hi' hF hPy
      | exit i => simp only [exOf, Option.some.injEq] at he; subst he; exact hF _ _ _ _ _ _ hq rfl hr' hi'
      | ret => simp only [exOf, Option.some.injEq] at he; subst he; exact hF _ _ _ _ _ _ hq rfl hr' hi'
      | panic c =>
        have := hF _ _ _ _ _ ex hq he hr' hi'
        cases c <;> simp [exOf] at he
        subst he; exact this
    · obtain ⟨I, h, hb⟩ := h
      refine wp_seq (evCodeJ_sound hT hΓ hm x h hr hi ?_ (hPx.imp id fun hP c a a' w h1 h2 => hP c a a' w h1 h2))
      intro e σ' a' w' lk' ex hq he hr' hi'
      cases e with
      | normal =>
        simp only [exOf, Option.some.injEq] at he; subst he
        obtain ⟨lk1, σ1, hq1, hr1, hi1⟩ := frzSl_sound _ hq hr' hi'
        obtain ⟨σ2, lk2, hq2, hr2, hi2⟩ := gc_sound hq1 hr1 hi1 hm
        exact evCodeJ_sound hT hΓ hm y (hb _ hq2) hr2 hi2 hF hPy
      | exit i => simp only [exOf, Option.some.injEq] at he; subst he; exact hF _ _ _ _ _ _ hq rfl hr' hi'
      | ret => simp only [exOf, Option.some.injEq] at he; subst he; exact hF _ _ _ _ _ _ hq rfl hr' hi'
      | panic c =>
        have := hF _ _ _ _ _ ex hq he hr' hi'
        cases c <;> simp [exOf] at he
        subst he; exact this
  | .cond c x y, σ, a, w, lk, Q, QQ, h, hr, hi, hF, hP => by
    simp only [evCodeJ] at h
    split at h
    · rename_i g hc
      have hv := opd_rep hr c
      rw [hc] at hv
      rw [Br_iff] at h
      have hPx : noDraw x = true ∨ ∀ c a a' w, a'.defers = a.defers → QQ (.panic c) a w → QQ (.panic c) a' w := hP.imp (fun h => by simp only [noDraw, Bool.and_eq_true] at h; exact h.1) id
      have hPy : noDraw y = true ∨ ∀ c a a' w, a'.defers = a.defers → QQ (.panic c) a w → QQ (.panic c) a' w := hP.imp (fun h => by simp only [noDraw, Bool.and_eq_true] at h; exact h.2) id
      exact wp_cond_split (t := g) hv (fun hg => evCodeJ_sound hT hΓ hm x (h.1 hg) hr hi hF hPx) (fun hg => evCodeJ_sound hT hΓ hm y (h.2 hg) hr hi hF hPy)
    · exact h.elim
  | .block id x, σ, a, w, lk, Q, QQ, h, hr, hi, hF, hP => by
    simp only [evCodeJ] at h
    refine wp_block (evCodeJ_sound hT hΓ hm x h hr hi ?_ (hP.imp (fun h => by simpa only [noDraw] using h) fun hP c a a' w h1 h2 => hP c a a' w h1 h2))
    intro e σ' a' w' lk' ex hq he hr' hi'
    cases e with
    | normal => simp only [exOf, Option.some.injEq] at he; subst he; exact hF _ _ _ _ _ _ hq rfl hr' hi'
    | exit i =>
      simp only [exOf, Option.some.injEq] at he; subst he
      simp only [Exit.inBlock]
      by_cases hii : i = id
      · simp only [hii, if_true] at hq ⊢
        exact hF _ _ _ _ _ _ hq rfl hr' hi'
      · simp only [hii, if_false] at hq ⊢
        exact hF _ _ _ _ _ _ hq rfl hr' hi'
    | ret => simp only [exOf, Option.some.injEq] at he; subst he; exact hF _ _ _ _ _ _ hq rfl hr' hi'
    | panic c =>
      have := hF _ _ _ _ _ ex hq he hr' hi'
      cases c <;> simp [exOf] at he
      subst he; exact this
  | .loop x, σ, a, w, lk, Q, QQ, h, hr, hi, hF, hP => by
    simp only [evCodeJ] at h
    obtain ⟨σ', lk', hq, hr', hi'⟩ := gc_sound h hr hi hm
    obtain ⟨n, hq⟩ := hq
    refine wp_loop_rounds n ?_
    clear h hr hi
    induction n generalizing σ' a w lk' with
    | zero => exact hq.elim
    | succ n ih =>
      rw [rounds_succ]
      simp only [evIter] at hq
      refine evCodeJ_sound hT hΓ hm x hq hr' hi' ?_ (hP.imp (fun h => by simpa only [noDraw] using h) fun hP c a a' w h1 h2 => hP c a a' w h1 h2)
      intro e σ' a' w' lk' ex hq he hr' hi'
      cases e with
      | normal =>
        simp only [exOf, Option.some.injEq] at he; subst he
        obtain ⟨σ2, lk2, hq2, hr2, hi2⟩ := gc_sound hq hr' hi' hm
        exact ih _ _ _ _ hr2 hi2 hq2
      | exit i => simp only [exOf, Option.some.injEq] at he; subst he; exact hF _ _ _ _ _ _ hq rfl hr' hi'
      | ret => simp only [exOf, Option.some.injEq] at he; subst he; exact hF _ _ _ _ _ _ hq rfl hr' hi'
      | panic c =>
        have := hF _ _ _ _ _ ex hq he hr' hi'
        cases c <;> simp [exOf] at he
        subst he; exact this
  | .exit id, σ, a, w, lk, Q, QQ, h, hr, hi, hF, hP => wp_exit (hF _ _ _ _ _ _ h rfl hr hi)
  | .ret, σ, a, w, lk, Q, QQ, h, hr, hi, hF, hP => wp_ret (hF _ _ _ _ _ _ h rfl hr hi)
  | .rangeFunc .., _, _, _, _, _, _, h, _, _, _, _ => h.elim
  | .scope _, _, _, _, _, _, _, h, _, _, _, _ => h.elim
  | .label _, _, _, _, _, _, _, h, _, _, _, _ => h.elim
  | .goto _, _, _, _, _, _, _, h, _, _, _, _ => h.elim
  | .refuse _, _, _, _, _, _, _, h, _, _, _, _ => h.elim
theorem SenseOK.ofJ {G : World → Prop} (hT : TabOK P T) (hΓ : SemsOK G P Γ) {f : FuncId} {fn : Func} (L : Nat → List Nat) (J : Nat → Option (List Nat)) (F : Nat → List Nat) (s : Sense) (hf : P.funcs[f]? = some fn)
    (hro : s.ro = true → ∀ os as_ K, s.f os as_ K → os = [])
    (h : ∀ os as_ K, s.f os as_ K → evFnJ T Γ L J F fn os as_ K) : SenseOK G P f s := by
  refine SenseOK.mk fun X w lk os as_ vs K hdf hO hl0 hX hXG hgr has hs => ?_
  subst hXG
  have hev := h os as_ K hs
  unfold evFnJ at hev
  split at hev
  · exact hev.elim
  rename_i c hc
  refine calls_of_wp hf hc ?_
  have hml : X.l0.length = len os := by rw [hl0, len_length, hO.lsz]
  have hal := has.length
  let M : Nat → Prop := fun b => ∃ v ∈ lk, blk v = some b
  have hr : Rel X w lk ⟨padT fn.ntmps as_, os⟩ { tmps := vs.toArray ++ Array.replicate (fn.ntmps - vs.toArray.size) undef, defers := [] } := by
    refine ORel.toR hO ?_ (fun t x hx => ?_) hdf.symm
    · simp [padT, tops_length, len_length, hal]
    · simp only [padT] at hx
      rcases Nat.lt_or_ge t as_.length with hlt | hge
      · rw [List.getElem?_append_left hlt] at hx
        obtain ⟨u, hu, hru⟩ := has.get hx
        have htl : t < vs.length := (List.getElem?_eq_some_iff.1 hu).1
        have : (vs.toArray ++ Array.replicate (fn.ntmps - vs.toArray.size) undef).getD t undef = u := by
          rw [Array.getD_eq_getD_getElem?, Array.getElem?_append_left (by simpa using htl)]
          simp [hu]
        rw [this]; exact hru
      · rw [List.getElem?_append_right hge] at hx
        rw [tops_get _ _ _ hx]; trivial
  have hi : Inv X M w w lk := ⟨Keep.refl _ _, fun v hv b hb => .inl ⟨v, hv, hb⟩, hX, fun b hb ⟨v, hv, hvb⟩ => by
    obtain ⟨i, hi⟩ := List.mem_iff_getElem?.1 hv
    exact hO.nx i v b hi hvb hb, hgr⟩
  have fin : ∀ (σ' : St) (a' : Act) (w' : World) (lk' : List Value), Inv X M w w' lk' → (∀ v ∈ lk', ∀ b, blk v = some b → (∃ u ∈ lk, blk u = some b) ∨ w.heap.size ≤ b) ∧ Keep (fun b => s.ro = false ∧ ∃ v ∈ lk, blk v = some b) w w' := by
    intro σ' a' w' lk' hi'
    refine ⟨hi'.news, hi'.keep.os, hi'.keep.tape, hi'.keep.output, hi'.keep.size, fun k hk hnk => hi'.keep.block k hk (fun hM => ?_)⟩
    cases hsr : s.ro with
    | false => exact hnk ⟨hsr, hM⟩
    | true =>
      have := hro hsr os as_ K hs
      subst this
      have hl : lk = [] := List.length_eq_zero_iff.1 (by rw [hO.lsz]; rfl)
      obtain ⟨v, hv, _⟩ := hM
      rw [hl] at hv; simp at hv
  refine evCodeJ_sound (M := M) (w0 := w) hT hΓ hml c hev hr hi ?_ (.inr fun c a a' w h1 h2 => ⟨h1.trans h2.1, h2.2⟩)
  intro e σ' a' w' lk' ex hq he hr' hi'
  have key : resK T σ' fn.results.toList (fun r => gc (len os) [0] ⟨[outOf r], σ'.objs⟩ fun σ2 => match σ2.tmps with
      | [v] => K σ2.objs (.ret v)
      | _ => False) → a'.defers = [] ∧ ∃ v, (results fn a'.tmps).run P w' = .ok v w' ∧ Post X w lk s.ro K (.returned v) w' := by
    intro hk
    obtain ⟨es, v, hq2, hrun, hv⟩ := results_sound hT hr' hk
    have hrv : Rel X w' lk' ⟨[outOf es], σ'.objs⟩ { tmps := #[v], defers := [] } := ORel.toR hr'.toO rfl (fun t x hx => by
      cases t with
      | zero => simp at hx; subst hx; exact hv
      | succ t => simp at hx) hdf.symm
    obtain ⟨σ2, lk2, hq3, hr3, hi3⟩ := gc_sound hq2 hrv hi' hml
    obtain ⟨f1, f2⟩ := fin σ2 a' w' lk2 hi3
    obtain ⟨ts, os2⟩ := σ2
    match ts, hq3, hr3 with
    | [x], hq3, hr3 => exact ⟨hr'.df.trans hdf, v, hrun, os2, lk2, .ret x, hq3, hr3.toO, f2, f1, v, rfl, hr3.tm 0 x rfl⟩
    | [], hq3, _ => exact hq3.elim
    | _ :: _ :: _, hq3, _ => exact hq3.elim
  cases e with
  | normal => simp only [exOf, Option.some.injEq] at he; subst he; exact key hq
  | ret => simp only [exOf, Option.some.injEq] at he; subst he; exact key hq
  | exit i => exact hq.elim
  | panic p =>
    cases p <;> simp [exOf] at he
    subst he
    have hrv : Rel X w' lk' ⟨[], σ'.objs⟩ { tmps := #[], defers := [] } := ORel.toR hr'.toO rfl (fun t x hx => by simp at hx) hdf.symm
    obtain ⟨σ2, lk2, hq3, hr3, hi3⟩ := gc_sound hq hrv hi' hml
    obtain ⟨f1, f2⟩ := fin σ2 a' w' lk2 hi3
    exact ⟨hr'.df.trans hdf, σ2.objs, lk2, _, hq3, hr3.toO, f2, f1, rfl⟩
end Go.Proofs.YtilagaapfbfkkaaGreatDoor.Ab
namespace Go.Proofs.YtilagaapfbfkkaaGreatDoor.Ab
open Go Go.RowKit Go.Proofs.YtilagaapfbfkkaaGreatDoorW.PrintWords
set_option maxRecDepth 100000
variable {G : World → Prop}
theorem SenseOK.anyF {Γ : Sems} (hΓ : SemsOK G Tryz.prog Γ) {f : FuncId} {fn : Func} (L : Nat → List Nat) (J : Nat → Option (List Nat)) (F : Nat → List Nat) {s : List Ob → List V → (List Ob → Out → Prop) → Prop} (hf : Tryz.prog.funcs[f]? = some fn)
    (h : ∀ os xs K, s os xs K → evFnJ TT Γ L J F fn os xs K) : SenseOK G Tryz.prog f ⟨false, s⟩ :=
  SenseOK.ofJ TT.ok hΓ L J F _ hf (fun h => by cases h) h
def q19 : Sense := ⟨false, fun os xs K => ∃ (l : List Int) (a : Nat) (g : Int), xs = [.one (.ref 0 0), .one (.int .i64 g)] ∧ os = [.box 50 [.sl IT l, .int .i64 a]] ∧ (a ≤ 1000000 ∧ l.length ≤ big) ∧ ∀ k, (k = g ∨ (200 ≤ k ∧ k ≤ 599)) → K [.box 50 [.sl IT l, .int .i64 ((a + 1 : Nat) : Int)]] (.ret (.one (.int .i64 k)))⟩
theorem qk19 : SenseOK G Tryz.prog 19 q19 := SenseOK.any Γ0.ok (fun _ => []) Tryz.func19 fun os xs K hq => by
  obtain ⟨l, a, g, rfl, rfl, ⟨ha, hl⟩, hk⟩ := hq
  simp only [big] at hl
  have w1 := IntWalk.i64_in ((a : Int) + 1) (by omega)
  have hk' : ∀ k, (k = g ∨ (200 ≤ k ∧ k ≤ 599)) → K [.box 50 [.sl IT l, .int .i64 ((a : Int) + 1)]] (.ret (.one (.int .i64 k))) := hk
  clear hk
  by_cases h1 : a < l.length
  case neg =>
    have e1 : decide ((a : Int) < l.length) = false := decide_eq_false (by omega)
    refine zs1 e1 ?_
    refine ⟨[], (.take 0 (.take 1 (.take 2 (.take 3 (.take 4 (.take 5 (.take 6 (.take 7 (.take 8 (.take 9 (.take 10 (.take 11 (.take 12 (.take 13 (.take 14 (.take 15 (.take 16 (.take 17 (.take 18 (.take 19 (.take 20 (.take 21 (.take 22 (.take 23 (.take 24 (.take 25 (.take 26 (.take 27 (.take 28 (.take 29 (.take 30 (.take 31 (.rest 32))))))))))))))))))))))))))))))))), ⟨by kernel_rfl⟩, ?_⟩
    refine zs2 e1 w1 ?_
    exact hk' _ (.inl rfl)
  have e1 : decide ((a : Int) < l.length) = true := decide_eq_true (by omega)
  obtain ⟨x, hx⟩ : ∃ x, l[a]? = some x := ⟨_, List.getElem?_eq_getElem h1⟩
  have rx := nth_of hx IT.dflt
  have ix : (0 : Int) ≤ a ∧ (a : Int) < l.length := ⟨by omega, by omega⟩
  by_cases h2 : x ≥ 200
  case neg =>
    have e2 : decide (x ≥ 200) = false := decide_eq_false h2
    refine zs1 e1 ?_
    refine ⟨[], (.take 0 (.take 1 (.take 2 (.take 3 (.take 4 (.take 5 (.take 6 (.take 7 (.take 8 (.take 9 (.take 10 (.take 11 (.take 12 (.take 13 (.take 14 (.take 15 (.take 16 (.take 17 (.take 18 (.take 19 (.take 20 (.take 21 (.take 22 (.take 23 (.take 24 (.take 25 (.take 26 (.take 27 (.take 28 (.take 29 (.take 30 (.take 31 (.rest 32))))))))))))))))))))))))))))))))), ⟨by kernel_rfl⟩, ?_⟩
    refine zs4 e1 rx e2 w1 ?_
    exact hk' _ (.inl rfl)
  have e2 : decide (x ≥ 200) = true := decide_eq_true h2
  by_cases h3 : x ≤ 599
  case neg =>
    have e3 : decide (x ≤ 599) = false := decide_eq_false h3
    refine zs1 e1 ?_
    refine ⟨[], (.take 0 (.take 1 (.take 2 (.take 3 (.take 4 (.take 5 (.take 6 (.take 7 (.take 8 (.take 9 (.take 10 (.take 11 (.take 12 (.take 13 (.take 14 (.take 15 (.take 16 (.take 17 (.take 18 (.take 19 (.take 20 (.take 21 (.take 22 (.take 23 (.take 24 (.take 25 (.take 26 (.take 27 (.take 28 (.take 29 (.take 30 (.take 31 (.rest 32))))))))))))))))))))))))))))))))), ⟨by kernel_rfl⟩, ?_⟩
    refine zs5 e1 rx e2 e3 w1 ?_
    exact hk' _ (.inl rfl)
  have e3 : decide (x ≤ 599) = true := decide_eq_true h3
  refine zs1 e1 ?_
  refine ⟨[], (.take 0 (.take 1 (.take 2 (.take 3 (.take 4 (.take 5 (.take 6 (.take 7 (.take 8 (.take 9 (.take 10 (.take 11 (.take 12 (.take 13 (.take 14 (.take 15 (.take 16 (.take 17 (.take 18 (.take 19 (.take 20 (.take 21 (.take 22 (.take 23 (.take 24 (.take 25 (.take 26 (.take 27 (.take 28 (.take 29 (.take 30 (.take 31 (.rest 32))))))))))))))))))))))))))))))))), ⟨by kernel_rfl⟩, ?_⟩
  refine zs4 e1 rx e2 e3 ?_
  refine ⟨[], (.take 0 (.take 1 (.take 2 (.take 3 (.take 4 (.take 5 (.take 6 (.take 7 (.rest 8))))))))), ⟨by kernel_rfl⟩, ?_⟩
  refine zs2 rx w1 ?_
  exact hk' _ (.inr ⟨h2, h3⟩)
theorem locB_size (i : Nat) : (locB i).size ≤ 4 := by
  have h1 : (locB i).size = 1 := rfl
  rw [h1]; decide
theorem FR_size (lm : Bool) : ∀ i, (FR lm i).size ≤ 40 + 40 * i
  | 0 => by cases lm <;> decide +kernel
  | i + 1 => by
    have h1 := FR_size lm i
    have h2 := locB_size i
    have h3 : (⟨#[82, 67, 80, 84, 32, 84, 79, 58, 60]⟩ : ByteArray).size = 9 := rfl
    have h4 : (⟨#[64, 120, 62, 13, 10]⟩ : ByteArray).size = 5 := rfl
    rw [FR, ByteArray.size_append, ByteArray.size_append, ByteArray.size_append, h3, h4]
    omega
theorem allB_size {n : Nat} (lm : Bool) (h8 : n ≤ 8) {body : ByteArray} (hb : body.size ≤ 3000) : (allB lm n body).size ≤ 10000 := by
  have h1 := FR_size lm n
  have h2 := layO_size body
  have h3 : (⟨#[68, 65, 84, 65, 13, 10]⟩ : ByteArray).size = 6 := rfl
  rw [allB, ByteArray.size_append, ByteArray.size_append, h3]
  omega
theorem pre_size {X Y t : ByteArray} (h : Y = X ++ t) : X.size ≤ Y.size := by
  rw [h, ByteArray.size_append]; omega
theorem RB.alsize {n : Nat} {lm : Bool} {body : ByteArray} {w : List Int} {s : Sd} {al : ByteArray} {en : Int} {μ : Nat} (h : RB n lm body w s al en μ) (h8 : n ≤ 8) (hb : body.size ≤ 3000) : al.size ≤ 20000 := by
  have ha := allB_size lm h8 hb
  cases h with
  | g0 => exact Nat.zero_le _
  | g1 => obtain ⟨t, ht⟩ := pre_hel lm n body; have := pre_size ht; omega
  | g2 => obtain ⟨t, ht⟩ := pre_FR lm (Nat.zero_le n) body; have := pre_size ht; omega
  | rcp pre hl hp => obtain ⟨t, ht⟩ := pre_FR lm (show pre.length + 1 ≤ n by omega) body; have := pre_size ht; omega
  | ask w hl hw hne => obtain ⟨t, ht⟩ := pre_data lm n body; have := pre_size ht; omega
  | bod => omega
  | quit w X t en hl hw hX he =>
    have := pre_size hX
    have h3 : quitB.size = 6 := rfl
    rw [ByteArray.size_append, h3]; omega
theorem ex_tail (X q : ByteArray) : (X ++ q).extract X.size (X ++ q).size = q := bl_inj (by
  rw [bl_extract, bl_append, List.take_of_length_le (by rw [List.length_append, bl_len, bl_len, ByteArray.size_append]; omega), List.drop_left' (bl_len X)])
theorem ex_head (X q : ByteArray) : (X ++ q).extract 0 X.size = X := bl_inj (by
  rw [bl_extract, bl_append, List.take_left' (bl_len X)]; rfl)
theorem decL3 {n : Nat} (h0 : 100 ≤ n) (h1 : n < 1000) : decL n = d3 n := by
  rw [decL, dif_neg (by omega), decL, dif_neg (by omega), decL, dif_pos (by omega), d3]
  rw [show ((n / 10 / 10 : Nat) : Int) = (n : Int) / 100 by omega, show ((n / 10 % 10 : Nat) : Int) = (n : Int) / 10 % 10 by omega, show ((n % 10 : Nat) : Int) = (n : Int) % 10 by omega]
  rfl
theorem ans_bytes {t1 t2 : ByteArray} {n : Nat} (h0 : 100 ≤ n) (hn : n < 1000) (h1 : bl t1 = decL n) (h2 : bl t2 = decL n) : bytesOf (((t1 ++ (⟨#[45, 111, 110, 101, 13, 10]⟩ : ByteArray)) ++ t2) ++ (⟨#[32, 116, 119, 111, 13, 10]⟩ : ByteArray)) = ans2 n := by
  show bl (((t1 ++ (⟨#[45, 111, 110, 101, 13, 10]⟩ : ByteArray)) ++ t2) ++ (⟨#[32, 116, 119, 111, 13, 10]⟩ : ByteArray)) = _
  rw [bl_append, bl_append, bl_append, h1, h2, decL3 h0 hn]
  rfl
theorem ans2_len (k : Int) : (ans2 k).length = 18 := rfl
def fillW (k : Int) (w : List Int) (i : Nat) : List Int := (w.take i).map (fun _ => k) ++ w.drop i
theorem fillW_len (k : Int) (w : List Int) (i : Nat) : (fillW k w i).length = w.length := by
  rw [fillW, List.length_append, List.length_map, ← List.length_append, List.take_append_drop]
theorem fillW_next {k : Int} {w : List Int} {i : Nat} (h : i < w.length) : fillW k w (i + 1) = (fillW k w i).set i k := by
  have h1 : ((w.take i).map fun _ => k).length = i := by rw [List.length_map, List.length_take]; omega
  rw [fillW, fillW, List.set_append_right _ _ (by omega), h1, Nat.sub_self, List.take_add_one, List.getElem?_eq_getElem h, List.drop_eq_getElem_cons h, List.set_cons_zero]
  simp only [List.map_append, List.append_assoc, Option.toList_some, List.map_cons, List.map_nil, List.cons_append, List.nil_append]
theorem fillW_all {k : Int} {w : List Int} {n : Nat} (h : w.length = n) : fillW k w n = w.map fun _ => k := by
  rw [fillW, List.take_of_length_le (by omega), List.drop_eq_nil_iff.2 (by omega), List.append_nil]
def mapI (c : Int) (w : List Int) (i : Nat) : List Int := (w.take i).map (putW c) ++ w.drop i
theorem mapI_len (k : Int) (w : List Int) (i : Nat) : (mapI k w i).length = w.length := by
  rw [mapI, List.length_append, List.length_map, ← List.length_append, List.take_append_drop]
theorem mapI_get {c : Int} {w : List Int} {i : Nat} {x : Int} (h : w[i]? = some x) : (mapI c w i)[i]? = some x := by
  have hi : i < w.length := (List.getElem?_eq_some_iff.1 h).1
  have h1 : ((w.take i).map (putW c)).length = i := by rw [List.length_map, List.length_take]; omega
  rw [mapI, List.getElem?_append_right (by omega), h1, Nat.sub_self, List.getElem?_drop, Nat.add_zero]
  exact h
theorem mapI_next {c : Int} {w : List Int} {i : Nat} {x : Int} (h : w[i]? = some x) : mapI c w (i + 1) = (mapI c w i).set i (putW c x) := by
  have hi : i < w.length := (List.getElem?_eq_some_iff.1 h).1
  have h1 : ((w.take i).map (putW c)).length = i := by rw [List.length_map, List.length_take]; omega
  rw [mapI, mapI, List.set_append_right _ _ (by omega), h1, Nat.sub_self, List.take_add_one, h, List.drop_eq_getElem_cons hi, List.set_cons_zero]
  simp
theorem mapI_hit {c : Int} {w : List Int} {i : Nat} (h : w[i]? = some (-1)) : mapI c w (i + 1) = (mapI c w i).set i c := by
  rw [mapI_next h, putW, if_pos rfl]
theorem mapI_miss {c : Int} {w : List Int} {i : Nat} {x : Int} (h : w[i]? = some x) (hx : x ≠ -1) : mapI c w (i + 1) = mapI c w i := by
  have h1 := mapI_get (c := c) h
  rw [mapI_next h, putW, if_neg hx]
  obtain ⟨h2, h3⟩ := List.getElem?_eq_some_iff.1 h1
  rw [← h3, List.set_getElem_self]
theorem mapI_all {c : Int} {w : List Int} {n : Nat} (h : w.length = n) : mapI c w n = w.map (putW c) := by
  rw [mapI, List.take_of_length_le (by omega), List.drop_eq_nil_iff.2 (by omega), List.append_nil]
theorem putF_none {c : Int} : ∀ {l : List Int}, (∀ x ∈ l, x ≠ -1) → putF c l = l
  | [], _ => rfl
  | x :: l, h => by rw [putF, if_neg (h x (by simp)), putF_none fun y hy => h y (by simp [hy])]
theorem RB.at3 {n : Nat} {lm : Bool} {body : ByteArray} {w : List Int} {s : Sd} {al : ByteArray} {en : Int} {μ : Nat} (h : RB n lm body w s al en μ) (h3 : s.st = 3) : 0 ≤ s.at_ ∧ s.at_ < w.length := by
  cases h with
  | g0 => cases h3
  | g1 => cases h3
  | g2 => cases h3
  | rcp pre hl hp =>
    show (0 : Int) ≤ (pre.length : Nat) ∧ ((pre.length : Nat) : Int) < _
    rw [List.length_append, zs_len]; omega
  | ask => exact absurd h3 (by show ¬ (4 : Int) = 3; decide)
  | bod => exact absurd h3 (by show ¬ (5 : Int) = 3; decide)
  | quit => exact absurd h3 (by show ¬ (6 : Int) = 3; decide)
theorem RB.mid0 {n : Nat} {lm : Bool} {body : ByteArray} {w : List Int} {s : Sd} {al : ByteArray} {en : Int} {μ : Nat} (h : RB n lm body w s al en μ) : ({ s with wt := 0, rest := ByteArray.empty, skip := false, ln := [] } : Sd) = s := by
  obtain ⟨st, a, tk, cd, rfl, _⟩ := cdB h
  rfl
theorem RB.midz {n : Nat} {lm : Bool} {body : ByteArray} {w : List Int} {s : Sd} {al : ByteArray} {en : Int} {μ : Nat} (h : RB n lm body w s al en μ) (A : List Int) : midS s A 0 = s := by
  show ({ s with wt := 0, rest := strOfNums [], skip := false, ln := [] } : Sd) = s
  rw [show strOfNums [] = ByteArray.empty from rfl]
  exact h.mid0
theorem RB.cases {n : Nat} {lm : Bool} {body : ByteArray} {w : List Int} {s : Sd} {al : ByteArray} {en : Int} {μ : Nat} (h : RB n lm body w s al en μ) (h6 : s.st ≠ 6) : w.length = n ∧ s.st ≠ 7 ∧ ((s.st = 0 ∨ s.st = 1 ∨ s.st = 2) ∨ s.st = 3 ∨ s.st = 4 ∨ s.st = 5) := by
  obtain ⟨st, a, tk, cd, rfl, ⟨h0, h1⟩, _, _, _, hw⟩ := cdB h
  have h6' : st ≠ 6 := h6
  refine ⟨hw, (by show st ≠ 7; omega), ?_⟩
  show (st = 0 ∨ st = 1 ∨ st = 2) ∨ st = 3 ∨ st = 4 ∨ st = 5
  omega
theorem hear_step {A : List Int} {k : Int} (hA : chkA A k = true) {n : Nat} {lm : Bool} {body : ByteArray} {w : List Int} {s : Sd} {al : ByteArray} {en : Int} {μ : Nat} (hR : RB n lm body w s al en μ) (h7 : s.st ≠ 7) {p q : Nat} (hpq : p < q) (hq : q ≤ A.length) :
    ∃ S' o', hearS (mB n body) hB (midS s A p) ((A.take q).drop p) = (S', o') ∧ ((q < A.length ∧ S' = midS s A q ∧ o' = ⟨#[]⟩) ∨ (q = A.length ∧ S' = (goesM (mB n body) hB s ByteArray.empty k).1 ∧ o' = (goesM (mB n body) hB s ByteArray.empty k).2)) := by
  by_cases h : q < A.length
  · exact ⟨_, _, hear_mid hA (mB n body) hB s h7 (by omega) h, .inl ⟨h, rfl, rfl⟩⟩
  · obtain rfl : q = A.length := by omega
    have := hear_end hA (mB n body) hB s h7 (p := p) (by omega)
    rw [hR.mid0] at this
    rw [List.take_length]
    exact ⟨_, _, this, .inr ⟨rfl, rfl, rfl⟩⟩
theorem RB.quit_inv {n : Nat} {lm : Bool} {body : ByteArray} {w : List Int} {s : Sd} {al : ByteArray} {en : Int} {μ : Nat} (h : RB n lm body w s al en μ) (h6 : s.st = 6) : ∃ X t, X ++ quitB = al ∧ allB lm n body = X ++ t ∧ (en = 0 ∨ X = allB lm n body) := by
  cases h with
  | g0 => cases h6
  | g1 => cases h6
  | g2 => cases h6
  | rcp => exact absurd h6 (by show ¬ (3 : Int) = 6; decide)
  | ask => exact absurd h6 (by show ¬ (4 : Int) = 6; decide)
  | bod => exact absurd h6 (by show ¬ (5 : Int) = 6; decide)
  | quit w X t en hl hw hX he => exact ⟨X, t, rfl, hX, he⟩
theorem cat_nil (X : ByteArray) : X ++ (⟨#[]⟩ : ByteArray) = X := bl_inj (by rw [bl_append]; show _ ++ [] = _; rw [List.append_nil])
def rowE (r : ByteArray) : List Int := bl r ++ [13, 10]
def dotE (r : ByteArray) : List Int := (if (bl r).head? = some 46 then [46] else []) ++ bl r ++ [13, 10]
def q14 : Sense := ⟨false, fun os xs K => ∃ s, xs = [.one (.str s)] ∧ os = [] ∧ mayT (bl s) = true ∧
  (bl s = [] → K [] (.ret (.tup [.one .nil, .one (.bool true)]))) ∧ (∀ rows mv, rows ≠ [] → (rows.map rowE).flatten = bl s → (∀ r ∈ rows, cleanL (bl r) = true) → K [.own 9 .str rows true mv] (.ret (.tup [.one (.own 0), .one (.bool true)])))⟩
theorem qk14 : SenseOK G Tryz.prog 14 q14 := SenseOK.any Γ48.ok (fun _ => [0, 4, 5, 6]) Tryz.func14 fun os xs K h => by
  obtain ⟨s, rfl, rfl, hmt, hk0, hk1⟩ := h
  have hb : s.size ≤ big := by
    rw [mayT, Bool.and_eq_true, decide_eq_true_eq, bl_len] at hmt
    simp only [big]; omega
  simp only [big] at hb
  have hlen := bl_len s
  by_cases hz : s.size ≤ 8192
  case neg =>
    have f0 : decide ((s.size : Int) > 8192) = true := by simp; omega
    have hm : mayT (bl s) = false := by rw [mayT, hlen]; simp; omega
    rw [hm] at hmt; cases hmt
  have f0 : decide ((s.size : Int) > 8192) = false := by simp; omega
  have hm : mayT (bl s) = rowsB [] (bl s) := by rw [mayT, hlen, decide_eq_true hz, Bool.true_and]
  rw [hm] at hmt
  refine zs1 f0 ?_
  refine iter_of (I := fun k σ => ∃ (j e : Nat), k = s.size - j ∧ j ≤ s.size ∧ e ≤ j ∧ rowsB [] (bl s) = rowsB (((bl s).take j).drop e) ((bl s).drop j) ∧
    ((e = 0 ∧ σ = ⟨slots 54 [(0, .one (.str s)), (4, .one .nil), (5, .one (.int .i64 e)), (6, .one (.int .i64 j))], []⟩) ∨
     ∃ rows mv, (rows.length ≤ j ∧ rows ≠ [] ∧ (rows.map rowE).flatten = (bl s).take e ∧ ∀ r ∈ rows, cleanL (bl r) = true) ∧ σ = ⟨slots 54 [(0, .one (.str s)), (4, .one (.own 0)), (5, .one (.int .i64 e)), (6, .one (.int .i64 j))], [.own 9 .str rows true mv]⟩)) ?_ s.size ⟨0, 0, by omega, by omega, by omega, rfl, .inl ⟨rfl, rfl⟩⟩
  rintro k σ K' ⟨j, e, rfl, hj, he, hn, hσ⟩ hK'
  have w1 := IntWalk.i64_in ((j : Int) + 1) (by omega)
  by_cases h1 : j < s.size
  case neg =>
    have f1 : decide ((j : Int) < s.size) = false := by simp; omega
    obtain rfl : j = s.size := by omega
    have htk : (bl s).take s.size = bl s := List.take_of_length_le (by omega)
    have hdr : (bl s).drop s.size = [] := List.drop_eq_nil_iff.2 (by omega)
    rw [htk, hdr, rowsB] at hn
    have hE : ((e : Int) == s.size) = decide ((bl s).drop e = []) := by
      rw [Bool.eq_iff_iff]; simp [List.drop_eq_nil_iff, hlen]; omega
    rw [← hE] at hn
    rw [hn] at hmt
    have hes : e = s.size := by
      have : (e : Int) = s.size := by simpa using hmt
      omega
    rcases hσ with ⟨he0, rfl⟩ | ⟨rows, mv, ⟨hrw, hrn, hre, hrc⟩, rfl⟩
    · refine zs2 f1 hmt ?_
      exact hk0 (by
        have : (bl s).length = 0 := by rw [hlen]; omega
        exact List.length_eq_zero_iff.1 this)
    · refine zs2 f1 hmt ?_
      exact hk1 _ _ hrn (by rw [hre, hes, htk]) hrc
  have f1 : decide ((j : Int) < s.size) = true := by simpa using h1
  have hg := bl_get h1
  have hd := bl_drop h1
  have hnx := cut_next hg he
  have go : ¬ ((((bl s).take j).drop e).getLast? = some 13 ∧ bt s j = 10) → rowsB [] (bl s) = rowsB (((bl s).take (j + 1)).drop e) ((bl s).drop (j + 1)) := fun h => by
    rw [hn, hd, rowsB_go h, hnx]
  by_cases g1 : bt s j = 10
  case neg =>
    have e1 : (bt s j != 10) = true := by simpa using g1
    have hG := go (fun h => g1 h.2)
    rcases hσ with ⟨he0, rfl⟩ | ⟨rows, mv, ⟨hrw, hrn, hre, hrc⟩, rfl⟩
    · refine zs3 f1 e1 w1 ?_
      exact hK' _ _ (by omega) ⟨j + 1, e, rfl, by omega, by omega, hG, .inl ⟨he0, rfl⟩⟩
    · refine zs3 f1 e1 w1 ?_
      exact hK' _ _ (by omega) ⟨j + 1, e, rfl, by omega, by omega, hG, .inr ⟨rows, mv, ⟨by omega, hrn, hre, hrc⟩, rfl⟩⟩
  have e1 : (bt s j != 10) = false := by simpa using g1
  by_cases g2 : j = e
  · have e2 : ((j : Int) == e) = true := by simp [g2]
    have hG := go (fun h => by
      rw [List.drop_of_length_le (by rw [List.length_take]; omega)] at h
      cases h.1)
    rcases hσ with ⟨he0, rfl⟩ | ⟨rows, mv, ⟨hrw, hrn, hre, hrc⟩, rfl⟩
    · refine zs4 f1 e1 e2 w1 ?_
      exact hK' _ _ (by omega) ⟨j + 1, e, rfl, by omega, by omega, hG, .inl ⟨he0, rfl⟩⟩
    · refine zs4 f1 e1 e2 w1 ?_
      exact hK' _ _ (by omega) ⟨j + 1, e, rfl, by omega, by omega, hG, .inr ⟨rows, mv, ⟨by omega, hrn, hre, hrc⟩, rfl⟩⟩
  have e2 : ((j : Int) == e) = false := by simp; omega
  obtain ⟨i, rfl⟩ : ∃ i, j = i + 1 := ⟨j - 1, by omega⟩
  have w2 : IntKind.i64.wrap (((i + 1 : Nat) : Int) - 1) = i := by rw [IntWalk.i64_in _ (by omega)]; omega
  have hl := cut_last (l := bl s) (e := e) (j := i) (by omega) (by omega)
  rw [bl_get (by omega)] at hl
  by_cases g3 : bt s i = 13
  case neg =>
    have e3 : (bt s i != 13) = true := by simpa using g3
    have hG := go (fun h => by rw [hl] at h; exact g3 (Option.some.inj h.1))
    rcases hσ with ⟨he0, rfl⟩ | ⟨rows, mv, ⟨hrw, hrn, hre, hrc⟩, rfl⟩
    · refine zs6 f1 e1 e2 w2 e3 w1 ?_
      exact hK' _ _ (by omega) ⟨i + 2, e, rfl, by omega, by omega, hG, .inl ⟨he0, rfl⟩⟩
    · refine zs6 f1 e1 e2 w2 e3 w1 ?_
      exact hK' _ _ (by omega) ⟨i + 2, e, rfl, by omega, by omega, hG, .inr ⟨rows, mv, ⟨by omega, hrn, hre, hrc⟩, rfl⟩⟩
  have e3 : (bt s i != 13) = false := by simpa using g3
  have hdl : (((bl s).take (i + 1)).drop e).dropLast = ((bl s).take i).drop e := by
    rw [cut_next (bl_get (by omega)) (by omega), List.dropLast_concat]
  rw [hd, rowsB_end (by rw [hl, g3]) g1, hdl] at hn
  have hx : cleanL (bl (s.extract (e : Int).toNat (i : Int).toNat)) = cleanL (((bl s).take i).drop e) := congrArg cleanL (bl_extract s e i)
  have hself : ((bl s).take (i + 2)).drop (i + 2) = [] := List.drop_eq_nil_iff.2 (by rw [List.length_take]; omega)
  have hex : bl (s.extract e i) = ((bl s).take i).drop e := bl_extract s e i
  have htk2 : (bl s).take (i + 2) = (bl s).take e ++ rowE (s.extract e i) := by
    rw [rowE, hex, ← List.append_assoc, show (bl s).take e = ((bl s).take i).take e by rw [List.take_take, Nat.min_eq_left (by omega)], List.take_append_drop, List.take_add_one, List.take_add_one, bl_get (by omega), bl_get (by omega), g3, g1]
    simp
  have hsz : (s.extract (e : Int).toNat (i : Int).toNat).size ≤ big := by
    show (s.extract e i).size ≤ 1073741824
    rw [ByteArray.size_extract]; omega
  rcases hσ with ⟨he0, rfl⟩ | ⟨rows, mv, ⟨hrw, hrn, hre, hrc⟩, rfl⟩
  · refine zs5 f1 e1 e2 w2 e3 ?_
    cases hcl : cleanL (((bl s).take i).drop e) with
    | false =>
      rw [hcl, Bool.false_and] at hn
      rw [hn] at hmt
      cases hmt
    | true =>
      rw [hcl, Bool.true_and] at hn
      rw [hcl] at hx
      refine zs3 hx w2 w1 ?_
      exact hK' _ _ (by omega) ⟨i + 2, i + 2, rfl, by omega, by omega, by rw [hn, hself], .inr ⟨[s.extract e i], _, ⟨by simp, by simp, by rw [htk2, he0]; simp, fun r hr => by rw [List.mem_singleton] at hr; subst hr; rw [hex]; exact hcl⟩, rfl⟩⟩
  · refine zs5 f1 e1 e2 w2 e3 ?_
    cases hcl : cleanL (((bl s).take i).drop e) with
    | false =>
      rw [hcl, Bool.false_and] at hn
      rw [hn] at hmt
      cases hmt
    | true =>
      rw [hcl, Bool.true_and] at hn
      rw [hcl] at hx
      have h1L : (rows.length + [s.extract (e : Int).toNat (i : Int).toNat].length) * 16 ≤ 140737488355328 := by rw [List.length_singleton]; omega
      refine zs3 hx w2 w1 ?_
      refine hK' _ _ (by omega) ⟨i + 2, i + 2, rfl, by omega, by omega, by rw [hn, hself], .inr ⟨rows ++ [s.extract e i], true, ⟨by rw [List.length_append, List.length_singleton]; omega, by simp, by rw [htk2, List.map_append, List.flatten_append, hre]; simp, fun r hr => by
        rcases List.mem_append.1 hr with hr | hr
        · exact hrc r hr
        · rw [List.mem_singleton] at hr; subst hr; rw [hex]; exact hcl⟩, ?_⟩⟩
      cases mv <;> rfl
theorem lay_rows : ∀ (R : List (List UInt8)), (∀ r ∈ R, (10 : UInt8) ∉ r) → Dt.layB true ((R.map (· ++ [13, 10])).flatten) = (R.map fun r => (if r.head? = some 46 then [46] else []) ++ r ++ [13, 10]).flatten
  | [], _ => rfl
  | r :: R, h => by
    have ih := lay_rows R fun x hx => h x (List.mem_cons_of_mem _ hx)
    have hr := h r (List.mem_cons_self)
    have hl : Dt.IsLine (r ++ [13, 10]) ((R.map (· ++ [13, 10])).flatten) := by
      refine ⟨by simp, fun j hj hx => ?_, .inl (by simp)⟩
      rw [List.length_append] at hj
      simp only [List.length_cons, List.length_nil] at hj
      rcases Nat.lt_or_ge j r.length with h1 | h1
      · rw [List.getElem?_append_left h1] at hx
        exact hr (List.mem_of_getElem? hx)
      · have : j = r.length := by omega
        subst this
        rw [List.getElem?_append_right (Nat.le_refl _)] at hx
        simp at hx
    rw [List.map_cons, List.flatten_cons, Dt.layB_line _ _ hl, ih, List.map_cons, List.flatten_cons]
    have hp : ([46] : List UInt8).isPrefixOf (r ++ [13, 10]) = decide (r.head? = some 46) := by
      cases r with
      | nil => decide
      | cons c l =>
        simp only [List.cons_append, List.isPrefixOf, Bool.and_true, List.head?_cons, Option.some.injEq, eq_comm (a := (46 : UInt8))]
        by_cases h : c = 46
        · subst h; rfl
        · rw [decide_eq_false h]
          simp only [beq_eq_false_iff_ne]
          exact fun e => h (by rw [e])
    rw [hp]
    by_cases hd : r.head? = some 46
    · rw [decide_eq_true hd, if_pos rfl, if_pos hd]; simp
    · rw [decide_eq_false hd, if_neg (by simp), if_neg hd]; simp
def u8i (b : UInt8) : Int := (b.toNat : Int)
theorem u8i_inj {a b : UInt8} (h : u8i a = u8i b) : a = b := UInt8.toNat_inj.1 (by simp only [u8i] at h; omega)
theorem bl_u8 (s : ByteArray) : bl s = s.data.toList.map u8i := rfl
theorem lay_of {s : ByteArray} {rows : List ByteArray} (h : (rows.map rowE).flatten = bl s) (hc : ∀ r ∈ rows, cleanL (bl r) = true) : bl (layO s) = (rows.map dotE).flatten ++ [46, 13, 10] := by
  have h1 : s.data.toList = ((rows.map fun r => r.data.toList).map (· ++ [13, 10])).flatten := by
    have h2 : (((rows.map fun r => r.data.toList).map (· ++ [13, 10])).flatten).map u8i = s.data.toList.map u8i := by
      rw [← bl_u8, ← h, List.map_flatten, List.map_map, List.map_map]
      congr 1
      refine List.map_congr_left fun r _ => ?_
      show (r.data.toList ++ [13, 10]).map u8i = _
      rw [List.map_append, ← bl_u8]; rfl
    exact ((List.map_inj_right fun a b h => u8i_inj h).1 h2).symm
  have h3 : ∀ r ∈ rows.map (fun r => r.data.toList), (10 : UInt8) ∉ r := fun r hr hm => by
    obtain ⟨x, hx, rfl⟩ := List.mem_map.1 hr
    have h4 := hc x hx
    rw [cleanL, Bool.and_eq_true, Bool.not_eq_true'] at h4
    have h5 : (bl x).any crlf = true := List.any_eq_true.2 ⟨u8i 10, List.mem_map_of_mem hm, rfl⟩
    rw [h4.1] at h5; cases h5
  have h4 : bl (layO s) = (Dt.layB true s.data.toList ++ [46, 13, 10]).map u8i := by
    rw [bl_u8, layO]
  rw [h4, List.map_append, h1, lay_rows _ h3, List.map_flatten, List.map_map, List.map_map]
  congr 1
  congr 1
  refine List.map_congr_left fun r _ => ?_
  show List.map u8i ((if r.data.toList.head? = some 46 then [46] else []) ++ r.data.toList ++ [13, 10]) = dotE r
  rw [dotE, List.map_append, List.map_append, ← bl_u8]
  have h5 : (bl r).head? = some 46 ↔ r.data.toList.head? = some 46 := by
    rw [bl_u8, List.head?_map]
    cases r.data.toList.head? with
    | none => simp
    | some c =>
      simp only [Option.map_some, Option.some.injEq]
      exact ⟨fun h => u8i_inj (b := 46) h, fun h => by rw [h]; rfl⟩
  by_cases h6 : r.data.toList.head? = some 46
  · rw [if_pos h6, if_pos (h5.2 h6)]; rfl
  · rw [if_neg h6, if_neg (fun h => h6 (h5.1 h))]; rfl
def Γ25q : Sems := ext 14 q14 (Γ0)
theorem Γ25q.ok : SemsOK G Tryz.prog Γ25q := (Γ0.ok.ext Tryz.func14 rfl (by decide) qk14)
theorem rows_len : ∀ {rows : List ByteArray}, 2 * rows.length ≤ ((rows.map rowE).flatten).length
  | [] => Nat.le_refl _
  | r :: rows => by
    have := rows_len (rows := rows)
    rw [List.map_cons, List.flatten_cons, List.length_append, rowE, List.length_append]
    simp only [List.length_cons, List.length_nil]
    omega
theorem clean_len {r : ByteArray} (h : cleanL (bl r) = true) : r.size ≤ 509 := by
  rw [cleanL, Bool.and_eq_true, decide_eq_true_eq, bl_len] at h
  exact h.2
def q25 : Sense := ⟨false, fun os xs K => ∃ s, xs = [.one (.str s)] ∧ os = [] ∧ mayT (bl s) = true ∧ K [] (.ret (.one (.str (layO s))))⟩
theorem qk25 : SenseOK G Tryz.prog 25 q25 := SenseOK.any Γ25q.ok (fun _ => [3, 5, 6]) Tryz.func25 fun os xs K h => by
  obtain ⟨s, rfl, rfl, hmt, hk⟩ := h
  have hk' : ∀ t, bl t = bl (layO s) → K [] (.ret (.one (.str t))) := fun t ht => by rw [bl_inj ht]; exact hk
  have hs : s.size ≤ 8192 := by
    rw [mayT, Bool.and_eq_true, decide_eq_true_eq, bl_len] at hmt
    exact hmt.1
  have h3 : (⟨#[46, 13, 10]⟩ : ByteArray).size = 3 := rfl
  have h2 : (⟨#[13, 10]⟩ : ByteArray).size = 2 := rfl
  have h1 : (⟨#[46]⟩ : ByteArray).size = 1 := rfl
  have h0 : (⟨#[]⟩ : ByteArray).size = 0 := rfl
  refine zy ?_
  refine ⟨s, rfl, rfl, hmt, fun hn => ?_, fun rows mv hrn hre hrc => ?_⟩
  · refine zs0 ?_
    refine iter_of (I := fun n σ => n = 0 ∧ σ = ⟨slots 43 [(3, .one .nil), (5, .one (.str ⟨#[]⟩)), (6, .one (.int .i64 0))], []⟩) ?_ 0 ⟨rfl, rfl⟩
    rintro n σ K' ⟨rfl, rfl⟩ _
    refine zs0 ?_
    exact hk' _ (by rw [lay_of (rows := []) (by rw [hn]; rfl) (fun r hr => by cases hr)]; rfl)
  have hlr : rows.length ≤ 4096 := by
    have := rows_len (rows := rows)
    rw [hre, bl_len] at this
    omega
  refine zs0 ?_
  refine iter_of (I := fun n σ => ∃ (j : Nat) (t : ByteArray), n = rows.length - j ∧ j ≤ rows.length ∧ bl t = ((rows.take j).map dotE).flatten ∧ t.size ≤ 512 * j ∧ σ = ⟨slots 43 [(3, .one (.own 0)), (5, .one (.str t)), (6, .one (.int .i64 j))], [.own 9 .str rows true mv]⟩) ?_ rows.length ⟨0, ⟨#[]⟩, by omega, by omega, rfl, Nat.le_refl _, rfl⟩
  rintro n σ K' ⟨j, t, rfl, hj, ht, hts, rfl⟩ hK'
  have w1 := IntWalk.i64_in ((j : Int) + 1) (by omega)
  by_cases g1 : j < rows.length
  case neg =>
    have e1 : decide ((j : Int) < rows.length) = false := decide_eq_false (by omega)
    rw [List.take_of_length_le (by omega)] at ht
    refine zs1 e1 ?_
    exact hk' _ (by rw [lay_of hre hrc, bl_append, ht]; rfl)
  have e1 : decide ((j : Int) < rows.length) = true := decide_eq_true (by omega)
  obtain ⟨x, hx⟩ : ∃ x, rows[j]? = some x := ⟨_, List.getElem?_eq_getElem g1⟩
  have rx := nth_of hx ST.dflt
  have ix : (0 : Int) ≤ j ∧ (j : Int) < rows.length := ⟨by omega, by omega⟩
  have hxs := clean_len (hrc x (List.mem_of_getElem? hx))
  have hnx : ((rows.take (j + 1)).map dotE).flatten = bl t ++ dotE x := by
    rw [List.take_add_one, hx, ht]; simp
  have fin : ∀ u : ByteArray, bl u = bl t ++ (if (bl x).head? = some 46 then [46] else []) → bl ((u ++ x) ++ (⟨#[13, 10]⟩ : ByteArray)) = ((rows.take (j + 1)).map dotE).flatten := fun u hu => by
    rw [bl_append, bl_append, hu, hnx, dotE]
    simp only [List.append_assoc]; rfl
  by_cases x0 : x.size = 0
  · have e2 : decide ((x.size : Int) > 0) = false := decide_eq_false (by omega)
    have hh : ¬ (bl x).head? = some 46 := fun h => by
      have : (bl x).length = 0 := by rw [bl_len]; exact x0
      rw [List.length_eq_zero_iff.1 this] at h; cases h
    have hsz : (t ++ x).size = t.size + x.size := ByteArray.size_append
    have hsz2 : ((t ++ x) ++ (⟨#[13, 10]⟩ : ByteArray)).size = t.size + x.size + 2 := by rw [ByteArray.size_append, hsz, h2]
    refine zs4 e1 rx e2 w1 ?_
    exact hK' _ _ (by omega) ⟨j + 1, _, rfl, by omega, fin t (by rw [if_neg hh, List.append_nil]), by rw [hsz2]; omega, rfl⟩
  have e2 : decide ((x.size : Int) > 0) = true := decide_eq_true (by omega)
  have i0 : (0 : Int) ≤ 0 ∧ (0 : Int) < x.size := ⟨Int.le_refl 0, by omega⟩
  have hb0 : (bl x).head? = some (bt x 0) := by
    rw [List.head?_eq_getElem?]; exact bl_get (by omega)
  by_cases x1 : bt x 0 = 46
  · have e3 : (bt x 0 == 46) = true := by simpa using x1
    have hsz0 : (t ++ (⟨#[46]⟩ : ByteArray)).size = t.size + 1 := by rw [ByteArray.size_append, h1]
    have hsz : ((t ++ (⟨#[46]⟩ : ByteArray)) ++ x).size = t.size + 1 + x.size := by rw [ByteArray.size_append, hsz0]
    have hsz2 : (((t ++ (⟨#[46]⟩ : ByteArray)) ++ x) ++ (⟨#[13, 10]⟩ : ByteArray)).size = t.size + 1 + x.size + 2 := by rw [ByteArray.size_append, hsz, h2]
    refine zs5 e1 rx e2 e3 w1 ?_
    exact hK' _ _ (by omega) ⟨j + 1, _, rfl, by omega, fin _ (by rw [hb0, x1, if_pos rfl, bl_append]; rfl), by rw [hsz2]; omega, rfl⟩
  · have e3 : (bt x 0 == 46) = false := by simpa using x1
    have hsz : (t ++ x).size = t.size + x.size := ByteArray.size_append
    have hsz2 : ((t ++ x) ++ (⟨#[13, 10]⟩ : ByteArray)).size = t.size + x.size + 2 := by rw [ByteArray.size_append, hsz, h2]
    refine zs5 e1 rx e2 e3 w1 ?_
    exact hK' _ _ (by omega) ⟨j + 1, _, rfl, by omega, fin t (by rw [hb0, if_neg (fun h => x1 (by simpa using h)), List.append_nil]), by rw [hsz2]; omega, rfl⟩
def Γ3q : Sems := ext 14 s48 (ext 15 s19 (ext 16 q16 (ext 17 (lendS q17) (ext 18 q18 (ext 19 q19 (ext 20 s20 (ext 21 (lendS q21) (ext 22 (lendS q22) (ext 23 (lendS q23) (ext 24 s18 (ext 25 q25 (ext 26 q26 (Γ0)))))))))))))
theorem Γ3q.ok : SemsOK Gr Tryz.prog Γ3q := (((((((((((((Γ0.ok.ext Tryz.func26 rfl (by decide) qk26).ext Tryz.func25 rfl (by decide) qk25).ext Tryz.func24 rfl (by decide) ok18).ext Tryz.func23 rfl (by decide) (SenseOK.lendL qk23)).ext Tryz.func22 rfl (by decide) (SenseOK.lendL qk22)).ext Tryz.func21 rfl (by decide) (SenseOK.lendL qk21)).ext Tryz.func20 rfl (by decide) ok20).ext Tryz.func19 rfl (by decide) qk19).ext Tryz.func18 rfl (by decide) qk18).ext Tryz.func17 rfl (by decide) (SenseOK.lendL qk17)).ext Tryz.func16 rfl (by decide) qk16).ext Tryz.func15 rfl (by decide) ok19).ext Tryz.func14 rfl (by decide) ok48)
def L3 : Nat → List Nat := fun n => match n with | 10 => [1, 5, 6, 7, 8] | 23 => [1, 5, 6, 9, 11, 12, 13, 14, 15, 16, 17] | 37 => [1, 5, 6, 9, 11, 12, 13, 14, 15, 16, 17, 19, 20, 21] | 47 => [1, 5, 6, 9, 11, 12, 13, 14, 15, 16, 17, 19, 20, 22] | 57 => [1, 5, 6, 9, 11, 12, 13, 14, 15, 16, 17, 19, 23] | 67 => [1, 5, 6, 9, 11, 12, 13, 14, 15, 16, 17, 24, 25] | 86 => [1, 5, 6, 14, 15, 16, 33, 34] | _ => []
def J3 : Nat → Option (List Nat) := fun n => match n with | 2 => some [1, 4] | 28 => some ([1, 5, 6, 9, 11, 12, 13, 14, 15, 16, 17, 18]) | 30 => some ([1, 5, 6, 9, 11, 12, 13, 14, 15, 16, 17, 18]) | 63 => some ([1, 5, 6, 9, 11, 12, 13, 14, 15, 16, 17, 19]) | 66 => some ([1, 5, 6, 9, 11, 12, 13, 14, 15, 16, 17, 24]) | 56 => some ([1, 5, 6, 9, 11, 12, 13, 14, 15, 16, 17, 19]) | 71 => some ([1, 5, 6, 9, 11, 12, 13, 14, 15, 16, 17, 24, 25, 26]) | 73 => some ([1, 5, 6, 9, 11, 12, 13, 14, 15, 16, 17, 24, 25, 26, 27, 28, 29]) | 84 => some [1, 5, 6, 14, 15, 16, 32] | _ => none
def F3 : Nat → List Nat := fun n => match n with | 66 => [24] | _ => []
def osT (t : List C) (body : ByteArray) : Nat → Bool → Bool → List Ob
  | 0, _, _ => [.box 24 t, .box 32 ((mB 0 body).cs .nil), .box 36 ((jB 0).cs .nil)]
  | i + 1, f0, f1 => [.box 24 t, .box 32 ((mB (i + 1) body).cs (.own 3)), .box 36 ((jB (i + 1)).cs (.own 4)), .own 39 RT (rcB (i + 1)) true f0, .own 3 IT (icB (i + 1)) true f1]
def osK (t : List C) (n : Nat) (body : ByteArray) (c : List Int) (a : Nat) (w : List Int) (s : Sd) (f0 f1 f2 f3 f4 f5 : Bool) : List Ob :=
  [.box 24 t, .box 32 ((mB n body).cs (.own 5)), .box 43 (s.ow 6), .box 50 [.sl IT c, .int .i64 a], .own 3 IT w true f0, .own 39 RT (rcB n) true f1, .own 3 IT s.rc true f2, .own 3 IT s.tk true f3, .own 3 IT s.cd true f4, .own 9 ST s.ln true f5]
def slK3 (n at_ : Nat) (tk en : Int) (al : ByteArray) (stp : Nat) (l : List (Nat × V)) : List V := slots 385 ([(1, .one (.ref 0 0)), (5, .one (.ref 1 0)), (6, .one (.int .i64 n)), (9, .one (.ref 2 0)), (11, .one (.int .i64 at_)), (12, .one (.ref 3 0)), (13, .one (.own 4)), (14, .one (.int .i64 tk)), (15, .one (.int .i64 en)), (16, .one (.str al)), (17, .one (.int .i64 stp))] ++ l)
def q3 : Sense := ⟨false, fun os xs K => ∃ (b : ByteArray) (n : Int) (lm : Bool) (c z : List Int), xs = [.agg (tkC b n lm c z)] ∧ os = [] ∧ (b.size ≤ big ∧ c.length ≤ big ∧ z.length ≤ big) ∧ K [] (.ret (.one (.bool true)))⟩
theorem qk3 : SenseOK Gr Tryz.prog 3 q3 := SenseOK.anyF Γ3q.ok L3 J3 F3 Tryz.func3 fun os xs K hq => by
  obtain ⟨body, N, lm, c, z, rfl, rfl, ⟨hb, hc, hz⟩, hk⟩ := hq
  refine zv ?_
  refine ⟨fun σ => σ = ⟨slots 385 [(1, .one (.ref 0 0)), (4, .one (.bool (mayT (bl body))))], [.box 24 (tkC body N lm c z)]⟩, ?_, ?_⟩
  · refine zs0 ?_
    intro rows mv
    refine zs0 ?_
    try exact trr
  rintro σ rfl
  cases hT : decide ((body.size : Int) > 3000) with
  | true =>
    refine zs1 hT ?_
    exact hk
  | false =>
  cases hM : mayT (bl body) with
  | false =>
    refine zs1 hT ?_
    exact hk
  | true =>
  cases hC : decide ((c.length : Int) > 100) with
  | true =>
    refine zs2 hT hC ?_
    exact hk
  | false =>
  cases hZ : decide ((z.length : Int) > 100) with
  | true =>
    refine zs3 hT hC hZ ?_
    exact hk
  | false =>
  have hb3 : body.size ≤ 3000 := by have := of_decide_eq_false hT; omega
  have hc3 : c.length ≤ 100 := by have := of_decide_eq_false hC; omega
  have hz3 : z.length ≤ 100 := by have := of_decide_eq_false hZ; omega
  refine zs3 hT hC hZ ?_
  intro f0
  refine zs0 ?_
  intro r hr
  obtain ⟨m, rfl⟩ : ∃ m : Nat, r = m := ⟨r.toNat, by omega⟩
  have hm8 : m + 1 ≤ 8 := by omega
  have w6 : IntKind.i64.wrap (1 + (m : Int)) = ((m + 1 : Nat) : Int) := by rw [IntWalk.i64_in _ (by omega)]; omega
  refine zs1 w6 ?_
  refine iter_of (I := fun k σ => ∃ (i : Nat) (f0 f1 : Bool), k = m + 1 - i ∧ i ≤ m + 1 ∧ σ = ⟨slots 385 [(1, .one (.ref 0 0)), (5, .one (.ref 1 0)), (6, .one (.int .i64 ((m + 1 : Nat) : Int))), (7, .one (.ref 2 0)), (8, .one (.int .i64 i))], osT (tkC body N lm c z) body i f0 f1⟩) ?_ (m + 1) ⟨0, false, false, rfl, by omega, rfl⟩
  rintro k σ K1 ⟨i, f0, f1, rfl, hi, rfl⟩ hK1
  have w1 := IntWalk.i64_in ((i : Int) + 1) (by omega)
  by_cases hi1 : i = m + 1
  case neg =>
    have e1 : decide ((i : Int) < ((m + 1 : Nat) : Int)) = true := decide_eq_true (by omega)
    cases i with
    | zero =>
      refine zs2 e1 w1 ?_
      exact hK1 _ _ (by omega) ⟨1, _, _, rfl, by omega, rfl⟩
    | succ i =>
      have hlr : (rcB (i + 1)).length = i + 1 := rcB_len _
      have hli : (icB (i + 1)).length = i + 1 := icB_len _
      refine zs2 e1 w1 ?_
      exact hK1 _ _ (by omega) ⟨i + 2, _, _, rfl, by omega, rfl⟩
  subst hi1
  have e1 : decide (((m + 1 : Nat) : Int) < ((m + 1 : Nat) : Int)) = false := decide_eq_false (by omega)
  have hop : (mailP (mB (m + 1) body).ml && maySd (newSd 1 (jB (m + 1)) lm) (mB (m + 1) body)) = true := by
    rw [mailB (by omega) hm8 hM, new_sB, Bool.true_and]; exact (RB.g0 (n := m + 1) (lm := lm) (body := body)).may (by omega) hm8
  have hjs : (jB (m + 1)).sml := ⟨by show (icB (m + 1)).length ≤ big; rw [icB_len]; simp only [big]; omega, by show (1 : Nat) ≤ mid; decide⟩
  have hmf := mB_fit hm8 hb3
  refine zs1 e1 ?_
  refine ⟨[.one (.int .i64 1), .agg (jB (m + 1)).fz, .one (.bool lm), .agg ((mB (m + 1) body).cs (.sl RT (mB (m + 1) body).rc))], trr, lnt, ?_⟩
  refine zy ?_
  refine ⟨1, jB (m + 1), lm, mB (m + 1) body, trr, trr, ⟨hjs, hmf.1⟩, fun h => (by rw [hop] at h; cases h), fun _ m0 m1 m2 m3 => ?_⟩
  rw [new_sB]
  have hR0 := RB.g0 (n := m + 1) (lm := lm) (body := body)
  have hz8 : ((m + 1 : Nat) : Int) = ((m + 1 : Nat) : Int) ∧ (0 : Int) ≤ ((m + 1 : Nat) : Int) ∧ ((m + 1 : Nat) : Int) * 8 ≤ 140737488355328 := ⟨rfl, by omega, by omega⟩
  refine zs0 ?_
  refine iter_of (I := fun k σ => ∃ (w : List Int) (s : Sd) (al : ByteArray) (en tk : Int) (μ stp at_ : Nat) (f0 f1 f2 f3 f4 f5 : Bool), k = μ ∧ RB (m + 1) lm body w s al en μ ∧ ((stp + μ ≤ 20 ∧ at_ ≤ 64 * stp) ∧ (0 ≤ tk ∧ tk ≤ stp)) ∧ σ = ⟨slK3 (m + 1) at_ tk en al stp [], osK (tkC body N lm c z) (m + 1) body c stp w s f0 f1 f2 f3 f4 f5⟩) ?_ (2 * (m + 1) + 4) ⟨_, _, _, _, 0, _, 0, 0, _, _, _, _, _, _, rfl, hR0, ⟨⟨by omega, by omega⟩, by decide, by decide⟩, rfl⟩
  clear hR0 hop hz8
  rintro k σ K2 ⟨w, s, al, en, tk, μ, stp, at_, f0, f1, f2, f3, f4, f5, rfl, hR, ⟨⟨hst, hat⟩, htk0, htk1⟩, rfl⟩ hK2
  have w1 := IntWalk.i64_in ((stp : Int) + 1) (by omega)
  have e60 : decide ((stp : Int) < 60) = true := decide_eq_true (by omega)
  have hsf := hR.fit hm8
  by_cases h6 : s.st = 6
  case pos =>
    have e6 : (s.st != 6) = false := by rw [h6]; rfl
    refine zs2 e60 e6 ?_
    refine ⟨[.agg s.fz, .agg ((mB (m + 1) body).cs (.sl RT (mB (m + 1) body).rc))], trr, lnt, ?_⟩
    refine zy ?_
    refine ⟨s, mB (m + 1) body, trr, trr, ⟨hsf, hmf.1⟩, fun f6 => ?_⟩
    rw [hR.codes h6 (by omega) hm8 hM]
    obtain ⟨_, _, _, _, _, _, _, _, _, hwl⟩ := cdB hR
    have hwb : w.length ≤ big := by simp only [big]; omega
    have hww : decide (w = w) = true := decide_eq_true rfl
    refine zs0 ?_
    refine ⟨[.one (.sl IT w), .one (.sl IT w)], trr, lnt, ?_⟩
    refine zy ?_
    refine ⟨w, w, trr, trr, hwb, hwb, ?_⟩
    refine zs1 hww ?_
    have hPm := mailB (n := m + 1) (by omega) hm8 hM
    refine ⟨.inr (.inr ⟨true, rfl, rfl⟩), hmf.2, hmf.1.adrs.2.2, fun r hr => (hmf.1.adrs.1 r hr).2, ?_⟩
    have hal := hR.alsize hm8 hb3
    obtain ⟨X, t, hXa, hX, he⟩ := hR.quit_inv h6
    clear hR hsf hww hwb hwl
    refine zs1 hPm ?_
    refine ⟨fun σ => ∃ f0, σ = ⟨slots 385 [(1, .one (.ref 0 0)), (5, .one (.ref 1 0)), (6, .one (.int .i64 ((m + 1 : Nat) : Int))), (14, .one (.int .i64 tk)), (15, .one (.int .i64 en)), (16, .one (.str al)), (32, .one (.str (helB lm)))], [.box 24 (tkC body N lm c z), .box 32 ((mB (m + 1) body).cs (.own 2)), .own 39 RT (rcB (m + 1)) true f0]⟩, ?_, ?_⟩
    · cases lm with
      | true =>
        refine zs0 ?_
        exact ⟨_, rfl⟩
      | false =>
        refine zs0 ?_
        exact ⟨_, rfl⟩
    clear f0 f1 f2 f3 f4 f5
    rintro σ ⟨f0, rfl⟩
    have zh : (helB lm).size = 10 := by cases lm <;> rfl
    have zm : (⟨#[77, 65, 73, 76, 32, 70, 82, 79, 77, 58, 60, 97, 64, 120, 62, 13, 10]⟩ : ByteArray).size = 17 := rfl
    have zr : (⟨#[82, 67, 80, 84, 32, 84, 79, 58, 60]⟩ : ByteArray).size = 9 := rfl
    have za : (⟨#[64, 120, 62, 13, 10]⟩ : ByteArray).size = 5 := rfl
    have zd : (⟨#[68, 65, 84, 65, 13, 10]⟩ : ByteArray).size = 6 := rfl
    have zq : (⟨#[81, 85, 73, 84, 13, 10]⟩ : ByteArray).size = 6 := rfl
    refine zs0 ?_
    refine iter_of (I := fun k σ => ∃ (i : Nat) (f0 : Bool), k = m + 1 - i ∧ i ≤ m + 1 ∧ σ = ⟨slots 385 [(1, .one (.ref 0 0)), (5, .one (.ref 1 0)), (6, .one (.int .i64 ((m + 1 : Nat) : Int))), (14, .one (.int .i64 tk)), (15, .one (.int .i64 en)), (16, .one (.str al)), (33, .one (.str (FR lm i))), (34, .one (.int .i64 i))], [.box 24 (tkC body N lm c z), .box 32 ((mB (m + 1) body).cs (.own 2)), .own 39 RT (rcB (m + 1)) true f0]⟩) ?_ (m + 1) ⟨0, _, rfl, by omega, rfl⟩
    rintro q σ K3 ⟨i, f0, rfl, hi, rfl⟩ hK3
    have wi := IntWalk.i64_in ((i : Int) + 1) (by omega)
    have zf := FR_size lm i
    by_cases hi1 : i = m + 1
    case neg =>
      have e1 : decide ((i : Int) < ((m + 1 : Nat) : Int)) = true := decide_eq_true (by omega)
      have rx := nth_of (rcB_get (show i < m + 1 by omega)) RT.dflt
      have ii : (0 : Int) ≤ i ∧ (i : Int) < (rcB (m + 1)).length := by rw [rcB_len]; omega
      have zl : (locB i).size = 1 := rfl
      have y1 : (FR lm i ++ (⟨#[82, 67, 80, 84, 32, 84, 79, 58, 60]⟩ : ByteArray)).size = (FR lm i).size + 9 := by rw [ByteArray.size_append, zr]
      have y2 : ((FR lm i ++ (⟨#[82, 67, 80, 84, 32, 84, 79, 58, 60]⟩ : ByteArray)) ++ locB i).size = (FR lm i).size + 10 := by rw [ByteArray.size_append, y1, zl]
      have rr : (rB i).1.1 = locB i := rfl
      refine zs4 e1 rx rr wi ?_
      exact hK3 _ _ (by omega) ⟨i + 1, _, rfl, by omega, rfl⟩
    subst hi1
    have e1 : decide (((m + 1 : Nat) : Int) < ((m + 1 : Nat) : Int)) = false := decide_eq_false (by omega)
    have zl := layO_size body
    have y1 : (FR lm (m + 1) ++ (⟨#[68, 65, 84, 65, 13, 10]⟩ : ByteArray)).size = (FR lm (m + 1)).size + 6 := by rw [ByteArray.size_append, zd]
    have y2 : ((FR lm (m + 1) ++ (⟨#[68, 65, 84, 65, 13, 10]⟩ : ByteArray)) ++ layO body).size = (FR lm (m + 1)).size + 6 + (layO body).size := by rw [ByteArray.size_append, y1]
    have hF : ((FR lm (m + 1) ++ (⟨#[68, 65, 84, 65, 13, 10]⟩ : ByteArray)) ++ layO body) ++ (⟨#[81, 85, 73, 84, 13, 10]⟩ : ByteArray) = X ++ (t ++ (⟨#[81, 85, 73, 84, 13, 10]⟩ : ByteArray)) := bl_inj (by
      have := congrArg Ab.bl hX
      rw [allB, bl_append] at this
      rw [bl_append, bl_append, this, bl_append, bl_append, bl_append, List.append_assoc])
    have y3 : (X ++ quitB).size = X.size + 6 := by rw [ByteArray.size_append]; rfl
    subst hXa
    refine zs2 e1 hF ?_
    have hll : ∀ x : ByteArray, (x.toList == x.toList) = true := fun x => beq_self_eq_true _
    have hcd : (bif decide (en > 0) then !((X ++ quitB).toList == (X ++ (t ++ (⟨#[81, 85, 73, 84, 13, 10]⟩ : ByteArray))).toList) else false) = false := by
      rcases he with rfl | hXe
      · rfl
      · have ht : t.size = 0 := by
          have := congrArg ByteArray.size hX
          rw [ByteArray.size_append, hXe] at this; omega
        have : t ++ (⟨#[81, 85, 73, 84, 13, 10]⟩ : ByteArray) = quitB := bl_inj (by rw [bl_append, show Ab.bl t = [] from List.length_eq_zero_iff.1 (by rw [bl_len, ht])]; rfl)
        rw [this, hll]; cases decide (en > 0) <;> rfl
    rw [hcd]
    refine Br.f ?_
    have e93 : decide (((X ++ quitB).size : Int) < ((⟨#[81, 85, 73, 84, 13, 10]⟩ : ByteArray).size : Int)) = false := decide_eq_false (by rw [zq, y3]; omega)
    have w93 : IntKind.i64.wrap (((X ++ quitB).size : Int) - ((⟨#[81, 85, 73, 84, 13, 10]⟩ : ByteArray).size : Int)) = (X.size : Int) := by
      rw [zq, y3, IntWalk.i64_in _ (by omega)]; omega
    have i93 : (0 : Int) ≤ X.size ∧ (X.size : Int) ≤ (X ++ quitB).size := ⟨by omega, by omega⟩
    have y4 : (X ++ (t ++ (⟨#[81, 85, 73, 84, 13, 10]⟩ : ByteArray))).size = X.size + (t ++ (⟨#[81, 85, 73, 84, 13, 10]⟩ : ByteArray)).size := by rw [ByteArray.size_append]
    have i94 : (0 : Int) ≤ X.size ∧ (X.size : Int) ≤ (X ++ (t ++ (⟨#[81, 85, 73, 84, 13, 10]⟩ : ByteArray))).size := ⟨by omega, by omega⟩
    have n93 : ((X.size : Int)).toNat = X.size := Int.toNat_natCast _
    have ex1 := ex_tail X quitB
    have ex2 := ex_head X quitB
    have ex3 := ex_head X (t ++ (⟨#[81, 85, 73, 84, 13, 10]⟩ : ByteArray))
    have hq0 : (quitB.toList == (⟨#[81, 85, 73, 84, 13, 10]⟩ : ByteArray).toList) = true := hll quitB
    have e96 : decide ((X.size : Int) ≤ ((X ++ (t ++ (⟨#[81, 85, 73, 84, 13, 10]⟩ : ByteArray))).size : Int)) = true := decide_eq_true i94.2
    have e97 : decide (tk ≥ 0) = true := decide_eq_true htk0
    refine zs6 e93 w93 n93 ex1 hq0 ex2 ?_
    refine zs5 e96 n93 ex3 hll e97 ?_
    exact hk
  have e6 : (s.st != 6) = true := by simpa using h6
  obtain ⟨hwl, h7, hcs⟩ := hR.cases h6
  have e7 : (s.st != 7) = true := by simpa using h7
  refine zs3 e60 e6 e7 ?_
  refine ⟨fun σ => ∃ g : Int, (200 ≤ g ∧ g ≤ 599) ∧ σ = ⟨slK3 (m + 1) at_ tk en al stp [(18, .one (.int .i64 g))], osK (tkC body N lm c z) (m + 1) body c stp w s f0 f1 f2 f3 f4 f5⟩, ?_, ?_⟩
  · refine zs0 ?_
    refine Br.mk (fun _ => ?_) (fun _ => ?_)
    · refine zs0 ?_
      exact ⟨220, by decide, rfl⟩
    · refine zs0 ?_
      exact ⟨250, by decide, rfl⟩
  rintro σ ⟨g, hg, rfl⟩
  refine zv ?_
  refine ⟨fun σ => ∃ g : Int, (200 ≤ g ∧ g ≤ 599) ∧ σ = ⟨slK3 (m + 1) at_ tk en al stp [(18, .one (.int .i64 g))], osK (tkC body N lm c z) (m + 1) body c stp w s f0 f1 f2 f3 f4 f5⟩, ?_, ?_⟩
  · refine zs0 ?_
    refine Br.mk (fun _ => ?_) (fun _ => ?_)
    · refine zs0 ?_
      exact ⟨354, by decide, rfl⟩
    · refine zs0 ?_
      exact ⟨g, hg, rfl⟩
  clear hg
  rintro σ ⟨g, hg, rfl⟩
  have hac : stp ≤ 1000000 ∧ c.length ≤ big := ⟨by omega, hc⟩
  refine zs0 ?_
  refine ⟨c, stp, g, trr, trr, hac, fun k hk0 => ?_⟩
  have hkk : 200 ≤ k ∧ k ≤ 599 := by omega
  clear hk0 hg
  have e200 : decide (k ≥ 200) = true := decide_eq_true hkk.1
  have hfk : fineK k = decide (k ≤ 299) := by rw [fineK, e200, Bool.true_and]
  refine zs1 e200 ?_
  refine ⟨fun σ => ∃ (en' tk' : Int) (g0 g1 g2 g3 g4 g5 : Bool), ((s.st ≠ 5 → en' = en) ∧ (0 ≤ tk' ∧ tk' ≤ stp + 1)) ∧ σ = ⟨slK3 (m + 1) at_ tk' en' al stp [(19, .one (.int .i64 (kB s.st k)))], osK (tkC body N lm c z) (m + 1) body c (stp + 1) (wantB lm s w k) s g0 g1 g2 g3 g4 g5⟩, ?_, ?_⟩
  · rcases hcs with h012 | h3 | h4 | h5
    · have hkB : kB s.st k = k := by rw [kB, if_neg (by omega)]
      have hwB : wantB lm s w k = bif fineK k then w else w.map fun _ => k := by unfold wantB; rw [if_neg (by omega), if_neg (by omega), if_neg (by omega)]
      rw [hkB, hwB, hfk]
      have e0n : decide ((0 : Int) < ((m + 1 : Nat) : Int)) = true := decide_eq_true (by omega)
      have hlast : ∀ (f : Bool), ((s.st ≠ 5 → en = en) ∧ (0 ≤ tk ∧ tk ≤ (stp : Int) + 1)) := fun _ => ⟨fun _ => rfl, by omega, by omega⟩
      cases hf : decide (k ≤ 299) with
      | true =>
        rcases h012 with h0 | h0 | h0
        · skip
          have b0 : (s.st == 0) = true := by rw [h0]; rfl
          refine zs1 b0 ?_
          refine ⟨1, ?_⟩
          refine zs1 e0n ?_
          exact ⟨_, _, _, _, _, _, _, _, hlast true, rfl⟩
        · skip
          have b0 : (s.st == 0) = false := by rw [h0]; rfl
          have b1 : (s.st == 1) = true := by rw [h0]; rfl
          refine zs2 b0 b1 ?_
          refine ⟨1, ?_⟩
          refine zs1 e0n ?_
          exact ⟨_, _, _, _, _, _, _, _, hlast true, rfl⟩
        · skip
          have b0 : (s.st == 0) = false := by rw [h0]; rfl
          have b1 : (s.st == 1) = false := by rw [h0]; rfl
          have b2 : (s.st == 2) = true := by rw [h0]; rfl
          refine zs3 b0 b1 b2 ?_
          refine ⟨1, ?_⟩
          refine zs1 e0n ?_
          exact ⟨_, _, _, _, _, _, _, _, hlast true, rfl⟩
      | false =>
        rcases h012 with h0 | h0 | h0
        · skip
          have b0 : (s.st == 0) = true := by rw [h0]; rfl
          refine zs1 b0 ?_
          refine iter_of (I := fun q σ => ∃ (i : Nat) (g0 g1 g2 g3 g4 g5 : Bool), q = m + 1 - i ∧ i ≤ m + 1 ∧ σ = ⟨slK3 (m + 1) at_ tk en al stp [(19, .one (.int .i64 k)), (20, .one (.bool false)), (21, .one (.int .i64 i))], osK (tkC body N lm c z) (m + 1) body c (stp + 1) (fillW k w i) s g0 g1 g2 g3 g4 g5⟩) ?_ (m + 1) ⟨0, _, _, _, _, _, _, rfl, by omega, rfl⟩
          rintro q σ K3 ⟨i, g0, g1, g2, g3, g4, g5, rfl, hi, rfl⟩ hK3
          have wi := IntWalk.i64_in ((i : Int) + 1) (by omega)
          by_cases hi1 : i = m + 1
          · subst hi1
            have e1 : decide (((m + 1 : Nat) : Int) < ((m + 1 : Nat) : Int)) = false := decide_eq_false (by omega)
            rw [fillW_all hwl]
            refine zs1 e1 ?_
            exact ⟨_, _, _, _, _, _, _, _, hlast true, rfl⟩
          · have e1 : decide ((i : Int) < ((m + 1 : Nat) : Int)) = true := decide_eq_true (by omega)
            have ii : (0 : Int) ≤ i ∧ (i : Int) < (fillW k w i).length := by rw [fillW_len]; omega
            refine zs2 e1 wi ?_
            exact hK3 _ _ (by omega) ⟨i + 1, _, _, _, _, _, _, rfl, by omega, by rw [fillW_next (show i < w.length by omega)]; rfl⟩
        · skip
          have b0 : (s.st == 0) = false := by rw [h0]; rfl
          have b1 : (s.st == 1) = true := by rw [h0]; rfl
          refine zs2 b0 b1 ?_
          refine iter_of (I := fun q σ => ∃ (i : Nat) (g0 g1 g2 g3 g4 g5 : Bool), q = m + 1 - i ∧ i ≤ m + 1 ∧ σ = ⟨slK3 (m + 1) at_ tk en al stp [(19, .one (.int .i64 k)), (20, .one (.bool false)), (21, .one (.int .i64 i))], osK (tkC body N lm c z) (m + 1) body c (stp + 1) (fillW k w i) s g0 g1 g2 g3 g4 g5⟩) ?_ (m + 1) ⟨0, _, _, _, _, _, _, rfl, by omega, rfl⟩
          rintro q σ K3 ⟨i, g0, g1, g2, g3, g4, g5, rfl, hi, rfl⟩ hK3
          have wi := IntWalk.i64_in ((i : Int) + 1) (by omega)
          by_cases hi1 : i = m + 1
          · subst hi1
            have e1 : decide (((m + 1 : Nat) : Int) < ((m + 1 : Nat) : Int)) = false := decide_eq_false (by omega)
            rw [fillW_all hwl]
            refine zs1 e1 ?_
            exact ⟨_, _, _, _, _, _, _, _, hlast true, rfl⟩
          · have e1 : decide ((i : Int) < ((m + 1 : Nat) : Int)) = true := decide_eq_true (by omega)
            have ii : (0 : Int) ≤ i ∧ (i : Int) < (fillW k w i).length := by rw [fillW_len]; omega
            refine zs2 e1 wi ?_
            exact hK3 _ _ (by omega) ⟨i + 1, _, _, _, _, _, _, rfl, by omega, by rw [fillW_next (show i < w.length by omega)]; rfl⟩
        · skip
          have b0 : (s.st == 0) = false := by rw [h0]; rfl
          have b1 : (s.st == 1) = false := by rw [h0]; rfl
          have b2 : (s.st == 2) = true := by rw [h0]; rfl
          refine zs3 b0 b1 b2 ?_
          refine iter_of (I := fun q σ => ∃ (i : Nat) (g0 g1 g2 g3 g4 g5 : Bool), q = m + 1 - i ∧ i ≤ m + 1 ∧ σ = ⟨slK3 (m + 1) at_ tk en al stp [(19, .one (.int .i64 k)), (20, .one (.bool false)), (21, .one (.int .i64 i))], osK (tkC body N lm c z) (m + 1) body c (stp + 1) (fillW k w i) s g0 g1 g2 g3 g4 g5⟩) ?_ (m + 1) ⟨0, _, _, _, _, _, _, rfl, by omega, rfl⟩
          rintro q σ K3 ⟨i, g0, g1, g2, g3, g4, g5, rfl, hi, rfl⟩ hK3
          have wi := IntWalk.i64_in ((i : Int) + 1) (by omega)
          by_cases hi1 : i = m + 1
          · subst hi1
            have e1 : decide (((m + 1 : Nat) : Int) < ((m + 1 : Nat) : Int)) = false := decide_eq_false (by omega)
            rw [fillW_all hwl]
            refine zs1 e1 ?_
            exact ⟨_, _, _, _, _, _, _, _, hlast true, rfl⟩
          · have e1 : decide ((i : Int) < ((m + 1 : Nat) : Int)) = true := decide_eq_true (by omega)
            have ii : (0 : Int) ≤ i ∧ (i : Int) < (fillW k w i).length := by rw [fillW_len]; omega
            refine zs2 e1 wi ?_
            exact hK3 _ _ (by omega) ⟨i + 1, _, _, _, _, _, _, rfl, by omega, by rw [fillW_next (show i < w.length by omega)]; rfl⟩
    · have ia := hR.at3 h3
      have wt := IntWalk.i64_in (tk + 1) (by omega)
      have hkB : kB s.st k = k := by rw [kB, if_neg (by omega)]
      have hwB : wantB lm s w k = w.set s.at_.toNat (bif fineK k then -1 else k) := by unfold wantB; rw [if_pos h3]
      rw [hkB, hwB, hfk]
      have b0 : (s.st == 0) = false := by rw [h3]; rfl
      have b1 : (s.st == 1) = false := by rw [h3]; rfl
      have b2 : (s.st == 2) = false := by rw [h3]; rfl
      have b3 : (s.st == 3) = true := by rw [h3]; rfl
      cases hf : decide (k ≤ 299) with
      | true =>
        refine zs5 b0 b1 b2 b3 wt ?_
        exact ⟨_, tk + 1, _, _, _, _, _, _, ⟨fun _ => rfl, by omega, by omega⟩, rfl⟩
      | false =>
        refine zs4 b0 b1 b2 b3 ?_
        exact ⟨_, tk, _, _, _, _, _, _, ⟨fun _ => rfl, by omega, by omega⟩, rfl⟩
    · have hkB : kB s.st k = k := by rw [kB, if_neg (by omega)]
      have hwB : wantB lm s w k = if k = 354 then w else w.map (putW (bif fineK k then 451 else k)) := by unfold wantB; rw [if_neg (by omega), if_pos h4]
      have e0n : decide ((0 : Int) < ((m + 1 : Nat) : Int)) = true := decide_eq_true (by omega)
      rw [hkB, hwB, hfk]
      have b0 : (s.st == 0) = false := by rw [h4]; rfl
      have b1 : (s.st == 1) = false := by rw [h4]; rfl
      have b2 : (s.st == 2) = false := by rw [h4]; rfl
      have b3 : (s.st == 3) = false := by rw [h4]; rfl
      have b4 : (s.st == 4) = true := by rw [h4]; rfl
      by_cases h354 : k = 354
      · have e354 : (k != 354) = false := by rw [h354]; rfl
        rw [if_pos h354]
        refine zs5 b0 b1 b2 b3 b4 ?_
        refine ⟨1, ?_⟩
        refine zs2 e0n e354 ?_
        exact ⟨_, tk, _, _, _, _, _, _, ⟨fun _ => rfl, by omega, by omega⟩, rfl⟩
      have e354 : (k != 354) = true := by simpa using h354
      rw [if_neg h354]
      cases hf : decide (k ≤ 299) with
      | true =>
        refine zs5 b0 b1 b2 b3 b4 ?_
        refine iter_of (I := fun q σ => ∃ (i : Nat) (g0 g1 g2 g3 g4 g5 : Bool), q = m + 1 - i ∧ i ≤ m + 1 ∧ σ = ⟨slK3 (m + 1) at_ tk en al stp [(19, .one (.int .i64 k)), (20, .one (.bool true)), (22, .one (.int .i64 i))], osK (tkC body N lm c z) (m + 1) body c (stp + 1) (mapI 451 w i) s g0 g1 g2 g3 g4 g5⟩) ?_ (m + 1) ⟨0, _, _, _, _, _, _, rfl, by omega, rfl⟩
        rintro q σ K3 ⟨i, g0, g1, g2, g3, g4, g5, rfl, hi, rfl⟩ hK3
        have wi := IntWalk.i64_in ((i : Int) + 1) (by omega)
        by_cases hi1 : i = m + 1
        · subst hi1
          have e1 : decide (((m + 1 : Nat) : Int) < ((m + 1 : Nat) : Int)) = false := decide_eq_false (by omega)
          rw [mapI_all hwl]
          refine zs1 e1 ?_
          exact ⟨_, tk, _, _, _, _, _, _, ⟨fun _ => rfl, by omega, by omega⟩, rfl⟩
        · have e1 : decide ((i : Int) < ((m + 1 : Nat) : Int)) = true := decide_eq_true (by omega)
          obtain ⟨x, hx⟩ : ∃ x, w[i]? = some x := ⟨_, List.getElem?_eq_getElem (by omega)⟩
          have rx := nth_of (mapI_get (c := 451) hx) IT.dflt
          have ii : (0 : Int) ≤ i ∧ (i : Int) < (mapI 451 w i).length := by rw [mapI_len]; omega
          by_cases hx1 : x = -1
          · subst hx1
            have ex : ((-1 : Int) == -1) = true := rfl
            have hss : ((mapI 451 w i).set i k).set i 451 = mapI 451 w (i + 1) := by rw [List.set_set, mapI_hit hx]
            have ij : (0 : Int) ≤ i ∧ (i : Int) < ((mapI 451 w i).set i k).length := by rw [List.length_set]; exact ii
            refine zs5 e1 e354 rx ex wi ?_
            exact hK3 _ _ (by omega) ⟨i + 1, _, _, _, _, _, _, rfl, by omega, by rw [← hss]; rfl⟩
          · have ex : (x == -1) = false := by simpa using hx1
            refine zs5 e1 e354 rx ex wi ?_
            exact hK3 _ _ (by omega) ⟨i + 1, _, _, _, _, _, _, rfl, by omega, by rw [mapI_miss hx hx1]; rfl⟩
      | false =>
        refine zs5 b0 b1 b2 b3 b4 ?_
        refine iter_of (I := fun q σ => ∃ (i : Nat) (g0 g1 g2 g3 g4 g5 : Bool), q = m + 1 - i ∧ i ≤ m + 1 ∧ σ = ⟨slK3 (m + 1) at_ tk en al stp [(19, .one (.int .i64 k)), (20, .one (.bool false)), (22, .one (.int .i64 i))], osK (tkC body N lm c z) (m + 1) body c (stp + 1) (mapI k w i) s g0 g1 g2 g3 g4 g5⟩) ?_ (m + 1) ⟨0, _, _, _, _, _, _, rfl, by omega, rfl⟩
        rintro q σ K3 ⟨i, g0, g1, g2, g3, g4, g5, rfl, hi, rfl⟩ hK3
        have wi := IntWalk.i64_in ((i : Int) + 1) (by omega)
        by_cases hi1 : i = m + 1
        · subst hi1
          have e1 : decide (((m + 1 : Nat) : Int) < ((m + 1 : Nat) : Int)) = false := decide_eq_false (by omega)
          rw [mapI_all hwl]
          refine zs1 e1 ?_
          exact ⟨_, tk, _, _, _, _, _, _, ⟨fun _ => rfl, by omega, by omega⟩, rfl⟩
        · have e1 : decide ((i : Int) < ((m + 1 : Nat) : Int)) = true := decide_eq_true (by omega)
          obtain ⟨x, hx⟩ : ∃ x, w[i]? = some x := ⟨_, List.getElem?_eq_getElem (by omega)⟩
          have rx := nth_of (mapI_get (c := k) hx) IT.dflt
          have ii : (0 : Int) ≤ i ∧ (i : Int) < (mapI k w i).length := by rw [mapI_len]; omega
          by_cases hx1 : x = -1
          · subst hx1
            have ex : ((-1 : Int) == -1) = true := rfl
            refine zs5 e1 e354 rx ex wi ?_
            exact hK3 _ _ (by omega) ⟨i + 1, _, _, _, _, _, _, rfl, by omega, by rw [mapI_hit hx]; rfl⟩
          · have ex : (x == -1) = false := by simpa using hx1
            refine zs5 e1 e354 rx ex wi ?_
            exact hK3 _ _ (by omega) ⟨i + 1, _, _, _, _, _, _, rfl, by omega, by rw [mapI_miss hx hx1]; rfl⟩
    · have hwB : wantB lm s w k = bif lm then putF (kB 5 k) w else w.map (putW (kB 5 k)) := by unfold wantB; rw [if_neg (by omega), if_neg (by omega), if_pos h5]
      have hkb := kB_of (st := 5) hkk
      have hkB : kB s.st k = kB 5 k := by rw [h5]
      rw [hwB, hkB]
      obtain ⟨kk, hkq⟩ : ∃ kk, kB 5 k = kk := ⟨_, rfl⟩
      rw [hkq] at hkb ⊢
      have b0 : (s.st == 0) = false := by rw [h5]; rfl
      have b1 : (s.st == 1) = false := by rw [h5]; rfl
      have b2 : (s.st == 2) = false := by rw [h5]; rfl
      have b3 : (s.st == 3) = false := by rw [h5]; rfl
      have b4 : (s.st == 4) = false := by rw [h5]; rfl
      have b5 : (s.st == 5) = true := by rw [h5]; rfl
      refine zs6 b0 b1 b2 b3 b4 b5 ?_
      refine ⟨fun σ => σ = ⟨slK3 (m + 1) at_ tk en al stp [(19, .one (.int .i64 kk))], osK (tkC body N lm c z) (m + 1) body c (stp + 1) w s f0 f1 f2 f3 f4 f5⟩, ?_, ?_⟩
      · refine zs0 ?_
        refine Br.mk (fun hq => ?_) (fun hq => ?_)
        · have hq2 : 300 ≤ k ∧ k ≤ 399 := by simpa using hq
          have : kk = 451 := by rw [← hkq, kB, if_pos ⟨rfl, hq2⟩]
          subst this
          refine zs0 ?_
          try rfl
        · have hq2 : ¬ (300 ≤ k ∧ k ≤ 399) := by
            intro h
            have : decide (k ≥ 300) = true := decide_eq_true h.1
            have h' : decide (k ≤ 399) = true := decide_eq_true h.2
            rw [this, h'] at hq; cases hq
          have : kk = k := by rw [← hkq, kB, if_neg (fun h => hq2 h.2)]
          subst this
          refine zs0 ?_
          try rfl
      rintro σ rfl
      refine zs0 ?_
      cases lm with
      | false =>
        refine iter_of (I := fun q σ => ∃ (i : Nat) (en' : Int) (g0 g1 g2 g3 g4 g5 : Bool), q = m + 1 - i ∧ i ≤ m + 1 ∧ σ = ⟨slK3 (m + 1) at_ tk en' al stp [(19, .one (.int .i64 kk)), (23, .one (.int .i64 i))], osK (tkC body N false c z) (m + 1) body c (stp + 1) (mapI kk w i) s g0 g1 g2 g3 g4 g5⟩) ?_ (m + 1) ⟨0, en, _, _, _, _, _, _, rfl, by omega, rfl⟩
        rintro q σ K3 ⟨i, en', g0, g1, g2, g3, g4, g5, rfl, hi, rfl⟩ hK3
        have wi := IntWalk.i64_in ((i : Int) + 1) (by omega)
        by_cases hi1 : i = m + 1
        · subst hi1
          have e1 : decide (((m + 1 : Nat) : Int) < ((m + 1 : Nat) : Int)) = false := decide_eq_false (by omega)
          rw [mapI_all hwl]
          refine zs1 e1 ?_
          exact ⟨en', tk, _, _, _, _, _, _, ⟨fun h => absurd h5 h, by omega, by omega⟩, rfl⟩
        · have e1 : decide ((i : Int) < ((m + 1 : Nat) : Int)) = true := decide_eq_true (by omega)
          obtain ⟨x, hx⟩ : ∃ x, w[i]? = some x := ⟨_, List.getElem?_eq_getElem (by omega)⟩
          have rx := nth_of (mapI_get (c := kk) hx) IT.dflt
          have ii : (0 : Int) ≤ i ∧ (i : Int) < (mapI kk w i).length := by rw [mapI_len]; omega
          by_cases hx1 : x = -1
          · subst hx1
            have ex : ((-1 : Int) == -1) = true := rfl
            refine zs4 e1 rx ex wi ?_
            exact hK3 _ _ (by omega) ⟨i + 1, _, _, _, _, _, _, _, rfl, by omega, by rw [mapI_hit hx]; rfl⟩
          · have ex : (x == -1) = false := by simpa using hx1
            refine zs4 e1 rx ex wi ?_
            exact hK3 _ _ (by omega) ⟨i + 1, _, _, _, _, _, _, _, rfl, by omega, by rw [mapI_miss hx hx1]; rfl⟩
      | true =>
        refine iter_of (I := fun q σ => ∃ (i : Nat) (g0 g1 g2 g3 g4 g5 : Bool), q = m + 1 - i ∧ (i ≤ m + 1 ∧ ∀ x ∈ w.take i, x ≠ -1) ∧ σ = ⟨slK3 (m + 1) at_ tk en al stp [(19, .one (.int .i64 kk)), (23, .one (.int .i64 i))], osK (tkC body N true c z) (m + 1) body c (stp + 1) w s g0 g1 g2 g3 g4 g5⟩) ?_ (m + 1) ⟨0, _, _, _, _, _, _, rfl, ⟨by omega, fun x hx => by cases hx⟩, rfl⟩
        rintro q σ K3 ⟨i, g0, g1, g2, g3, g4, g5, rfl, ⟨hi, hno⟩, rfl⟩ hK3
        have wi := IntWalk.i64_in ((i : Int) + 1) (by omega)
        by_cases hi1 : i = m + 1
        · subst hi1
          have e1 : decide (((m + 1 : Nat) : Int) < ((m + 1 : Nat) : Int)) = false := decide_eq_false (by omega)
          rw [List.take_of_length_le (by omega)] at hno
          rw [putF_none hno]
          refine zs1 e1 ?_
          exact ⟨en, tk, _, _, _, _, _, _, ⟨fun h => absurd h5 h, by omega, by omega⟩, rfl⟩
        · have e1 : decide ((i : Int) < ((m + 1 : Nat) : Int)) = true := decide_eq_true (by omega)
          obtain ⟨x, hx⟩ : ∃ x, w[i]? = some x := ⟨_, List.getElem?_eq_getElem (by omega)⟩
          have rx := nth_of hx IT.dflt
          have ii : (0 : Int) ≤ i ∧ (i : Int) < w.length := by omega
          by_cases hx1 : x = -1
          · subst hx1
            have ex : ((-1 : Int) == -1) = true := rfl
            rw [putF_set w i hx hno]
            refine zs3 e1 rx ex ?_
            exact ⟨_, tk, _, _, _, _, _, _, ⟨fun h => absurd h5 h, by omega, by omega⟩, rfl⟩
          · have ex : (x == -1) = false := by simpa using hx1
            refine zs4 e1 rx ex wi ?_
            exact hK3 _ _ (by omega) ⟨i + 1, _, _, _, _, _, _, rfl, ⟨by omega, fun y hy => by
              rw [List.take_add_one, hx] at hy
              rcases List.mem_append.1 hy with hy | hy
              · exact hno y hy
              · rw [Option.toList_some, List.mem_singleton] at hy; rw [hy]; exact hx1⟩, rfl⟩
  rintro σ ⟨en', tk', g0, g1, g2, g3, g4, g5, ⟨hen, ht0, ht1⟩, rfl⟩
  obtain ⟨μ', hμ, hR'⟩ := stepB hR (by omega) hkk h6 en' hen
  have hqk := kB_of (st := s.st) hkk
  generalize kB s.st k = kk at hR' hqk ⊢
  generalize hww : wantB lm s w k = w' at hR' ⊢
  obtain ⟨q, rfl⟩ : ∃ q : Nat, kk = q := ⟨kk.toNat, by omega⟩
  have hq46 : q < 4611686018427387904 := by omega
  clear hac e200 hfk hkk f0 f1 f2 f3 f4 f5 w1 hcs
  have z1 : ∀ t : ByteArray, bl t = decL q → t.size = 3 := fun t h => by rw [← bl_len, h, decL3 (by omega) (by omega)]; rfl
  have zo : (⟨#[45, 111, 110, 101, 13, 10]⟩ : ByteArray).size = 6 := rfl
  have zt : (⟨#[32, 116, 119, 111, 13, 10]⟩ : ByteArray).size = 6 := rfl
  refine zs0 ?_
  intro t1 h1
  have y1 := z1 t1 h1
  have y3 : (t1 ++ (⟨#[45, 111, 110, 101, 13, 10]⟩ : ByteArray)).size = 9 := by rw [ByteArray.size_append, y1, zo]
  refine zs0 ?_
  intro t2 h2
  have y2 := z1 t2 h2
  have y4 : ((t1 ++ (⟨#[45, 111, 110, 101, 13, 10]⟩ : ByteArray)) ++ t2).size = 12 := by rw [ByteArray.size_append, y3, y2]
  have y5 : (((t1 ++ (⟨#[45, 111, 110, 101, 13, 10]⟩ : ByteArray)) ++ t2) ++ (⟨#[32, 116, 119, 111, 13, 10]⟩ : ByteArray)).size = 18 := by rw [ByteArray.size_append, y4, zt]
  refine zs0 ?_
  refine ⟨fun σ => ∃ A : List Int, (chkA A q = true ∧ A.length ≤ 18) ∧ ∃ (g0 g1 g2 g3 g4 g5 : Bool), σ = ⟨slK3 (m + 1) at_ tk' en' al stp [(24, .one (.sl (.int .u8) A))], osK (tkC body N lm c z) (m + 1) body c (stp + 1) w' s g0 g1 g2 g3 g4 g5⟩, ?_, ?_⟩
  · have hA := ans_bytes (n := q) (by omega) (by omega) h1 h2
    cases hq1 : ((q : Int) == 451) with
    | false =>
      refine zs1 hq1 ?_
      exact ⟨_, ⟨by rw [hA]; exact chk_ans2 hqk.1 hqk.2, by rw [hA, ans2_len]; omega⟩, _, _, _, _, _, _, rfl⟩
    | true =>
      have hq2 : (q : Int) = 451 := by simpa using hq1
      cases hq5 : (s.st == 5) with
      | false =>
        refine zs2 hq1 hq5 ?_
        exact ⟨_, ⟨by rw [hA]; exact chk_ans2 hqk.1 hqk.2, by rw [hA, ans2_len]; omega⟩, _, _, _, _, _, _, rfl⟩
      | true =>
        refine zs2 hq1 hq5 ?_
        exact ⟨ans1, ⟨by rw [hq2]; exact chk_ans1, by decide⟩, _, _, _, _, _, _, rfl⟩
  clear h1 h2 y1 y2 y3 y4 y5 t1 t2 z1 zo zt g0 g1 g2 g3 g4 g5
  rintro σ ⟨A, ⟨hA, hA18⟩, g0, g1, g2, g3, g4, g5, rfl⟩
  have hAl := chkA.len hA
  refine zs0 ?_
  refine iter_of (I := fun kx σ => ∃ (p at2 : Nat) (S : Sd) (AL : ByteArray) (f0 f1 f2 f3 f4 f5 : Bool), kx = A.length - p ∧ ((at2 ≤ at_ + p ∧ p ≤ 40) ∧ ((p < A.length ∧ midS s A p = S ∧ al = AL) ∨ (A.length ≤ p ∧ (goesM (mB (m + 1) body) hB s ByteArray.empty q).1 = S ∧ al ++ (goesM (mB (m + 1) body) hB s ByteArray.empty q).2 = AL))) ∧ σ = ⟨slK3 (m + 1) at2 tk' en' AL stp [(24, .one (.sl (.int .u8) A)), (25, .one (.int .i64 p))], osK (tkC body N lm c z) (m + 1) body c (stp + 1) w' S f0 f1 f2 f3 f4 f5⟩) ?_ A.length ⟨0, at_, s, al, _, _, _, _, _, _, rfl, ⟨⟨by omega, by omega⟩, .inl ⟨hAl, hR.midz A, rfl⟩⟩, rfl⟩
  rintro kx σ K4 ⟨p, at2, S, AL, f0, f1, f2, f3, f4, f5, rfl, ⟨⟨hat2, hp40⟩, hS⟩, rfl⟩ hK4
  have w1 := IntWalk.i64_in ((stp : Int) + 1) (by omega)
  by_cases hpA : p < A.length
  case neg =>
    have e1 : decide ((p : Int) < (A.length : Int)) = false := decide_eq_false (by omega)
    obtain ⟨_, rfl, rfl⟩ := hS.resolve_left (fun h => hpA h.1)
    refine zs2 e1 w1 ?_
    exact hK2 _ _ hμ ⟨w', _, _, en', tk', μ', stp + 1, at2, _, _, _, _, _, _, rfl, hR', ⟨⟨by omega, by omega⟩, by omega, by omega⟩, rfl⟩
  obtain ⟨_, hSe, rfl⟩ := hS.resolve_right (fun h => absurd hpA (by omega))
  have hSt := mid_fit hA (by omega) hsf (show p ≤ A.length by omega)
  have hSr := mid_rest hA (s := s) (p := p) (by omega)
  have hSm : mayHr (mB (m + 1) body) hB (midS s A p) = true := by rw [mayHr, mailB (by omega) hm8 hM, mid_may hA (hR.may (by omega) hm8) hpA, hostB]; rfl
  rw [hSe] at hSt hSr hSm
  have e1 : decide ((p : Int) < (A.length : Int)) = true := decide_eq_true (by omega)
  have w2 := IntWalk.i64_in ((at2 : Int) + 1) (by omega)
  refine zs1 e1 ?_
  refine ⟨fun σ => ∃ sz : Nat, (1 ≤ sz ∧ sz ≤ 18) ∧ ∃ (f0 f1 f2 f3 f4 f5 : Bool), σ = ⟨slK3 (m + 1) at2 tk' en' al stp [(24, .one (.sl (.int .u8) A)), (25, .one (.int .i64 p)), (26, .one (.int .i64 sz))], osK (tkC body N lm c z) (m + 1) body c (stp + 1) w' S f0 f1 f2 f3 f4 f5⟩, ?_, ?_⟩
  · refine zs0 ?_
    refine Br.mk (fun hlt => ?_) (fun _ => ?_)
    · have hlt' : at2 < z.length := by have := of_decide_eq_true hlt; omega
      obtain ⟨x, hx⟩ : ∃ x, z[at2]? = some x := ⟨_, List.getElem?_eq_getElem hlt'⟩
      have rx := nth_of hx IT.dflt
      have ii : (0 : Int) ≤ at2 ∧ (at2 : Int) < z.length := ⟨by omega, by omega⟩
      refine zs1 rx ?_
      intro r hr
      obtain ⟨y, rfl⟩ : ∃ y : Nat, r = y := ⟨r.toNat, by omega⟩
      have wy : IntKind.i64.wrap (1 + (y : Int)) = ((y + 1 : Nat) : Int) := by rw [IntWalk.i64_in _ (by omega)]; omega
      refine zs1 wy ?_
      exact ⟨y + 1, ⟨by omega, by omega⟩, _, _, _, _, _, _, rfl⟩
    · refine zs0 ?_
      exact ⟨A.length, ⟨by omega, hA18⟩, _, _, _, _, _, _, rfl⟩
  clear f0 f1 f2 f3 f4 f5
  rintro σ ⟨sz, ⟨hz1, hz2⟩, f0, f1, f2, f3, f4, f5, rfl⟩
  have wsz := IntWalk.i64_in ((p : Int) + sz) (by omega)
  obtain ⟨e, he, he1, he2, he3, he4⟩ : ∃ e : Nat, (if (A.length : Int) < (p : Int) + sz then (A.length : Int) else (p : Int) + sz) = (e : Int) ∧ p < e ∧ e ≤ A.length ∧ (e < A.length → p + sz = e) ∧ (e = A.length → A.length ≤ p + sz) := by
    by_cases h : (A.length : Int) < (p : Int) + sz
    · exact ⟨A.length, by rw [if_pos h], by omega, by omega, by omega, by omega⟩
    · exact ⟨p + sz, by rw [if_neg h]; omega, by omega, by omega, by omega, by omega⟩
  have isl : (0 : Int) ≤ p ∧ (p : Int) ≤ e ∧ (e : Int) ≤ A.length := ⟨by omega, by omega, by omega⟩
  obtain ⟨S', o', hH, hS'⟩ := hear_step hA hR h7 he1 he2
  rw [hSe] at hH
  have hal := hR.alsize hm8 hb3
  have hal' := hR'.alsize hm8 hb3
  have hrs : S.rest.size + ((A.take e).drop p).length ≤ big := by
    rw [List.length_drop, List.length_take]; simp only [big]; omega
  have hby : Byts ((A.take e).drop p) := fun x hx => chkA.byts hA x (List.mem_of_mem_take (List.mem_of_mem_drop hx))
  have ho' : al.size + o'.size ≤ 9223372036854775807 := by
    rcases hS' with ⟨_, _, rfl⟩ | ⟨_, _, rfl⟩
    · show al.size + 0 ≤ _; omega
    · rw [ByteArray.size_append] at hal'; omega
  refine zs1 w2 ?_
  refine ⟨fun σ => ∃ (f0 f1 f2 f3 f4 f5 f6 f7 f8 f9 : Bool), σ = ⟨slK3 (m + 1) (at2 + 1) tk' en' al stp [(24, .one (.sl (.int .u8) A)), (25, .one (.int .i64 p)), (26, .one (.int .i64 sz)), (27, .one (.ref 5 0)), (28, .one (.str o')), (29, .one (.int .i64 0))], [.box 24 (tkC body N lm c z), .box 32 ((mB (m + 1) body).cs (.own 6)), .box 43 (S.ow 7), .box 50 [.sl IT c, .int .i64 ((stp + 1 : Nat) : Int)], .own 3 IT w' true f0, .box 43 (S'.ow 11), .own 39 RT (rcB (m + 1)) true f1, .own 3 IT S.rc true f2, .own 3 IT S.tk true f3, .own 3 IT S.cd true f4, .own 9 ST S.ln true f5, .own 3 IT S'.rc true f6, .own 3 IT S'.tk true f7, .own 3 IT S'.cd true f8, .own 9 ST S'.ln true f9]⟩, ?_, ?_⟩
  · refine ⟨[], (.take 0 (.take 1 (.take 2 (.take 3 (.take 4 (.take 5 (.take 6 (.take 7 (.take 8 (.br 9 (.br 10 (.br 11 (.take 12 (.take 13 (.take 14 (.take 15 (.br 16 (.br 17 (.take 18 (.take 19 .done)) .nil) .nil))))) (.br 16 (.br 11 (.take 12 (.take 13 (.take 14 (.take 15 (.br 17 (.take 18 (.take 19 .done)) .nil))))) .nil) .nil)) (.br 16 (.br 10 (.br 11 (.take 12 (.take 13 (.take 14 (.take 15 (.br 17 (.take 18 (.take 19 .done)) .nil))))) .nil) .nil) .nil)) (.br 16 (.br 9 (.br 10 (.br 11 (.take 12 (.take 13 (.take 14 (.take 15 (.br 17 (.take 18 (.take 19 .done)) .nil))))) .nil) .nil) .nil) .nil))))))))))), ⟨by kernel_rfl⟩, ?_⟩
    ((conv => whnf); repeat' ((first | refine Both.mk ?_ ?_ | refine Br.t ?_ | refine Br.f ?_ | refine ob ?_ | refine ⟨_, rfl, ?_⟩ | refine ⟨_, _, rfl, ?_⟩ | refine ⟨_, _, _, rfl, ?_⟩ | refine ⟨_, _, _, _, rfl, ?_⟩ | simp only [wsz, he]); all_goals (conv => whnf)))
    all_goals
      refine ⟨[.agg S.fz, .agg ((mB (m + 1) body).cs (.sl RT (mB (m + 1) body).rc)), .one (.sl (.int .u8) ((A.take e).drop p)), .one (.str hB)], trr, lnt, ?_⟩
      refine zy ?_
      refine ⟨S, mB (m + 1) body, hB, (A.take e).drop p, trr, trr, ⟨⟨hSt, hmf⟩, by decide, hrs, hby⟩, fun h => (by rw [hSm] at h; cases h), fun _ k0 k1 k2 k3 => ?_⟩
      rw [hH]
      ((conv => whnf); repeat' ((first | refine Both.mk ?_ ?_ | refine Br.t ?_ | refine Br.f ?_ | refine ob ?_ | refine ⟨_, rfl, ?_⟩ | refine ⟨_, _, rfl, ?_⟩ | refine ⟨_, _, _, rfl, ?_⟩ | refine ⟨_, _, _, _, rfl, ?_⟩ | simp only []); all_goals (conv => whnf)))
    all_goals exact ⟨_, _, _, _, _, _, _, _, _, _, rfl⟩
  clear f0 f1 f2 f3 f4 f5
  rintro σ ⟨f0, f1, f2, f3, f4, f5, f6, f7, f8, f9, rfl⟩
  refine zs1 wsz ?_
  rcases hS' with ⟨hlt, rfl, ho⟩ | ⟨heq, rfl, rfl⟩
  · refine hK4 _ _ ?_ ⟨p + sz, at2 + 1, _, al ++ o', _, _, _, _, _, _, rfl, ⟨⟨by omega, by omega⟩, .inl ⟨by have := he3 hlt; omega, by rw [he3 hlt], by rw [ho, cat_nil]⟩⟩, rfl⟩
    have := he3 hlt
    omega
  · refine hK4 _ _ ?_ ⟨p + sz, at2 + 1, _, _, _, _, _, _, _, _, rfl, ⟨⟨by omega, by omega⟩, .inr ⟨he4 heq, rfl, rfl⟩⟩, rfl⟩
    have := he4 heq
    omega
end Go.Proofs.YtilagaapfbfkkaaGreatDoor.Ab

