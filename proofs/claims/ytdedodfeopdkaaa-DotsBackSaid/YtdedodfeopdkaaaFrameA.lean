/- Plain words on texts as lists of bytes, and on the lines of a stream. -/
import Derived.Test.YtdedodfeopdkaaaWWords
import Derived.Test.YtdedodfeopdkaaaWMore
import Derived.Laws.Strings
import Derived.Lib.IndexMore
import Derived.Lib.IndexLaws
namespace Go.Proofs.Ytdedodfeopdkaaa
set_option linter.unusedSimpArgs false
set_option linter.unusedVariables false
open Go.RowKit Go.Proofs.YtdedodfeopdkaaaW.PrintWords Go.Proofs.YtdedodfeopdkaaaW.PrintLast Go.Proofs.YtdedodfeopdkaaaW.PrintMore

/-- A text out of its bytes. -/
def bs (l : List UInt8) : ByteArray := ⟨l.toArray⟩
theorem bs_data (b : ByteArray) : bs b.data.toList = b := by cases b; rfl
theorem bs_toList (l : List UInt8) : (bs l).toList = l := ByteArray.toList_mk l
theorem bs_dt (l : List UInt8) : (bs l).data.toList = l := rfl
theorem bs_size (l : List UInt8) : (bs l).size = l.length := by simp [bs, ByteArray.size]
theorem bs_inj {a b : List UInt8} (h : bs a = bs b) : a = b := by rw [← bs_toList a, h, bs_toList]
theorem bs_append (a b : List UInt8) : bs a ++ bs b = bs (a ++ b) := by
  apply ByteArray.ext
  apply Array.toList_inj.1
  rw [ByteArray.toList_data_append]
  rfl
theorem bs_extract (l : List UInt8) (i j : Nat) : (bs l).extract i j = bs ((l.take j).drop i) := by
  apply ByteArray.ext
  rw [ByteArray.data_extract]
  apply Array.toList_inj.1
  simp [bs, Array.toList_extract, List.extract_eq_take_drop, List.drop_take]
theorem strOf_bs (l : List Int) : strOfNums l = bs (l.map fun n => UInt8.ofNat n.toNat) := rfl
theorem bt_bs (l : List UInt8) (i : Int) (h : i.toNat < l.length) : bt (bs l) i = ((l[i.toNat]).toNat : Int) := by
  unfold bt
  rw [dif_pos (by rw [bs_size]; exact h)]
  rfl
theorem wrap_id {n : Int} (h1 : -9223372036854775808 ≤ n) (h2 : n ≤ 9223372036854775807) : wrap64 n = n := by unfold wrap64; omega

/-- Just a last 13. -/
def tl (u : List UInt8) : List UInt8 := if u.getLast? = some 13 then [13] else []
/-- What a framer has behind the bytes u of a line; s: they were passed over from the begin. -/
def st (u : List UInt8) (s : Bool) : List UInt8 × Bool := if s = true ∨ 512 ≤ u.length then (tl u, true) else (u, false)
/-- Which line it is. -/
def ln (u : List UInt8) (s : Bool) : List UInt8 × Bool := if s = true ∨ 512 < u.length + 2 then ([], true) else (u, false)
/-- A stream's lines, and what is open behind them. -/
def scan : List UInt8 → Bool → List UInt8 → List (List UInt8 × Bool) × List UInt8 × Bool
  | u, s, [] => ([], u, s)
  | u, s, c :: cs => if u.getLast? = some 13 ∧ c = 10 then (ln u.dropLast s :: (scan [] false cs).1, (scan [] false cs).2) else scan (u ++ [c]) s cs

/-- No line ends inside. -/
def NoEnd (u : List UInt8) : Prop := ∀ i : Nat, u[i]? = some 13 → u[i + 1]? ≠ some 10

theorem NoEnd.nil : NoEnd [] := fun i h => by simp at h
theorem NoEnd.left {u v : List UInt8} (h : NoEnd (u ++ v)) : NoEnd u := fun i h1 h2 => by
  have hi := (List.getElem?_eq_some_iff.1 h2).1
  exact h i (by rw [List.getElem?_append_left (by omega)]; exact h1) (by rw [List.getElem?_append_left hi]; exact h2)
theorem getLast_13 {u : List UInt8} (h : u.getLast? = some 13) : 0 < u.length ∧ u[u.length - 1]? = some 13 := by
  rw [List.getLast?_eq_getElem?] at h
  exact ⟨by have := (List.getElem?_eq_some_iff.1 h).1; omega, h⟩
theorem NoEnd.step {u : List UInt8} {c : UInt8} {v : List UInt8} (h : NoEnd (u ++ c :: v)) : ¬ (u.getLast? = some 13 ∧ c = 10) := by
  rintro ⟨h1, rfl⟩
  obtain ⟨h0, h1⟩ := getLast_13 h1
  refine h (u.length - 1) (by rw [List.getElem?_append_left (by omega)]; exact h1) ?_
  rw [show u.length - 1 + 1 = u.length by omega, List.getElem?_append_right (Nat.le_refl _), Nat.sub_self]
  rfl
/-- What ends no line is gone through. -/
theorem scan_run (s : Bool) (X : List UInt8) : ∀ (p u : List UInt8), NoEnd (u ++ p) → scan u s (p ++ X) = scan (u ++ p) s X
  | [], u, _ => by simp
  | c :: p, u, h => by
    have h' : NoEnd ((u ++ [c]) ++ p) := by simpa using h
    rw [List.cons_append, scan, if_neg (NoEnd.step h), scan_run s X p (u ++ [c]) h']
    simp
theorem scan_end {u : List UInt8} {s : Bool} {X : List UInt8} : scan (u ++ [13]) s (10 :: X) = (ln u s :: (scan [] false X).1, (scan [] false X).2) := by
  rw [scan, if_pos ⟨by simp, rfl⟩]
  simp
theorem scan_len : ∀ (X u : List UInt8) (s : Bool), (scan u s X).1.length ≤ X.length
  | [], u, s => by simp [scan]
  | c :: X, u, s => by
    rw [scan]
    split
    · have := scan_len X [] false
      simp; omega
    · have := scan_len X (u ++ [c]) s
      simp; omega
theorem scan_two : ∀ (X Y u : List UInt8) (s : Bool), scan u s (X ++ Y) = ((scan u s X).1 ++ (scan (scan u s X).2.1 (scan u s X).2.2 Y).1, (scan (scan u s X).2.1 (scan u s X).2.2 Y).2)
  | [], Y, u, s => by simp [scan]
  | c :: X, Y, u, s => by
    rw [List.cons_append, scan, scan]
    split
    · simp only [List.cons_append]
      rw [scan_two X Y [] false]
    · exact scan_two X Y (u ++ [c]) s
/-- What is open ends no line. -/
theorem scan_open : ∀ (X u : List UInt8) (s : Bool), NoEnd u → NoEnd (scan u s X).2.1
  | [], u, s, h => h
  | c :: X, u, s, h => by
    rw [scan]
    split
    · exact scan_open X [] false NoEnd.nil
    · rename_i hn
      refine scan_open X (u ++ [c]) s (fun i h1 h2 => ?_)
      by_cases hi : i + 1 < u.length
      · rw [List.getElem?_append_left (by omega)] at h1 h2
        exact h i h1 h2
      · have hl := (List.getElem?_eq_some_iff.1 h2).1
        simp only [List.length_append, List.length_cons, List.length_nil] at hl
        have he : i + 1 = u.length := by omega
        rw [List.getElem?_append_right (by omega), he, Nat.sub_self] at h2
        rw [List.getElem?_append_left (by omega)] at h1
        refine hn ⟨?_, by simpa using h2⟩
        rw [List.getLast?_eq_getElem?, show u.length - 1 = i by omega]
        exact h1

/-! ### The first end of a line, as strings.Index finds it -/
theorem occ_iff (a : List UInt8) (i : Nat) : Lib.occAt a [13, 10] i = true ↔ a[i]? = some 13 ∧ a[i + 1]? = some 10 := by
  unfold Lib.occAt
  rw [List.isPrefixOf_iff_prefix]
  constructor
  · rintro ⟨r, hr⟩
    constructor
    · have : (a.drop i)[0]? = some 13 := by rw [← hr]; rfl
      simpa using this
    · have : (a.drop i)[1]? = some 10 := by rw [← hr]; rfl
      simpa using this
  · rintro ⟨h1, h2⟩
    refine ⟨a.drop (i + 2), ?_⟩
    obtain ⟨k1, e1⟩ := List.getElem?_eq_some_iff.1 h1
    obtain ⟨k2, e2⟩ := List.getElem?_eq_some_iff.1 h2
    rw [List.drop_eq_getElem_cons k1, List.drop_eq_getElem_cons k2, e1, e2]
    rfl
theorem index_no {a : List UInt8} (h : Lib.index a [13, 10] = -1) : NoEnd a := by
  rcases Lib.index_spec a [13, 10] with ⟨_, hn⟩ | ⟨i, he, _⟩
  · intro i h1 h2
    have := hn i (by have := (List.getElem?_eq_some_iff.1 h1).1; omega)
    rw [(occ_iff a i).2 ⟨h1, h2⟩] at this
    cases this
  · rw [he] at h
    omega
theorem index_none_ {a : List UInt8} (h : NoEnd a) : Lib.index a [13, 10] = -1 := by
  rcases Lib.index_spec a [13, 10] with ⟨he, _⟩ | ⟨i, _, _, ho, _⟩
  · exact he
  · obtain ⟨h1, h2⟩ := (occ_iff a i).1 ho
    exact absurd h2 (h i h1)
/-- Where it is found the text is parted there, and what is ahead of it ends no line. -/
theorem index_at {a : List UInt8} (h : 0 ≤ Lib.index a [13, 10]) : ∃ p X, a = p ++ 13 :: 10 :: X ∧ NoEnd (p ++ [13]) ∧ Lib.cut a [13, 10] = (p, X, true) := by
  rcases Lib.index_spec a [13, 10] with ⟨he, _⟩ | ⟨i, he, hi, ho, hno⟩
  · rw [he] at h
    omega
  · obtain ⟨h1, h2⟩ := (occ_iff a i).1 ho
    obtain ⟨k1, e1⟩ := List.getElem?_eq_some_iff.1 h1
    obtain ⟨k2, e2⟩ := List.getElem?_eq_some_iff.1 h2
    have hd : a.drop i = 13 :: 10 :: a.drop (i + 2) := by rw [List.drop_eq_getElem_cons k1, List.drop_eq_getElem_cons k2, e1, e2]
    have ha : a = a.take i ++ 13 :: 10 :: a.drop (i + 2) := by rw [← hd, List.take_append_drop]
    refine ⟨a.take i, a.drop (i + 2), ha, ?_, ?_⟩
    · intro j g1 g2
      have hl : (a.take i).length = i := by rw [List.length_take]; omega
      have hj : j + 1 < i + 1 := by have := (List.getElem?_eq_some_iff.1 g2).1; simp only [List.length_append, hl, List.length_cons, List.length_nil] at this; omega
      have q1 : a[j]? = some 13 := by
        rw [List.getElem?_append_left (by omega), List.getElem?_take, if_pos (by omega)] at g1
        exact g1
      have q2 : a[j + 1]? = some 10 := by
        by_cases hji : j + 1 < i
        · rw [List.getElem?_append_left (by omega), List.getElem?_take, if_pos (by omega)] at g2
          exact g2
        · rw [List.getElem?_append_right (by omega), hl, show j + 1 - i = 0 by omega] at g2
          cases g2
      have := hno j (by omega)
      rw [(occ_iff a j).2 ⟨q1, q2⟩] at this
      cases this
    · unfold Lib.cut
      rw [if_pos h, he]
      simp
theorem cut_no {a : List UInt8} (h : NoEnd a) : Lib.cut a [13, 10] = (a, [], false) := by
  unfold Lib.cut
  rw [index_none_ h, if_neg (by decide)]
theorem contains_iff (a : List UInt8) : Lib.contains a [13, 10] = false ↔ NoEnd a := by
  unfold Lib.contains
  constructor
  · intro h
    have h' := of_decide_eq_false h
    exact index_no (by have := Lib.index_ge a [13, 10]; omega)
  · intro h
    rw [index_none_ h]
    rfl

end Go.Proofs.Ytdedodfeopdkaaa
