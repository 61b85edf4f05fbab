/- Part 6 of 10 of the texts that the sender's rows rest on, put together by a program; no condition. -/
import Derived.Test.YtilagaapfbfkkaaGreatDoorZV5
import Derived.Shelf.Strconv.Itoa3
import Derived.Lib.AppendIntMem
import Derived.Shelf.Strconv.AtoiAll
import Derived.Shelf.Strings.Split
import Derived.Test.YtilagaapfbfkkaaGreatDoorZV2
import Derived.Deep.Slices
import Derived.SizedLaws
import Derived.Test.YtilagaapfbfkkaaGreatDoorRows
import Derived.Stop.LaidErr
import Derived.Lib.LaidTab
import Derived.Lib.LaidIn
import Derived.LaidMore
import Derived.HandedShaped
import Derived.MakeChecks
import Derived.Test.YtilagaapfbfkkaaGreatDoorTie
import Derived.Test.YtilagaapfbfkkaaGreatDoorCards
import Derived.Deep.DeepHandedRow
import Derived.Deep.DeepWitnessRowRef
import Derived.WalkKit
import Derived.ProofKit
import Derived.OpenShut
import Derived.ShutString
import Derived.ChangeOld
import Derived.Below
import Derived.Test.YtilagaapfbfkkaaGreatDoorZV4
set_option maxHeartbeats 128000000
set_option linter.unusedSimpArgs false
set_option linter.unusedVariables false
namespace Go.Proofs.YtilagaapfbfkkaaGreatDoor.Ab
open Go Go.RowKit Go.Proofs.YtilagaapfbfkkaaGreatDoorW.PrintWords
set_option maxRecDepth 100000
variable {G : World → Prop}
def okp (c : Int) : Bool := decide (32 ≤ c) && decide (c ≤ 126)
def inn : List Int → List Int → Int → Option (List Int × Int)
  | [], _, _ => none
  | c :: l, a, i => if c = 34 then some (a, i + 1) else if c = 92 then (match l with
      | [] => none
      | d :: l' => if okp d then inn l' (a ++ [d]) (i + 2) else none) else if okp c then inn l (a ++ [c]) (i + 1) else none
theorem inn_end {c : Int} (h : c = 34) (l a : List Int) (i : Int) : inn (c :: l) a i = some (a, i + 1) := by
  rw [inn.eq_def]; simp [h]
theorem inn_esc0 {c : Int} (h : c = 92) (a : List Int) (i : Int) : inn [c] a i = none := by
  rw [inn.eq_def]; simp [h]
theorem inn_esc {c : Int} (h : c = 92) (d : Int) (l a : List Int) (i : Int) : inn (c :: d :: l) a i = if okp d then inn l (a ++ [d]) (i + 2) else none := by
  rw [inn.eq_def]; simp [h]
theorem inn_go {c : Int} (h : c ≠ 34) (h2 : c ≠ 92) (l a : List Int) (i : Int) : inn (c :: l) a i = if okp c then inn l (a ++ [c]) (i + 1) else none := by
  rw [inn.eq_def]; simp [h, h2]
def s98 : Sense := pureS fun xs K => ∃ s, xs = [.one (.str s)] ∧ s.size ≤ big ∧
  (inn ((bl s).drop 1) [] 1 = none → K (.ret (.tup [.one (.str ByteArray.empty), .one (.int .i64 0), .one (.bool false)]))) ∧
  (∀ r a n, inn ((bl s).drop 1) [] 1 = some (a, n) → bl r = a → K (.ret (.tup [.one (.str r), .one (.int .i64 n), .one (.bool true)])))
theorem ok98 : SenseOK G Tryz.prog 107 s98 := SenseOK.pure Γ0.ok (fun _ => [0, 5, 6]) Tryz.func107 fun xs K h => by
  obtain ⟨s, rfl, hb, hk0, hk1⟩ := h
  simp only [big] at hb
  refine zv ?_
  refine iter_of (I := fun k σ => ∃ (j : Nat) (zs : List Int) (mv : Bool), k = s.size + 1 - j ∧ 1 ≤ j ∧ zs.length ≤ j ∧ (∀ c ∈ zs, 0 ≤ c ∧ c ≤ 255) ∧ inn ((bl s).drop 1) [] 1 = inn ((bl s).drop j) zs j ∧ j ≤ s.size + 1 ∧
    ((zs = [] ∧ σ = ⟨slots 44 [(0, .one (.str s)), (5, .one .nil), (6, .one (.int .i64 j))], []⟩) ∨
     σ = ⟨slots 44 [(0, .one (.str s)), (5, .one (.own 0)), (6, .one (.int .i64 j))], [.own 5 (.int .u8) zs true mv]⟩)) ?_ s.size ⟨1, [], false, by omega, by omega, by simp, by simp, rfl, by omega, .inl ⟨rfl, rfl⟩⟩
  rintro k σ K' ⟨j, zs, mv, rfl, hj, hzl, hzr, hp, hj2, hσ⟩ hK'
  by_cases g1 : j < s.size
  · have hd := bl_drop g1
    have hr := bl_range (List.mem_of_getElem? (bl_get g1))
    have f1 : decide ((j : Int) < s.size) = true := by simpa using g1
    have w1 := IntWalk.i64_in (↑j + 1) (by omega)
    rw [hd] at hp
    rcases hσ with ⟨rfl, rfl⟩ | rfl
    · by_cases c1 : bt s j = 34
      · have e1 : (bt s j == 34) = true := by simpa using c1
        refine zs3 f1 e1 w1 ?_
        exact hk1 _ [] (↑j + 1) (by rw [hp, inn_end c1]) (bl_nums _ hzr)
      have e1 : (bt s j == 34) = false := by simpa using c1
      by_cases c2 : bt s j = 92
      · have e2 : (bt s j == 92) = true := by simpa using c2
        by_cases g2 : j + 1 < s.size
        · have f3 : decide ((j : Int) + 1 ≥ s.size) = false := by simp; omega
          have hd2 := bl_drop g2
          have hr2 := bl_range (List.mem_of_getElem? (bl_get g2))
          have hcast : ((j + 1 : Nat) : Int) = (j : Int) + 1 := rfl
          rw [hcast] at hd2 hr2
          have w2 := IntWalk.i64_in (↑j + 1 + 1) (by omega)
          rw [hd2, inn_esc c2] at hp
          cases c4 : okp (bt s (↑j + 1)) with
          | true =>
            have c4' := c4
            simp [okp] at c4'
            have f4 : (bif decide (bt s (↑j + 1) < 32) then true else decide (bt s (↑j + 1) > 126)) = false := by rw [Bool.eq_false_iff]; simp; omega
            refine zs7 f1 e1 e2 w1 f3 f4 w2 ?_
            rw [c4, if_pos rfl] at hp
            exact hK' _ _ (by omega) ⟨j + 2, [bt s ((j : Int) + 1)], false, rfl, by omega, by simp, by simp; omega, hp, by omega, .inr rfl⟩
          | false =>
            have c4' := c4
            simp [okp] at c4'
            have f4 : (bif decide (bt s (↑j + 1) < 32) then true else decide (bt s (↑j + 1) > 126)) = true := by simp; omega
            refine zs7 f1 e1 e2 w1 f3 f4 w2 ?_
            rw [c4] at hp
            exact hk0 hp
        · have f3 : decide ((j : Int) + 1 ≥ s.size) = true := by simp; omega
          rw [List.drop_of_length_le (l := bl s) (i := j + 1) (by rw [bl_length]; omega), inn_esc0 c2] at hp
          refine zs5 f1 e1 e2 w1 f3 ?_
          exact hk0 hp
      · have e2 : (bt s j == 92) = false := by simpa using c2
        rw [inn_go c1 c2] at hp
        cases c4 : okp (bt s j) with
        | true =>
          have c4' := c4
          simp [okp] at c4'
          have f4 : (bif decide (bt s j < 32) then true else decide (bt s j > 126)) = false := by rw [Bool.eq_false_iff]; simp; omega
          refine zs5 f1 e1 e2 w1 f4 ?_
          rw [c4, if_pos rfl] at hp
          exact hK' _ _ (by omega) ⟨j + 1, [bt s j], false, rfl, by omega, by simp, by simp; omega, hp, by omega, .inr rfl⟩
        | false =>
          have c4' := c4
          simp [okp] at c4'
          have f4 : (bif decide (bt s j < 32) then true else decide (bt s j > 126)) = true := by simp; omega
          refine zs5 f1 e1 e2 w1 f4 ?_
          rw [c4] at hp
          exact hk0 hp
    · by_cases c1 : bt s j = 34
      · have e1 : (bt s j == 34) = true := by simpa using c1
        refine zs3 f1 e1 w1 ?_
        exact hk1 _ zs (↑j + 1) (by rw [hp, inn_end c1]) (bl_nums _ hzr)
      have e1 : (bt s j == 34) = false := by simpa using c1
      by_cases c2 : bt s j = 92
      · have e2 : (bt s j == 92) = true := by simpa using c2
        by_cases g2 : j + 1 < s.size
        · have f3 : decide ((j : Int) + 1 ≥ s.size) = false := by simp; omega
          have hd2 := bl_drop g2
          have hr2 := bl_range (List.mem_of_getElem? (bl_get g2))
          have hcast : ((j + 1 : Nat) : Int) = (j : Int) + 1 := rfl
          rw [hcast] at hd2 hr2
          have w2 := IntWalk.i64_in (↑j + 1 + 1) (by omega)
          rw [hd2, inn_esc c2] at hp
          cases c4 : okp (bt s (↑j + 1)) with
          | true =>
            have c4' := c4
            simp [okp] at c4'
            have f4 : (bif decide (bt s (↑j + 1) < 32) then true else decide (bt s (↑j + 1) > 126)) = false := by rw [Bool.eq_false_iff]; simp; omega
            refine zs7 f1 e1 e2 w1 f3 f4 w2 ?_
            rw [c4, if_pos rfl] at hp
            exact hK' _ _ (by omega) ⟨j + 2, (zs ++ [bt s ((j : Int) + 1)]), true, rfl, by omega, by simp; omega, by simp; rintro c (h | rfl); (exact hzr c h); omega, hp, by omega, .inr rfl⟩
          | false =>
            have c4' := c4
            simp [okp] at c4'
            have f4 : (bif decide (bt s (↑j + 1) < 32) then true else decide (bt s (↑j + 1) > 126)) = true := by simp; omega
            refine zs7 f1 e1 e2 w1 f3 f4 w2 ?_
            rw [c4] at hp
            exact hk0 hp
        · have f3 : decide ((j : Int) + 1 ≥ s.size) = true := by simp; omega
          rw [List.drop_of_length_le (l := bl s) (i := j + 1) (by rw [bl_length]; omega), inn_esc0 c2] at hp
          refine zs5 f1 e1 e2 w1 f3 ?_
          exact hk0 hp
      · have e2 : (bt s j == 92) = false := by simpa using c2
        rw [inn_go c1 c2] at hp
        cases c4 : okp (bt s j) with
        | true =>
          have c4' := c4
          simp [okp] at c4'
          have f4 : (bif decide (bt s j < 32) then true else decide (bt s j > 126)) = false := by rw [Bool.eq_false_iff]; simp; omega
          refine zs5 f1 e1 e2 w1 f4 ?_
          rw [c4, if_pos rfl] at hp
          exact hK' _ _ (by omega) ⟨j + 1, (zs ++ [bt s j]), true, rfl, by omega, by simp; omega, by simp; rintro c (h | rfl); (exact hzr c h); omega, hp, by omega, .inr rfl⟩
        | false =>
          have c4' := c4
          simp [okp] at c4'
          have f4 : (bif decide (bt s j < 32) then true else decide (bt s j > 126)) = true := by simp; omega
          refine zs5 f1 e1 e2 w1 f4 ?_
          rw [c4] at hp
          exact hk0 hp
  · have f1 : decide ((j : Int) < s.size) = false := by simp; omega
    rw [List.drop_of_length_le (l := bl s) (i := j) (by rw [bl_length]; omega)] at hp
    rcases hσ with ⟨rfl, rfl⟩ | rfl <;> refine zs1 f1 ?_ <;> exact hk0 hp
end Go.Proofs.YtilagaapfbfkkaaGreatDoor.Ab
namespace Go.Proofs.YtilagaapfbfkkaaGreatDoor.Ab
theorem isAtom_ok (c : Int) (h : c ≠ 46) : isAtom c = okC c := by
  rw [Bool.eq_iff_iff]
  simp only [isAtom, okC, isSign, isLetter, isDigit, signs, Bool.or_eq_true, Bool.and_eq_true, decide_eq_true_eq]
  constructor <;> (intro h; rcases h with h | h <;> simp_all <;> omega)
theorem plain_eq_aux : ∀ (l cur : List Int), cur.all okC = true → plainL l cur.length = (spl 46 l cur).all wordOK
  | [], cur, h => by
    cases cur with
    | nil => rfl
    | cons x cur => simp [plainL, spl, wordOK, h]
  | c :: l, cur, h => by
    by_cases hc : c = 46
    · subst hc
      cases cur with
      | nil => simp [plainL, spl, wordOK]
      | cons x cur =>
        have e : ¬ (((x :: cur).length : Int) = 0) := by simp; omega
        simp only [plainL, spl, if_true, List.all_cons]
        rw [if_neg (by simp; omega)]
        have := plain_eq_aux l [] rfl
        simp only [List.length_nil] at this
        have hw : wordOK (x :: cur) = true := by simp only [wordOK, h]; rfl
        rw [hw, Bool.true_and]
        exact this
    · simp only [plainL, spl, if_neg hc]
      cases ha : isAtom c with
      | false =>
        rw [if_pos (.inr ⟨hc, rfl⟩)]
        have hb : okC c = false := by rw [← isAtom_ok c hc]; exact ha
        symm
        have key : ∀ (l cur : List Int), c ∈ cur → (spl 46 l cur).all wordOK = false := by
          intro l
          induction l with
          | nil => intro cur hm; simp [spl, wordOK]; intro _; exact ⟨c, hm, hb⟩
          | cons y l ih =>
            intro cur hm
            simp only [spl]
            split
            · simp [wordOK]; intro _ h'; have := h' c hm; rw [hb] at this; cases this
            · exact ih _ (by simp [hm])
        exact key l _ (by simp)
      | true =>
        rw [if_neg (by simp [hc])]
        have hb : okC c = true := by rw [← isAtom_ok c hc]; exact ha
        have := plain_eq_aux l (cur ++ [c]) (by simp [h, hb])
        simp at this
        exact this
theorem plain_eq (l : List Int) : plainL l 0 = plainR l := by
  have := plain_eq_aux l [] rfl
  simpa [plainR] using this
theorem inn_back : ∀ (m r : List Int) (a : List Int) (i : Int), m.all okp = true → inn (esc m ++ 34 :: r) a i = some (a ++ m, i + (esc m).length + 1)
  | [], r, a, i, _ => by
    show inn (34 :: r) a i = _
    rw [inn_end rfl]; simp [esc]
  | c :: m, r, a, i, h => by
    simp only [List.all_cons, Bool.and_eq_true] at h
    have e : esc (c :: m) = esc1 c ++ esc m := by simp [esc]
    rw [e]
    by_cases hc : c = 34 ∨ c = 92
    · have e1 : esc1 c = [92, c] := by simp [esc1, hc]
      rw [e1]
      show inn (92 :: c :: (esc m ++ 34 :: r)) a i = _
      rw [inn_esc rfl, if_pos h.1, inn_back m r _ _ h.2]
      simp; omega
    · have e1 : esc1 c = [c] := by simp [esc1, hc]
      rw [e1]
      show inn (c :: (esc m ++ 34 :: r)) a i = _
      rw [inn_go (fun e => hc (.inl e)) (fun e => hc (.inr e)), if_pos h.1, inn_back m r _ _ h.2]
      simp; omega
theorem inn_spec : ∀ (n : Nat) (l a : List Int) (i : Int) (m : List Int) (k : Int), l.length ≤ n → inn l a i = some (m, k) → ∃ p q : List Int, l = p ++ 34 :: q ∧ k = i + p.length + 1 ∧ ∃ m', m = a ++ m' ∧ m'.all okp = true ∧ (∀ r, inn (p ++ 34 :: r) a i = some (m, k)) ∧ m'.length ≤ p.length
  | _, [], a, i, m, k, _, h => by rw [inn.eq_def] at h; cases h
  | 0, _ :: _, _, _, _, _, h, _ => by simp at h
  | n + 1, c :: l, a, i, m, k, hl, h => by
    simp only [List.length_cons] at hl
    by_cases h1 : c = 34
    · rw [inn_end h1] at h
      cases h
      exact ⟨[], l, by simp [h1], by simp, [], by simp, rfl, fun r => by rw [List.nil_append, inn_end rfl], Nat.le_refl _⟩
    by_cases h2 : c = 92
    · cases l with
      | nil => rw [inn_esc0 h2] at h; cases h
      | cons d l =>
        rw [inn_esc h2] at h
        simp only [List.length_cons] at hl
        split at h
        · rename_i hd
          obtain ⟨p, q, rfl, rfl, m', rfl, hm', hr, hle⟩ := inn_spec n l _ _ _ _ (by omega) h
          refine ⟨c :: d :: p, q, rfl, by simp; omega, d :: m', by simp, by simp [hd, hm'], fun r => ?_, by simp; omega⟩
          show inn (c :: d :: (p ++ 34 :: r)) a i = _
          rw [inn_esc h2, if_pos hd]
          exact hr r
        · cases h
    · rw [inn_go h1 h2] at h
      split at h
      · rename_i hc
        obtain ⟨p, q, rfl, rfl, m', rfl, hm', hr, hle⟩ := inn_spec n l _ _ _ _ (by omega) h
        refine ⟨c :: p, q, rfl, by simp; omega, c :: m', by simp, by simp [hc, hm'], fun r => ?_, by simp; omega⟩
        show inn (c :: (p ++ 34 :: r)) a i = _
        rw [inn_go h1 h2, if_pos hc]
        exact hr r
      · cases h
def localR (l : List Int) : Bool := !l.isEmpty && decide (l.length ≤ 64) && (if l.head? = some 34 then
    (match inn (l.drop 1) [] 1 with
      | some (a, n) => decide (n = l.length) && !plainR a && decide (34 :: esc a ++ [34] = l)
      | none => false)
  else plainR l)
def labL (l : List Int) : Bool := !l.isEmpty && decide (l.length ≤ 63) && l.all (fun c => isSign c || c == 45) && l.head? != some 45 && l.getLast? != some 45
def byteL (w : List Int) : Bool := match val w with
  | some n => decide (n ≤ 255)
  | none => false
def quadL (l : List Int) : Bool := (spl 46 l []).all byteL && decide ((spl 46 l []).length = 4)
def litL (l : List Int) : Bool := decide (2 ≤ l.length) && l.head? == some 91 && l.getLast? == some 93 && quadL (l.drop 1).dropLast
def domL (l : List Int) : Bool := decide (l.length ≤ 255) && (litL l || (spl 46 l []).all labL)
theorem digs_all : ∀ (l : List Int) (n m : Int), digs n l = some m → l.all isDigit = true
  | [], _, _, _ => rfl
  | c :: l, n, m, h => by
    simp only [digs] at h
    split at h
    · rename_i hc; simp [hc, digs_all l _ _ h]
    · cases h
theorem spl_mem (c : Int) : ∀ (l cur : List Int) (x : Int), x ∈ l → x = c ∨ ∃ w ∈ spl c l cur, x ∈ w
  | [], _, x, h => by simp at h
  | y :: l, cur, x, h => by
    have grow : ∀ (l cur : List Int), ∀ z ∈ cur, ∃ w ∈ spl c l cur, z ∈ w := by
      intro l
      induction l with
      | nil => intro cur z hz; exact ⟨cur, by simp [spl], hz⟩
      | cons y l ih =>
        intro cur z hz
        simp only [spl]
        split
        · exact ⟨cur, by simp, hz⟩
        · exact ih _ z (by simp [hz])
    simp only [spl]
    split
    · rename_i hy
      rcases List.mem_cons.1 h with rfl | h
      · exact .inl hy
      · rcases spl_mem c l [] x h with h | ⟨w, hw, hx⟩
        · exact .inl h
        · exact .inr ⟨w, by simp [hw], hx⟩
    · rcases List.mem_cons.1 h with rfl | h
      · exact .inr (grow l _ x (by simp))
      · exact spl_mem c l _ x h
theorem domL_small {l : List Int} (h : domL l = true) : l.map small1 = l := by
  have key : ∀ x ∈ l, ¬ (65 ≤ x ∧ x ≤ 90) := by
    intro x hx
    simp only [domL, Bool.and_eq_true, Bool.or_eq_true] at h
    rcases h.2 with h | h
    · simp only [litL, Bool.and_eq_true, decide_eq_true_eq, beq_iff_eq] at h
      obtain ⟨⟨⟨h1, h2⟩, h3⟩, h4⟩ := h
      obtain ⟨y, l', rfl⟩ : ∃ y l', l = y :: l' := by cases l with | nil => simp at h1 | cons y l' => exact ⟨y, l', rfl⟩
      simp at h2
      simp only [List.drop_succ_cons, List.drop_zero] at h4
      have hne : l' ≠ [] := by intro e; subst e; simp at h1
      have hl : l' = l'.dropLast ++ [93] := by
        have := List.dropLast_concat_getLast hne
        rw [List.getLast?_cons, List.getLast?_eq_some_getLast hne] at h3
        simp at h3
        rw [h3] at this
        exact this.symm
      rcases List.mem_cons.1 hx with rfl | hx
      · omega
      rw [hl] at hx
      rcases List.mem_append.1 hx with hx | hx
      · rcases spl_mem 46 _ [] x hx with h | ⟨w, hw, hxw⟩
        · omega
        · simp only [quadL, Bool.and_eq_true] at h4
          have := List.all_eq_true.1 h4.1 w hw
          simp only [byteL, val] at this
          split at this
          · rename_i n hn
            split at hn
            · have := List.all_eq_true.1 (digs_all _ _ _ hn) x hxw
              simp [isDigit] at this; omega
            · cases hn
          · cases this
      · simp at hx; omega
    · rcases spl_mem 46 _ [] x hx with h' | ⟨w, hw, hxw⟩
      · omega
      · have := List.all_eq_true.1 h w hw
        simp only [labL, Bool.and_eq_true] at this
        have := List.all_eq_true.1 this.1.1.2 x hxw
        simp [isSign] at this
        omega
  have : ∀ (l : List Int), (∀ x ∈ l, ¬ (65 ≤ x ∧ x ≤ 90)) → l.map small1 = l := by
    intro l h
    induction l with
    | nil => rfl
    | cons x l ih => rw [List.map_cons, ih fun y hy => h y (by simp [hy]), small1, if_neg (h x (by simp))]
  exact this l key
def quoteP (a : List Int) : List Int := if plainL a 0 then a else 34 :: esc a ++ [34]
def localP (l : List Int) : Option (List Int × List Int) :=
  if l.head? = some 34 then (match inn (l.drop 1) [] 1 with
    | some (a, n) => some (quoteP a, l.drop n.toNat)
    | none => none)
  else if 0 ≤ idx l 64 ∧ plainL (l.take (idx l 64).toNat) 0 = true then some (l.take (idx l 64).toNat, l.drop (idx l 64).toNat) else none
def parseP (l : List Int) : Option (List Int × List Int) := match localP l with
  | none => none
  | some (p, r) => if p.length ≤ 64 ∧ r.head? = some 64 ∧ domL ((r.drop 1).map small1) = true then some (p, (r.drop 1).map small1) else none
def mayR (a d : List Int) : Bool := localR a && domL d
theorem plainL_mem : ∀ (l : List Int) (w : Int), plainL l w = true → ∀ x ∈ l, x = 46 ∨ isAtom x = true
  | [], _, _, x, hx => by simp at hx
  | c :: l, w, h, x, hx => by
    simp only [plainL] at h
    split at h
    · cases h
    · rename_i hc
      rcases List.mem_cons.1 hx with rfl | hx
      · by_cases h46 : x = 46
        · exact .inl h46
        · right
          cases ha : isAtom x with
          | true => rfl
          | false => exact absurd (.inr ⟨h46, ha⟩) hc
      · exact plainL_mem l _ h x hx
theorem idx_at : ∀ (a r : List Int) (c : Int), (∀ x ∈ a, x ≠ c) → idx (a ++ c :: r) c = a.length
  | [], r, c, _ => by simp [idx]
  | x :: a, r, c, h => by
    have := idx_at a r c fun y hy => h y (by simp [hy])
    simp only [List.cons_append, idx, if_neg (h x (by simp)), this, List.length_cons]
    rw [if_neg (by omega)]; omega
theorem may_eq (a d : List Int) : (parseP (a ++ 64 :: d) = some (a, d)) ↔ mayR a d = true := by
  constructor
  · intro h
    unfold parseP at h
    split at h
    · cases h
    rename_i p r hloc
    split at h
    · rename_i hc
      obtain ⟨h1, h2, h3⟩ := hc
      simp only [Option.some.injEq, Prod.mk.injEq] at h
      obtain ⟨rfl, hd⟩ := h
      rw [hd] at h3
      simp only [mayR, h3, Bool.and_true]
      unfold localP at hloc
      split at hloc
      · rename_i hq
        split at hloc
        · rename_i m n hin
          simp only [Option.some.injEq, Prod.mk.injEq] at hloc
          obtain ⟨hp, hr⟩ := hloc
          obtain ⟨u, q, he, hk, m', hm, hok, hback, _⟩ := inn_spec _ _ _ _ _ _ (Nat.le_refl _) hin
          rw [List.nil_append] at hm
          subst hm
          cases hpl : plainL m 0 with
          | true =>
            exfalso
            rw [quoteP, if_pos hpl] at hp
            subst hp
            cases m with
            | nil => simp at hq
            | cons x m =>
              simp at hq
              subst hq
              rcases plainL_mem _ _ hpl 34 (by simp) with h | h
              · omega
              · revert h; decide
          | false =>
            rw [quoteP, if_neg (by rw [hpl]; decide)] at hp
            subst hp
            have hb := inn_back m [] [] 1 hok
            have e1 : (34 :: esc m ++ [34]).isEmpty = false := rfl
            have e2 : (34 :: esc m ++ [34]).head? = some 34 := rfl
            have e3 : (34 :: esc m ++ [34]).drop 1 = esc m ++ [34] := rfl
            simp only [localR, e1, e2, e3, hb, if_true, List.nil_append]
            rw [← plain_eq, hpl]
            simp only [List.length_append, List.length_cons, List.length_nil] at h1 ⊢
            simp only [Bool.not_false, Bool.true_and, Bool.and_true, Bool.and_eq_true, decide_eq_true_eq]
            exact ⟨h1, by omega, trivial⟩
        · cases hloc
      · rename_i hq
        split at hloc
        · rename_i hi
          simp only [Option.some.injEq, Prod.mk.injEq] at hloc
          obtain ⟨hp, hr⟩ := hloc
          obtain ⟨hi0, hpl⟩ := hi
          rw [hp, plain_eq] at hpl
          cases p with
          | nil => revert hpl; decide
          | cons x p =>
            have : (x :: p).head? ≠ some 34 := fun h => hq (by simpa using h)
            rw [localR, if_neg this, hpl]
            simp at h1 ⊢
            exact h1
        · cases hloc
    · cases h
  · intro h
    simp only [mayR, Bool.and_eq_true] at h
    obtain ⟨hl, hd⟩ := h
    have hs := domL_small hd
    have fin : localP (a ++ 64 :: d) = some (a, 64 :: d) → a.length ≤ 64 → parseP (a ++ 64 :: d) = some (a, d) := by
      intro h1 h2
      unfold parseP
      rw [h1]
      show (if _ then _ else _) = _
      rw [List.drop_succ_cons, List.drop_zero, hs, if_pos ⟨h2, rfl, hd⟩]
    simp only [localR, Bool.and_eq_true, decide_eq_true_eq] at hl
    obtain ⟨⟨hne, h64⟩, hl⟩ := hl
    refine fin ?_ h64
    have hh : (a ++ 64 :: d).head? = a.head? := by
      cases a with
      | nil => simp at hne
      | cons x a => rfl
    split at hl
    · rename_i hq
      split at hl
      · rename_i m n hin
        simp only [Bool.and_eq_true, decide_eq_true_eq] at hl
        obtain ⟨⟨hn, hpl⟩, rfl⟩ := hl
        obtain ⟨u, q, he, hk, m', hm, hok, hback, _⟩ := inn_spec _ _ _ _ _ _ (Nat.le_refl _) hin
        rw [List.nil_append] at hm
        subst hm
        rw [← plain_eq] at hpl
        have e : 34 :: esc m ++ [34] ++ 64 :: d = 34 :: (esc m ++ 34 :: 64 :: d) := by simp
        rw [localP, hh, if_pos hq, e, List.drop_succ_cons, List.drop_zero, inn_back m _ _ _ hok]
        show some (quoteP ([] ++ m), _) = _
        rw [List.nil_append, quoteP, if_neg (by simpa using hpl)]
        have e2 : (1 + ((esc m).length : Int) + 1).toNat = (34 :: esc m ++ [34]).length := by simp; omega
        rw [e2, ← e, List.drop_left]
      · cases hl
    · rename_i hq
      rw [localP, hh, if_neg hq]
      rw [← plain_eq] at hl
      have hno : ∀ x ∈ a, x ≠ 64 := by
        intro x hx e
        subst e
        rcases plainL_mem _ _ hl 64 hx with h | h
        · omega
        · revert h; decide
      rw [idx_at a d 64 hno, Int.toNat_natCast, List.take_left, List.drop_left, if_pos ⟨by omega, hl⟩]
def domP (l : List Int) : Bool := if l.head? = some 91 then decide (l.getLast? = some 93) && quadL (l.drop 1).dropLast else (spl 46 l []).all labL && decide (l.length ≤ 255)
theorem spl_sum (c : Int) : ∀ (l cur : List Int), ((spl c l cur).map fun w => w.length + 1).sum = l.length + cur.length + 1
  | [], cur => by simp [spl]
  | x :: l, cur => by
    simp only [spl]
    split
    · rw [List.map_cons, List.sum_cons, spl_sum c l []]; simp; omega
    · rw [spl_sum c l _]; simp; omega
theorem byteL_len {w : List Int} (h : byteL w = true) : w.length ≤ 16 := by
  simp only [byteL, val] at h
  split at h
  · rename_i n hn
    split at hn
    · rename_i hv
      simp [valP] at hv
      omega
    · cases hn
  · cases h
theorem quadL_len {l : List Int} (h : quadL l = true) : l.length ≤ 100 := by
  simp only [quadL, Bool.and_eq_true, decide_eq_true_eq] at h
  have hs := spl_sum 46 l []
  generalize spl 46 l [] = ws at h hs
  match ws, h.2 with
  | [a, b, c, d], _ =>
    have hb : ∀ w ∈ [a, b, c, d], w.length ≤ 16 := fun w hw => byteL_len (List.all_eq_true.1 h.1 w hw)
    have := hb a (by simp); have := hb b (by simp); have := hb c (by simp); have := hb d (by simp)
    simp at hs
    omega
theorem domP_eq (l : List Int) : domP l = domL l := by
  cases l with
  | nil => decide
  | cons x l =>
    by_cases hx : x = 91
    · subst hx
      have hlab : (spl 46 (91 :: l) []).all labL = false := by
        have : ∀ (l cur : List Int), 91 ∈ cur → (spl 46 l cur).all labL = false := by
          intro l
          induction l with
          | nil =>
            intro cur h
            simp only [spl, List.all_cons, List.all_nil, Bool.and_true]
            rw [Bool.eq_false_iff]
            intro h'
            simp only [labL, Bool.and_eq_true] at h'
            have := List.all_eq_true.1 h'.1.1.2 91 h
            revert this; decide
          | cons y l ih =>
            intro cur h
            simp only [spl]
            split
            · simp only [List.all_cons, Bool.and_eq_false_iff]
              left
              rw [Bool.eq_false_iff]
              intro h'
              simp only [labL, Bool.and_eq_true] at h'
              have := List.all_eq_true.1 h'.1.1.2 91 h
              revert this; decide
            · exact ih _ (by simp [h])
        simp only [spl]
        rw [if_neg (by decide)]
        exact this l _ (by simp)
      rw [domP, domL, hlab, Bool.or_false, if_pos (show (91 :: l).head? = some 91 from rfl), Bool.eq_iff_iff]
      simp only [litL, Bool.and_eq_true, decide_eq_true_eq, beq_iff_eq]
      constructor
      · rintro ⟨h1, h2⟩
        have hl : 2 ≤ (91 :: l).length := by
          cases l with
          | nil => simp at h1
          | cons y l => simp
        have := quadL_len h2
        simp at this
        exact ⟨by simp at hl ⊢; omega, ⟨⟨hl, rfl⟩, h1⟩, h2⟩
      · rintro ⟨h1, ⟨⟨h2, h3⟩, h4⟩, h5⟩
        exact ⟨h4, h5⟩
    · have : (x :: l).head? ≠ some 91 := by simpa using hx
      have hlit : litL (x :: l) = false := by
        rw [Bool.eq_false_iff]
        intro h
        simp only [litL, Bool.and_eq_true, beq_iff_eq] at h
        exact this h.1.1.2
      rw [domP, domL, if_neg this, hlit, Bool.false_or, Bool.and_comm]
structure Rc where
  (bl_ bd : List Int) (st at_ nx co : Int)
  deriving DecidableEq
structure Ml where
  (id te : Int) (nul : Bool) (fl fd : List Int) (rc : List Rc) (body : List Int) (born : Int) (held told : Bool)
  deriving DecidableEq
def big48 : Int := 281474976710656
def Rc.wf (r : Rc) : Prop := (r.bl_.length : Int) < big48 ∧ (r.bd.length : Int) < big48 ∧ (0 ≤ r.st ∧ r.st < big48) ∧ (0 ≤ r.at_ ∧ r.at_ < big48) ∧ (0 ≤ r.nx ∧ r.nx < big48) ∧ (0 ≤ r.co ∧ r.co < big48)
structure Ml.wf (m : Ml) : Prop where
  id : 0 ≤ m.id ∧ m.id < big48
  te : 0 ≤ m.te ∧ m.te < big48
  born : 0 ≤ m.born ∧ m.born < big48
  rc : m.rc.length ≤ 8
  rcs : ∀ x ∈ m.rc, x.wf
  fl : (m.fl.length : Int) < big48
  fd : (m.fd.length : Int) < big48
  body : (m.body.length : Int) < big48
end Go.Proofs.YtilagaapfbfkkaaGreatDoor.Ab
namespace Go.Proofs.YtilagaapfbfkkaaGreatDoor.Ab
open Go Go.RowKit Go.Proofs.YtilagaapfbfkkaaGreatDoorW.PrintWords
set_option maxRecDepth 100000
variable {G : World → Prop}
def Γ69 : Sems := ext 110 s94 (ext 147 s96 Γ0)
theorem Γ69.ok : SemsOK G Tryz.prog Γ69 := (Γ0.ok.ext Tryz.func147 rfl (by decide) ok96).ext Tryz.func110 rfl (by decide) ok94
theorem bl_head {s : ByteArray} (h : 0 < s.size) : (bl s).head? = some (bt s 0) := by
  rw [List.head?_eq_getElem?]; exact bl_get (s := s) (j := 0) h
theorem bl_last {s : ByteArray} (h : 0 < s.size) : (bl s).getLast? = some (bt s ((s.size : Int) - 1)) := by
  rw [List.getLast?_eq_getElem?, bl_length]
  have := bl_get (s := s) (j := s.size - 1) (by omega)
  rw [this]
  congr 2
  omega
theorem bl_mid (s : ByteArray) : bl (s.extract 1 (s.size - 1)) = ((bl s).drop 1).dropLast := by
  rw [bl_extract, List.dropLast_eq_take, List.length_drop, bl_length, List.drop_take]
def s69 : Sense := pureS fun xs K => ∃ s, xs = [.one (.str s)] ∧ s.size ≤ big ∧ K (.ret (.one (.bool (litL (bl s)))))
theorem ok69 : SenseOK G Tryz.prog 109 s69 := SenseOK.pure Γ69.ok (fun _ => [3, 4]) Tryz.func109 fun xs K h => by
  obtain ⟨s, rfl, hb, hk⟩ := h
  simp only [big] at hb
  by_cases h0 : s.size < 2
  · have f0 : decide ((s.size : Int) < 2) = true := by simp; omega
    refine zs1 f0 ?_
    exact retB hk (by simp [litL, bl_length]; omega)
  have f0 : decide ((s.size : Int) < 2) = false := by simp; omega
  have w0 := IntWalk.i64_in (↑s.size - 1) (by omega)
  have hh := bl_head (s := s) (by omega)
  have hl := bl_last (s := s) (by omega)
  by_cases h1 : bt s 0 = 91
  case neg =>
    have f1 : (bt s 0 != 91) = true := by simpa using h1
    refine zs2 f0 f1 ?_
    exact retB hk (by simp [litL, hh, h1])
  have f1 : (bt s 0 != 91) = false := by simpa using h1
  by_cases h2 : bt s ((s.size : Int) - 1) = 93
  case neg =>
    have f2 : (bt s ((s.size : Int) - 1) != 93) = true := by simpa using h2
    refine zs4 f0 f1 w0 f2 ?_
    exact retB hk (by simp [litL, hl, h2])
  have f2 : (bt s ((s.size : Int) - 1) != 93) = false := by simpa using h2
  refine zs4 f0 f1 w0 f2 ?_
  have hmid : bl (s.extract 1 (s.size - 1)) = ((bl s).drop 1).dropLast := bl_mid s
  have e1 : ((s.size : Int) - 1).toNat = s.size - 1 := by omega
  refine ⟨?_, fun zs mv hzs => ?_⟩
  · show (s.extract 1 (((s.size : Int) - 1).toNat)).size ≤ big
    rw [← bl_length, e1, hmid]; simp [bl_length, big]; omega
  change zs.map bl = spl 46 (bl (s.extract 1 (((s.size : Int) - 1).toNat))) [] at hzs
  rw [e1, hmid] at hzs
  refine zv ?_
  have hz1 : zs.length ≤ s.size + 1 := by
    have := (spl_size 46 ((bl s).drop 1).dropLast []).1
    rw [← hzs, List.length_map] at this
    simp [bl_length] at this; omega
  have hlit : litL (bl s) = ((zs.map bl).all byteL && decide (zs.length = 4)) := by
    unfold litL quadL
    rw [← hzs, hh, h1, hl, h2, bl_length, List.length_map]
    have : decide (2 ≤ s.size) = true := by simp; omega
    rw [this]; rfl
  refine iter_of (I := fun k σ => ∃ (j : Nat), k = zs.length - j ∧ j ≤ zs.length ∧ ((zs.take j).map bl).all byteL = true ∧ σ = ⟨slots 52 [(3, .one (.own 0)), (4, .one (.int .i64 j))], [.own 9 .str zs true mv]⟩) ?_ zs.length ⟨0, by omega, by omega, by simp, rfl⟩
  rintro k σ K' ⟨j, rfl, hj, hall, rfl⟩ hK'
  refine zv ?_
  refine Br.mk (fun g1 => ?_) (fun g1 => ?_)
  · have h3 : j < zs.length := by simpa using g1
    obtain ⟨w, hw⟩ : ∃ w, zs[j]? = some w := ⟨_, List.getElem?_eq_getElem h3⟩
    have hr : rdx zs (↑j : Int).toNat Ty.str.dflt = w := by
      show zs.getD j _ = w
      simp [List.getD, hw]
    have w1 := IntWalk.i64_in (↑j + 1) (by omega)
    have bad : byteL (bl w) = false → litL (bl s) = false := fun h => by
      rw [hlit, Bool.and_eq_false_iff]
      left
      rw [Bool.eq_false_iff]
      intro h'
      have := List.all_eq_true.1 h' (bl w) (List.mem_map_of_mem (List.mem_of_getElem? hw))
      rw [h] at this; cases this
    have good : byteL (bl w) = true → ((zs.take (j + 1)).map bl).all byteL = true := fun h => by
      rw [List.take_add_one, hw, List.map_append, List.all_append, hall]
      simp [h]
    cases hv : val (bl w) with
    | none =>
      refine zs2 hr hv ?_
      exact retB hk (bad (by simp [byteL, hv])).symm
    | some n =>
      by_cases h5 : n ≤ 255
      · have f5 : decide (n > 255) = false := by simp; omega
        refine zs4 hr hv f5 w1 ?_
        exact hK' _ _ (by omega) ⟨j + 1, rfl, by omega, good (by simp [byteL, hv, h5]), rfl⟩
      · have f5 : decide (n > 255) = true := by simp; omega
        refine zs3 hr hv f5 ?_
        exact retB hk (bad (by simp [byteL, hv, h5])).symm
  · have h3 : j = zs.length := by simp at g1; omega
    subst h3
    rw [List.take_length] at hall
    refine zv ?_
    exact retB hk (by rw [hlit, hall, Bool.true_and, Bool.eq_iff_iff]; simp; omega)
structure Gr (w : World) : Prop where
  mlen : ∃ m, w.cell? ⟨0, 0, none⟩ = some (.int .i64 m)
  esyn : ∃ er, w.cell? ⟨1, 0, none⟩ = some er ∧ (er = .nilIface ∨ ∃ te pe, er = .iface te pe)
  erng : ∃ er, w.cell? ⟨2, 0, none⟩ = some er ∧ (er = .nilIface ∨ ∃ te pe, er = .iface te pe)
  ptab : Lib.TabIs Tryz.prog w "internal/strconv.uint64pow10" .u64 Lib.pow10Tab
theorem SenseOK.lib2 {G : World → Prop} {f : FuncId} {s : List V → (Out → Prop) → Prop}
    (h : ∀ xs (K : Out → Prop), s xs K → ∃ vs0 : List Value, (∀ w I lk vs, All2 (VRep w I lk) xs vs → vs = vs0) ∧ ∃ out, K out ∧ ∀ w, G w → Calls Tryz.prog f vs0.toArray w fun e w' => (∀ I lk, OutRep w' I lk out e) ∧ Below w.heap.size w w') : SenseOK G Tryz.prog f (pureS s) := by
  intro X w lk os ags vs K hO hl0 hX hXG hgr has hs
  obtain ⟨rfl, hs⟩ := hs
  obtain ⟨vs0, hv, out, hk, hc⟩ := h _ _ hs
  obtain rfl := hv _ _ _ _ has
  have hl : lk = [] := List.length_eq_zero_iff.1 (by rw [hO.lsz]; rfl)
  subst hl
  refine (hc w (hXG ▸ hgr w (fun _ _ => rfl))).mono ?_
  rintro e w' ⟨ho, hb⟩
  refine ⟨[], [], out, hk, ⟨rfl, fun i o v h => by simp at h, fun i j v v' b _ h => by simp at h, fun i v b h => by simp at h, fun i v b h => by simp at h, by rw [hl0]; exact Nat.le_refl _, fun p v0 o h => by rw [hl0] at h; simp at h⟩, ?_, (fun v hv => by simp at hv), ho _ _⟩
  exact ⟨hb.os, hb.tape, hb.output, hb.size, fun k hk _ => hb.block k hk⟩
theorem SenseOK.libNew {G : World → Prop} {f : FuncId} {s : List V → (List Ob → Out → Prop) → Prop}
    (h : ∀ xs (K : List Ob → Out → Prop), s xs K → ∃ vs0 : List Value, (∀ w I lk vs, All2 (VRep w I lk) xs vs → vs = vs0) ∧ ∃ (e : TypeId) (t : Ty) (zs : List t.den), K [.own e t zs true false] (.ret (.one (.own 0))) ∧
      ∀ w, G w → ∃ cells, (∀ w I, Reps (TRep w I t) t.sz zs cells) ∧ zs.length ≤ maxLen ∧ Calls Tryz.prog f vs0.toArray w fun en w' => en = .returned (.slice (some ⟨w.heap.size, 0, none⟩) zs.length zs.length) ∧ w' = w.alloc (.cells cells.toArray e)) : SenseOK G Tryz.prog f (newS s) := by
  intro X w lk os ags vs K hO hl0 hX hXG hgr has hs
  obtain ⟨rfl, hs⟩ := hs
  obtain ⟨vs0, hv, e, t, zs, hk, hc⟩ := h _ _ hs
  obtain rfl := hv _ _ _ _ has
  have hl : lk = [] := List.length_eq_zero_iff.1 (by rw [hO.lsz]; rfl)
  subst hl
  obtain ⟨cells, hreps, hmx, hc⟩ := hc w (hXG ▸ hgr w (fun _ _ => rfl))
  refine hc.mono ?_
  rintro en w' ⟨rfl, rfl⟩
  have hsz : cells.length = zs.length * t.sz := (hreps w (fun _ => True)).1
  refine ⟨_, [.slice (some ⟨w.heap.size, 0, none⟩) zs.length zs.length], _, hk, ⟨rfl, ?_, ?_, ?_, ?_, by rw [hl0]; simp, fun p v0 o h => by rw [hl0] at h; simp at h⟩, ?_, ?_, ⟨_, rfl, ⟨rfl, _, _, _, rfl⟩⟩⟩
  · intro i o v hi hv
    cases i with
    | zero =>
      simp at hi hv
      subst hi hv
      refine ⟨cells, hreps _ _, .inr ⟨w.heap.size, zs.length, cells.toArray, (0, 0), rfl, alloc_new w _, Nat.le_refl _, hmx, by simp [hsz], ?_, fun _ => rfl, by simp⟩⟩
      rw [← hsz]; exact List.take_length
    | succ i => simp at hi
  · intro i j v v' b hij hi hj
    cases i with
    | zero => cases j with
      | zero => exact absurd rfl hij
      | succ j => simp at hj
    | succ i => simp at hi
  · intro i v b hi hb
    cases i with
    | zero =>
      simp at hi
      subst hi
      simp [blk] at hb
      subst hb
      simp
    | succ i => simp at hi
  · intro i v b hi hb hx
    cases i with
    | zero =>
      simp at hi
      subst hi
      simp [blk] at hb
      subst hb
      have := hX _ hx
      omega
    | succ i => simp at hi
  · have hb := (Below.refl w.heap.size w).alloc (Nat.le_refl _) (.cells cells.toArray e)
    exact ⟨hb.os, hb.tape, hb.output, hb.size, fun k hk _ => hb.block k hk⟩
  · intro v hv b hb
    simp at hv
    subst hv
    simp [blk] at hb
    subst hb
    exact .inr (Nat.le_refl _)
def nums (l : List UInt8) : List Int := l.map fun b => (b.toNat : Int)
def s86 : Sense := pureS fun xs K => ∃ s, xs = [.one (.str s)] ∧ s.size ≤ big ∧
  (∀ v, Lib.atoiAll s.data.toList = .ok v → K (.ret (.tup [.one (.int .i64 v), .one .nilif]))) ∧
  ((∀ v, Lib.atoiAll s.data.toList ≠ .ok v) → ∀ n, K (.ret (.tup [.one (.int .i64 n), .one .ifp])))
theorem ok86 : SenseOK Gr Tryz.prog 97 s86 := SenseOK.lib2 fun xs K h => by
  obtain ⟨s, rfl, hb, h1, h2⟩ := h
  simp only [big] at hb
  refine ⟨[.string s], fun w I lk vs hv => ?_, ?_⟩
  · obtain ⟨v1, m1, rfl, h1, h2⟩ := hv.cons_inv
    obtain rfl := h2.nil_inv
    rw [show v1 = .string s from h1]
  rcases hr : Lib.atoiAll s.data.toList with v | _ | _
  · refine ⟨_, h1 v hr, fun w hw => (Tryz.strconv_Atoi_ok s (by omega) v hr w).mono ?_⟩
    rintro e w' ⟨rfl, hw'⟩
    refine ⟨fun I lk => ⟨_, rfl, [_, _], rfl, rfl, rfl, trivial⟩, ?_⟩
    rcases hw' with rfl | ⟨t, rfl⟩
    · exact Below.refl _ _
    · exact Lib.bytesWorld_below _ _ _
  · refine ⟨_, h2 (fun v h => by rw [hr] at h; cases h) 0, fun w hw => ?_⟩
    obtain ⟨er, he1, he2⟩ := hw.esyn
    refine (Tryz.strconv_Atoi_syntax s (by omega) hr er w he1 he2).mono ?_
    rintro e w' ⟨N, rfl, _, _, hB⟩
    exact ⟨fun I lk => ⟨_, rfl, [_, _], rfl, rfl, ⟨_, _, rfl⟩, trivial⟩, hB⟩
  · refine ⟨_, h2 (fun v h => by rw [hr] at h; cases h) (Lib.atoiSat s.data.toList), fun w hw => ?_⟩
    obtain ⟨er, he1, he2⟩ := hw.erng
    refine (Tryz.strconv_Atoi_range s (by omega) hr er w he1 he2).mono ?_
    rintro e w' ⟨N, rfl, _, _, hB⟩
    exact ⟨fun I lk => ⟨_, rfl, [_, _], rfl, rfl, ⟨_, _, rfl⟩, trivial⟩, hB⟩
def s87 : Sense := pureS fun xs K => ∃ n, xs = [.one (.int .i64 n)] ∧ (-9223372036854775808 ≤ n ∧ n ≤ 9223372036854775807) ∧ ∀ r, bl r = nums (Lib.itoa n) → K (.ret (.one (.str r)))
theorem ok87 : SenseOK Gr Tryz.prog 98 s87 := SenseOK.lib2 fun xs K h => by
  obtain ⟨n, rfl, hb, h1⟩ := h
  refine ⟨[.int .i64 n], fun w I lk vs hv => ?_, _, h1 ⟨(Lib.itoa n).toArray⟩ rfl, fun w hw => (Tryz.strconv_Itoa n hb.1 hb.2 w hw.ptab).mono ?_⟩
  · obtain ⟨v1, m1, rfl, h1, h2⟩ := hv.cons_inv
    obtain rfl := h2.nil_inv
    rw [show v1 = .int .i64 n from h1]
  · rintro e w' ⟨rfl, k, os, rfl⟩
    exact ⟨fun I lk => ⟨_, rfl, rfl⟩, Lib.below_grow _ _ (Nat.le_refl _) _ _⟩
def splU (c : UInt8) : List UInt8 → List UInt8 → List (List UInt8)
  | [], cur => [cur]
  | x :: l, cur => if x = c then cur :: splU c l [] else splU c l (cur ++ [x])
theorem splU_nums (c : UInt8) : ∀ (l cur : List UInt8), (splU c l cur).map nums = spl (c.toNat : Int) (nums l) (nums cur)
  | [], cur => rfl
  | x :: l, cur => by
    have e : nums (x :: l) = (x.toNat : Int) :: nums l := rfl
    rw [e]
    simp only [splU, spl]
    by_cases h : x = c
    · subst h
      rw [if_pos rfl, if_pos rfl, List.map_cons, splU_nums]; rfl
    · have h' : ¬ ((x.toNat : Int) = (c.toNat : Int)) := fun e => h (UInt8.toNat_inj.1 (by omega))
      rw [if_neg h, if_neg h', splU_nums]
      simp [nums]
theorem splU_miss (c : UInt8) : ∀ (l cur : List UInt8), Lib.indexByte l c = -1 → splU c l cur = [cur ++ l]
  | [], cur, _ => by simp [splU]
  | x :: l, cur, h => by
    unfold Lib.indexByte at h
    by_cases hx : x = c
    · subst hx; simp at h
    · have hb : (x == c) = false := by simpa using hx
      rw [hb] at h
      have hl : Lib.indexByte l c = -1 := by
        by_cases e : Lib.indexByte l c = -1
        · exact e
        · have := Lib.indexByte_ge l c
          simp [e] at h
          omega
      simp only [splU, if_neg hx, splU_miss c l _ hl]
      simp
theorem splU_hit (c : UInt8) : ∀ (l cur : List UInt8) (i : Nat), Lib.indexByte l c = i → splU c l cur = (cur ++ l.take i) :: splU c (l.drop (i + 1)) []
  | [], cur, i, h => by simp [Lib.indexByte] at h
  | x :: l, cur, i, h => by
    unfold Lib.indexByte at h
    by_cases hx : x = c
    · subst hx
      simp at h
      obtain rfl : i = 0 := by omega
      simp [splU]
    · have hb : (x == c) = false := by simpa using hx
      rw [hb] at h
      by_cases e : Lib.indexByte l c = -1
      · simp [e] at h
      · simp [e] at h
        have := Lib.indexByte_ge l c
        obtain ⟨k, hk⟩ : ∃ k : Nat, Lib.indexByte l c = k := ⟨(Lib.indexByte l c).toNat, by omega⟩
        obtain rfl : i = k + 1 := by omega
        simp only [splU, if_neg hx]
        rw [splU_hit c l _ k hk]
        simp
theorem splitK_eq (c : UInt8) : ∀ (k : Nat) (l : List UInt8), Lib.count l [c] ≤ k → Lib.splitK [c] 0 k l = splU c l []
  | 0, l, h => by
    have hm : Lib.index l [c] = -1 := by
      by_cases e : Lib.index l [c] = -1
      · exact e
      · exfalso
        rw [Lib.count_one] at h
        have h0 : c ∉ l := List.count_eq_zero.1 (by omega)
        rw [Lib.index_one] at e
        clear h
        induction l with
        | nil => exact e rfl
        | cons x l ih =>
          simp only [List.mem_cons, not_or] at h0
          apply e
          unfold Lib.indexByte
          have hb : (x == c) = false := by simpa using fun e => h0.1 e.symm
          rw [hb]
          have := Classical.byContradiction fun hne => ih hne h0.2
          simp [this]
    rw [Lib.splitK, splU_miss c l [] (by rw [← Lib.index_one]; exact hm)]
    rfl
  | k + 1, l, h => by
    rw [Lib.splitK]
    by_cases e : Lib.index l [c] = -1
    · rw [if_pos (by simp [e]), splU_miss c l [] (by rw [← Lib.index_one]; exact e)]
      rfl
    · have := Lib.index_ge l [c]
      obtain ⟨i, hi⟩ : ∃ i : Nat, Lib.index l [c] = i := ⟨(Lib.index l [c]).toNat, by omega⟩
      have hi' : Lib.indexByte l c = i := by rw [← Lib.index_one]; exact hi
      rw [if_neg (by simp [e]), splU_hit c l [] i hi', hi]
      have hcnt : Lib.count (l.drop (i + 1)) [c] ≤ k := by
        rw [Lib.count_one] at h ⊢
        have hmem : ∀ (l : List UInt8) (i : Nat), Lib.indexByte l c = i → l.count c = (l.drop (i + 1)).count c + 1 := by
          intro l
          induction l with
          | nil => intro i h; simp [Lib.indexByte] at h
          | cons x l ih =>
            intro i h
            unfold Lib.indexByte at h
            by_cases hx : x = c
            · subst hx
              simp at h
              obtain rfl : i = 0 := by omega
              simp
            · have hb : (x == c) = false := by simpa using hx
              rw [hb] at h
              by_cases e : Lib.indexByte l c = -1
              · simp [e] at h
              · simp [e] at h
                have := Lib.indexByte_ge l c
                obtain ⟨k, hk⟩ : ∃ k : Nat, Lib.indexByte l c = k := ⟨(Lib.indexByte l c).toNat, by omega⟩
                obtain rfl : i = k + 1 := by omega
                rw [List.count_cons_of_ne (by simpa using hx), ih k hk]
                rfl
        have := hmem l i hi'
        omega
      have e1 : ((i : Int).toNat + 0) = i := by omega
      have e2 : ((i : Int).toNat + [c].length) = i + 1 := by simp
      rw [e1, e2, splitK_eq c k _ hcnt]
      rfl
theorem str_reps {w : World} {I : Nat → Prop} (zs : List ByteArray) : Reps (TRep w I .str) 1 zs (zs.map Value.string) := by
  refine ⟨by simp, fun j p hj => ?_⟩
  have h1 : (zs.map Value.string)[j]? = some (.string p) := by simp [hj]
  have hlt := (List.getElem?_eq_some_iff.1 h1).1
  show ((zs.map Value.string).drop (j * 1)).take 1 = [.string p]
  rw [Nat.mul_one, List.drop_eq_getElem_cons hlt]
  simp only [List.take_succ_cons, List.take_zero, List.cons.injEq, and_true]
  rw [List.getElem?_eq_getElem hlt] at h1
  exact Option.some.inj h1
def s85 : Sense := newS fun xs K => ∃ s c, xs = [.one (.str s), .one (.str ⟨#[c]⟩)] ∧ s.size ≤ big ∧ ∀ zs, zs.map bl = spl (c.toNat : Int) (bl s) [] → K [.own 9 .str zs true false] (.ret (.one (.own 0)))
theorem ok85 : SenseOK Gr Tryz.prog 96 s85 := SenseOK.libNew fun xs K h => by
  obtain ⟨s, c, rfl, hb, hk⟩ := h
  simp only [big] at hb
  have hall : (Lib.splitB ⟨#[c]⟩ 0 (Lib.countB s ⟨#[c]⟩) s).map (·.data.toList) = splU c s.data.toList [] := by
    rw [Lib.splitB_data]
    exact splitK_eq c _ _ (Nat.le_refl _)
  have hbl : (Lib.splitB ⟨#[c]⟩ 0 (Lib.countB s ⟨#[c]⟩) s).map bl = spl (c.toNat : Int) (bl s) [] := by
    have := congrArg (List.map nums) hall
    rw [splU_nums, List.map_map] at this
    exact this
  have hlen : (Lib.splitB ⟨#[c]⟩ 0 (Lib.countB s ⟨#[c]⟩) s).length = Lib.countB s ⟨#[c]⟩ + 1 := Lib.splitB_all ⟨#[c]⟩ (Nat.le_refl 1) 0 _ s rfl
  refine ⟨[.string s, .string ⟨#[c]⟩], fun w I lk vs hv => ?_, 9, .str, _, hk _ hbl, fun w hw => ⟨_, fun w I => str_reps _, ?_, ?_⟩⟩
  · obtain ⟨v1, m1, rfl, h1, h2⟩ := hv.cons_inv
    obtain ⟨v2, m2, rfl, h3, h4⟩ := h2.cons_inv
    obtain rfl := h4.nil_inv
    rw [show v1 = .string s from h1, show v2 = _ from h3]
  · have := (spl_size (c.toNat : Int) (bl s) []).1
    rw [← hbl, List.length_map, bl_length] at this
    simp only [maxLen]; omega
  · obtain ⟨m, hm⟩ := hw.mlen
    refine (Tryz.strings_Split s ⟨#[c]⟩ m w (by omega) hm (Nat.le_refl 1)).mono ?_
    rintro e w' ⟨rfl, rfl⟩
    exact ⟨by rw [hlen], rfl⟩
end Go.Proofs.YtilagaapfbfkkaaGreatDoor.Ab
namespace Go.Proofs.YtilagaapfbfkkaaGreatDoor.Ab
open Go Go.RowKit Go.Proofs.YtilagaapfbfkkaaGreatDoorW.PrintWords
structure Opn (P : Program) (t : TypeId) (d : Ty) (wf : d.den → Prop) : Prop where
  cells : P.cellsOf t = d.sz
  op : ∀ {H : Type} {enc : TypeId × Value → H} {w : World} {base : Nat} {spare : Nat → Bool} {fuel : Nat} {cs : List Value} {D : DataW H} {ps : List MemPlace},
    DataW.trod enc P w base spare true fuel t cs = some (D, ps) → (∀ n ∈ D.weights P t, n ≤ reachBytes) → ∃ x, TRep w (· < w.heap.size) d x cs ∧ wf x
theorem Opn.imp {P : Program} {t : TypeId} {d : Ty} {wf wf' : d.den → Prop} (h : Opn P t d wf) (hi : ∀ x, wf x → wf' x) : Opn P t d wf' :=
  ⟨h.cells, fun ht hw => let ⟨x, hk, hx⟩ := h.op ht hw; ⟨x, hk, hi x hx⟩⟩
theorem Opn.int {P : Program} {t : TypeId} {k : IntKind} (hc : P.cellsOf t = 1) (hu : P.underlying t = some (.int k)) : Opn P t (.int k) (fun x => (Lit.int k x).wf = true) :=
  ⟨hc, fun ht _ => by
    obtain ⟨n, rfl, _, hw⟩ := DataW.trod_int hu ht
    exact ⟨n, rfl, hw⟩⟩
theorem Opn.bool {P : Program} {t : TypeId} (hc : P.cellsOf t = 1) (hu : P.underlying t = some .bool) : Opn P t .bool (fun _ => True) :=
  ⟨hc, fun ht _ => by
    obtain ⟨b, rfl, _⟩ := DataW.trod_bool hu ht
    exact ⟨b, rfl, trivial⟩⟩
theorem Opn.string {P : Program} {t : TypeId} (hc : P.cellsOf t = 1) (hu : P.underlying t = some .string) : Opn P t .str (fun x => x.size ≤ 140737488351232) :=
  ⟨hc, fun ht hw => by
    obtain ⟨s, rfl, hx, _⟩ := DataW.trod_string hu ht
    obtain ⟨rfl, rfl⟩ := Prod.mk.inj hx
    have := hw s.data.toList.length (by simp [DataW.weights])
    refine ⟨s, rfl, ?_⟩
    rw [Array.length_toList] at this
    exact this⟩
theorem all_lt {α : Type} {Q : Nat → α → Prop} : ∀ n : Nat, (∀ i, i < n → ∃ x, Q i x) → ∃ xs : List α, xs.length = n ∧ ∀ i x, xs[i]? = some x → Q i x
  | 0, _ => ⟨[], rfl, fun i x h => by simp at h⟩
  | n + 1, h => by
    obtain ⟨xs, hl, hx⟩ := all_lt n (fun i hi => h i (by omega))
    obtain ⟨y, hy⟩ := h n (by omega)
    refine ⟨xs ++ [y], by simp [hl], fun i x hi => ?_⟩
    by_cases hlt : i < xs.length
    · rw [List.getElem?_append_left hlt] at hi
      exact hx i x hi
    · rw [List.getElem?_append_right (by omega)] at hi
      have hi0 : i - xs.length = 0 := by
        have := (List.getElem?_eq_some_iff.1 hi).1
        simp at this
        omega
      rw [hi0] at hi
      have he : i = n := by omega
      subst he
      simp at hi
      subst hi
      exact hy
theorem Opn.slice {P : Program} {t e : TypeId} {d : Ty} {wf : d.den → Prop} (hc : P.cellsOf t = 1) (hu : P.underlying t = some (.slice e)) (he : Opn P e d wf) :
    Opn P t (.slice e d) (fun xs => xs.length * P.bytesOf e ≤ 140737488351232 ∧ ∀ x ∈ xs, wf x) :=
  ⟨hc, by
    intro H enc w base spare fuel cs D ps ht hw
    rcases Go.Deep.open_slice hu ht with ⟨rfl, hx⟩ | ⟨a, len, cap, m, n, Dd, Pl, rfl, _, hl, hm, hmm, hx, hi⟩
    · exact ⟨[], ⟨none, 0, rfl, Nat.le_refl _, by simp, fun h => absurd h (by simp)⟩, by simp, fun x h => by simp at h⟩
    · obtain ⟨rfl, rfl⟩ := Prod.mk.inj hx
      have hlm : len ≤ m := by rw [hmm]; split <;> omega
      have hwt : ∀ i, i < len → ∀ k ∈ (Dd i).weights P e, k ≤ reachBytes := by
        intro i hil k hk
        refine hw k ?_
        simp only [DataW.weights, hu]
        refine List.mem_cons_of_mem _ (List.mem_append_left _ ?_)
        have : ∀ (l : List (DataW H)) (z : DataW H), z ∈ l → ∀ k ∈ z.weights P e, k ∈ DataW.weightsAll P e l := by
          intro l z hz
          induction l with
          | nil => simp at hz
          | cons y l ih =>
            intro k hk
            simp only [DataW.weightsAll, List.mem_append]
            rcases List.mem_cons.1 hz with rfl | hz
            · exact Or.inl hk
            · exact Or.inr (ih hz k hk)
        exact this _ (Dd i) (List.mem_map.2 ⟨i, List.mem_range.2 hil, rfl⟩) k hk
      obtain ⟨xs, hxl, hxs⟩ := all_lt (Q := fun i x => (∃ c, c.length = d.sz ∧ TRep w (· < w.heap.size) d x c ∧ ∀ j u, c[j]? = some u → w.cell? (a.add (i * d.sz + j)) = some u) ∧ wf x) len (by
        intro i hil
        obtain ⟨cs', h1, h2⟩ := hi i (by omega)
        obtain ⟨x, hk, hx⟩ := he.op h2 (hwt i hil)
        obtain ⟨_, hlen, hcell⟩ := World.cells?_some h1
        refine ⟨x, ⟨cs', by rw [hlen, he.cells], hk, fun j u hj => ?_⟩, hx⟩
        have hjl : j < P.cellsOf e := by rw [← hlen]; exact (List.getElem?_eq_some_iff.1 hj).1
        have := hcell j hjl
        rw [hj] at this
        rw [← this, ← he.cells]
        rw [Go.Addr.add_add])
      subst hxl
      refine ⟨xs, ⟨some a, cap, rfl, hl, ?_, fun hp => ⟨a, rfl, ?_, fun j x hj => (hxs j x hj).1⟩⟩, ?_, fun x hx => ?_⟩
      · simp only [maxLen] at hm; omega
      · obtain ⟨⟨c, hcl, hT, hc⟩, _⟩ := hxs 0 xs[0] (List.getElem?_eq_getElem hp)
        have := Ty.sz_pos d
        have h0 := hc 0 c[0] (List.getElem?_eq_getElem (by omega))
        have := World.block_lt_of_cell? w _ h0
        rwa [add_block'] at this
      · have := hw ((((List.range xs.length).map Dd).length + ((List.range (m - xs.length)).map fun j => Dd (xs.length + j)).length) * P.bytesOf e) (by simp [DataW.weights, hu])
        simp only [List.length_map, List.length_range] at this
        refine Nat.le_trans (Nat.mul_le_mul_right _ ?_) this
        omega
      · obtain ⟨i, hil, rfl⟩ := List.mem_iff_getElem.1 hx
        exact (hxs i _ (List.getElem?_eq_getElem hil)).2⟩
structure OpnFs (P : Program) (fs : List Field) (off : Nat) (d : Ty) (wf : d.den → Prop) : Prop where
  op : ∀ {H : Type} {enc : TypeId × Value → H} {w : World} {base : Nat} {spare : Nat → Bool} {n : Nat} {cs : List Value} (ys : List (DataW H × List MemPlace)),
    (∀ (i : Nat) (f : Field), fs[i]? = some f → DataW.trod enc P w base spare true n f.type ((cs.drop f.offset).take (P.cellsOf f.type)) = ys[i]?) → ys.length = fs.length →
    (∀ k ∈ DataW.weightsEach P (fs.map (·.type)) (ys.map (·.1)), k ≤ reachBytes) → ∃ x, TRep w (· < w.heap.size) d x ((cs.drop off).take d.sz) ∧ wf x
theorem OpnFs.one {P : Program} {f : Field} {off : Nat} {d : Ty} {wf : d.den → Prop} (h : Opn P f.type d wf) (ho : f.offset = off) : OpnFs P [f] off d wf :=
  ⟨by
    intro H enc w base spare n cs ys hy hl hw
    match ys, hl with
    | [y], _ =>
      have h0 := hy 0 f rfl
      simp only [List.getElem?_cons_zero] at h0
      obtain ⟨x, hk, hx⟩ := h.op (D := y.1) (ps := y.2) h0 (fun k hk => hw k (by simp [DataW.weightsEach, hk]))
      rw [h.cells, ho] at hk
      exact ⟨x, hk, hx⟩⟩
theorem OpnFs.cons {P : Program} {f : Field} {fs : List Field} {off : Nat} {a b : Ty} {wa : a.den → Prop} {wb : b.den → Prop} (h : Opn P f.type a wa) (ho : f.offset = off) (hr : OpnFs P fs (off + a.sz) b wb) :
    OpnFs P (f :: fs) off (.pair a b) (fun x => wa x.1 ∧ wb x.2) :=
  ⟨by
    intro H enc w base spare n cs ys hy hl hw
    match ys, hl with
    | y :: ys, hl =>
      have h0 := hy 0 f rfl
      simp only [List.getElem?_cons_zero] at h0
      obtain ⟨x, hk, hx⟩ := h.op (D := y.1) (ps := y.2) h0 (fun k hk => hw k (by simp [DataW.weightsEach, hk]))
      obtain ⟨z, hkz, hz⟩ := hr.op ys (fun i g hg => by simpa using hy (i + 1) g (by simpa using hg)) (by simpa using hl) (fun k hk => hw k (by simp only [List.map_cons, DataW.weightsEach, List.mem_append]; exact Or.inr hk))
      rw [h.cells, ho] at hk
      refine ⟨(x, z), ⟨_, _, ?_, hk, hkz⟩, hx, hz⟩
      show (cs.drop off).take (a.sz + b.sz) = _
      rw [List.take_add, List.drop_drop]⟩
theorem Opn.struct {P : Program} {t : TypeId} {fs : Array Field} {d : Ty} {wf : d.den → Prop} (hc : P.cellsOf t = d.sz) (hu : P.underlying t = some (.struct fs)) (hf : OpnFs P fs.toList 0 d wf) : Opn P t d wf :=
  ⟨hc, by
    intro H enc w base spare fuel cs D ps ht hw
    obtain ⟨xs, n, _, hx, hl, hlen, hy⟩ := DataW.trod_struct hu ht
    obtain ⟨rfl, rfl⟩ := Prod.mk.inj hx
    obtain ⟨x, hk, hx⟩ := hf.op xs (fun i f hi => hy i f (by simpa using hi)) (by simpa using hlen) (fun k hk => hw k (by simp only [DataW.weights, hu]; exact hk))
    rw [List.drop_zero, ← hc, ← hl, List.take_length] at hk
    exact ⟨x, hk, hx⟩⟩
def topCx (w : World) (G : World → Prop) : Cx := { hid := (· < w.heap.size), l0 := [], gr := G, df := [], pub := (· < w.heap.size), ph := fun _ h => h }
theorem SenseOK.top {G : World → Prop} {P : Program} {f : FuncId} {s : Sense} (hs : SenseOK G P f s) {w : World} {ags : List V} {vs : List Value} {K : Out → Prop} (hG : Gnd (topCx w G) w)
    (has : All2 (VRep w (· < w.heap.size) []) ags vs) (h : s.f [] ags fun os o => os = [] ∧ K o) :
    Calls P f vs.toArray w fun e w' => Below w.heap.size w w' ∧ ∃ out, K out ∧ OutRep w' (Imm (topCx w G) w' []) [] out e := by
  have e : (fun b => b < w.heap.size) = Imm (topCx w G) w [] := by
    funext b
    refine propext ⟨fun h => ⟨h, fun v hv => by simp at hv, fun h => h⟩, fun h => h.1⟩
  rw [e] at has
  refine (hs (topCx w G) w [] [] ags vs _ ⟨rfl, fun i o v h => by simp at h, fun i j v v' b _ h => by simp at h, fun i v b h => by simp at h, fun i v b h => by simp at h, Nat.le_refl _, fun p v0 o h => by simp [topCx] at h⟩ rfl (fun b hb => hb) rfl hG has h).mono ?_
  rintro e w' ⟨os', lk', out, ⟨rfl, hk⟩, hO, hkp, _, ho⟩
  have hl : lk' = [] := List.length_eq_zero_iff.1 (by rw [hO.lsz]; rfl)
  subst hl
  exact ⟨⟨hkp.os, hkp.tape, hkp.output, hkp.size, fun k hk => hkp.block k hk (by simp)⟩, out, hk, ho⟩
end Go.Proofs.YtilagaapfbfkkaaGreatDoor.Ab
namespace Go.Proofs.YtilagaapfbfkkaaGreatDoor.Ab
open Go Go.RowKit Go.Proofs.YtilagaapfbfkkaaGreatDoorW.PrintWords
set_option maxRecDepth 100000
abbrev laidL : List (String × DataW Unit) := Rows.senderOpensUptoRow.laid
theorem gPow : Tryz.prog.globalNamed "internal/strconv.uint64pow10" = some 5 := by kernel_rfl
theorem gER : Tryz.prog.globalNamed "strconv.ErrRange" = some 2 := by kernel_rfl
theorem gES : Tryz.prog.globalNamed "strconv.ErrSyntax" = some 1 := by kernel_rfl
theorem star : "*" ++ "errors.errorString" = "*errors.errorString" := by decide
theorem rowES (u : TypeId) (h : Tryz.prog.typeName? 3 u = some "*errors.errorString") : u = 223 :=
  typeName_ptr_named (nm := "errors.errorString") (by rw [star]; kernel_rfl) (by kernel_rfl) (by decide) u (by rw [star]; exact h)
theorem Gr.of_laid {W : World} (hs : W.ShapedOpen Tryz.prog) (h0 : laidMetH Tryz.prog laidL W) : Gr W := by
  rw [MakeChecks.laidMetH_plain _ _ _ (by kernel_rfl)] at h0
  obtain ⟨a1, s1, hv1, -, -, -⟩ := laid_sentinel (n := "strconv.ErrRange") h0.tail.tail.tail.tail gER (ti := 131) (by kernel_rfl) Tryz.underlying131 rowES Tryz.underlying223 Tryz.underlying225 rfl rfl Tryz.underlying9 (by kernel_rfl) (by kernel_rfl)
  obtain ⟨a2, s2, hv2, -, -, -⟩ := laid_sentinel (n := "strconv.ErrSyntax") h0.tail.tail.tail.tail.tail gES (ti := 131) (by kernel_rfl) Tryz.underlying131 rowES Tryz.underlying223 Tryz.underlying225 rfl rfl Tryz.underlying9 (by kernel_rfl) (by kernel_rfl)
  obtain ⟨m, hm⟩ := cell_of_shapedOpen_int (P := Tryz.prog) (g := 0) (t := 3) (zero := #[.int .i64 0]) hs (of_decide_eq_true (by kernel_rfl)) (by kernel_rfl) rfl (by kernel_rfl) (by kernel_rfl) Tryz.underlying3
  refine ⟨⟨m, hm⟩, ⟨_, by have h0 := World.var?_cell gES hv2 0; simpa using h0, .inr ⟨_, _, rfl⟩⟩, ⟨_, by have h0 := World.var?_cell gER hv1 0; simpa using h0, .inr ⟨_, _, rfl⟩⟩, ?_⟩
  exact Lib.tabIs_of_head (e := 195) (n := 20) gPow (t := 227) (by kernel_rfl) Tryz.underlying227 Tryz.underlying195 (by kernel_rfl) (by kernel_rfl) h0.tail.tail
theorem Gr.heap {w w' : World} (h : Gr w) (hb : ∀ b, b < w.heap.size → w'.heap[b]? = w.heap[b]?) : Gr w' := by
  have hc : ∀ (a : Addr) (v : Value), w.cell? a = some v → w'.cell? a = some v := fun a v h => by
    have := World.block_lt_of_cell? w a h
    rw [← h]
    simp [World.cell?, hb _ this]
  obtain ⟨m, hm⟩ := h.mlen
  obtain ⟨e1, h1, h2⟩ := h.esyn
  obtain ⟨e2, h3, h4⟩ := h.erng
  refine ⟨⟨m, hc _ _ hm⟩, ⟨e1, hc _ _ h1, h2⟩, ⟨e2, hc _ _ h3, h4⟩, ?_⟩
  have h5 := h.ptab
  unfold Lib.TabIs World.var? at h5 ⊢
  rw [gPow] at h5 ⊢
  simp only [Option.bind_some] at h5 ⊢
  have hlt : 5 < w.heap.size := by
    rcases Nat.lt_or_ge 5 w.heap.size with h | h
    · exact h
    · rw [Array.getElem?_eq_none h] at h5; cases h5
  rw [hb 5 hlt]
  exact h5
theorem Gr.gnd {w : World} (h : Gr w) : Gnd (topCx w Gr) w := fun _ hb => h.heap hb
variable {G : World → Prop}
abbrev RT : Ty := .pair (.pair .str .str) (.pair (.int .i64) (.pair (.int .i64) (.pair (.int .i64) (.int .i64))))
def rcOf (r : RT.den) : Rc := ⟨bl r.1.1, bl r.1.2, r.2.1, r.2.2.1, r.2.2.2.1, r.2.2.2.2⟩
def SlIn (e : TypeId) (t : Ty) (k : Nat) (l : List t.den) (c : C) (os : List Ob) : Prop :=
  (c = .sl t l ∧ os = []) ∨ (c = .nil ∧ os = [] ∧ l = []) ∨ ∃ ap, c = .own k ∧ os = [.own e t l ap false]
abbrev RcIn := SlIn 39 RT
theorem nth_of {α : Type} {l : List α} {j : Nat} {x : α} (h : l[j]? = some x) (d : α) : rdx l ((j : Int).toNat) d = x := by
  show l.getD j d = x
  simp [List.getD, h]
def eqB (r r' : RT.den) : Bool := (r.1.1.toList == r'.1.1.toList && (r.1.2.toList == r'.1.2.toList && true)) && (r.2.1 == r'.2.1 && (r.2.2.1 == r'.2.2.1 && (r.2.2.2.1 == r'.2.2.2.1 && (r.2.2.2.2 == r'.2.2.2.2 && true))))
theorem eqB_eq (r r' : RT.den) : eqB r r' = decide (rcOf r = rcOf r') := by
  rw [Bool.eq_iff_iff]
  simp only [eqB, str_beq, Bool.and_eq_true, beq_iff_eq, decide_eq_true_eq, rcOf, Rc.mk.injEq, and_true]
  constructor
  · rintro ⟨⟨h1, h2⟩, h3, h4, h5, h6⟩; exact ⟨h1, h2, h3, h4, h5, h6⟩
  · rintro ⟨h1, h2, h3, h4, h5, h6⟩; exact ⟨⟨h1, h2⟩, h3, h4, h5, h6⟩
theorem eq_step {α β : Type} {f : α → β} {a b : List α} {j : Nat} {x y : α} (hx : a[j]? = some x) (hy : b[j]? = some y) (h : (a.take j).map f = (b.take j).map f) (hf : f x = f y) : (a.take (j + 1)).map f = (b.take (j + 1)).map f := by
  rw [List.take_add_one, List.take_add_one, hx, hy, List.map_append, List.map_append, h]
  simp [hf]
theorem ne_step {α β : Type} {f : α → β} {a b : List α} {j : Nat} {x y : α} (hx : a[j]? = some x) (hy : b[j]? = some y) (hf : f x ≠ f y) : a.map f ≠ b.map f := fun h => by
  have h1 := congrArg (fun l => l[j]?) h
  simp [hx, hy] at h1
  exact hf h1
def s46 : Sense := ⟨false, fun os xs K => ∃ a b c d pa pb, xs = [.one c, .one d] ∧ RcIn 0 a c pa ∧ RcIn pa.length b d pb ∧ os = pa ++ pb ∧ a.length ≤ big ∧ b.length ≤ big ∧ K os (.ret (.one (.bool (decide (a.map rcOf = b.map rcOf)))))⟩
theorem ok46 : SenseOK G Tryz.prog 122 s46 := SenseOK.any Γ0.ok (fun _ => [0, 1, 5]) Tryz.func122 fun os xs K h => by
  obtain ⟨a, b, c, d, pa, pb, rfl, ha, hb, rfl, hab, hbb, hk⟩ := h
  simp only [big] at hab hbb
  have nl : ([] : List RT.den).length = 0 := rfl
  rcases ha with ⟨hc, hoa⟩ | ⟨hc, hoa, ha0⟩ | ⟨ap, hc, hoa⟩ <;> rcases hb with ⟨hd, hob⟩ | ⟨hd, hob, hb0⟩ | ⟨ap2, hd, hob⟩
  all_goals
    try simp only [hoa, List.length_nil, List.length_cons, Nat.zero_add] at hd
    try simp only [hoa, hob, List.nil_append, List.cons_append] at hk
    rw [hc, hd, hoa, hob]
    by_cases h0 : a.length = b.length
    case neg =>
      have hne : decide (a.map rcOf = b.map rcOf) = false := by
        simp only [decide_eq_false_iff_not]
        intro h
        have := congrArg List.length h
        rw [List.length_map, List.length_map] at this
        exact h0 this
      rw [hne] at hk
      have f0 : ((a.length : Int) != b.length) = true := by simp; omega
      first | subst ha0 | skip
      first | subst hb0 | skip
      first | exact absurd rfl h0 | skip
      all_goals
        refine zs1 f0 ?_
        exact hk
    have f0 : ((a.length : Int) != b.length) = false := by simp; omega
    by_cases hz : a.length = 0
    · obtain rfl : a = [] := List.length_eq_zero_iff.1 hz
      obtain rfl : b = [] := List.length_eq_zero_iff.1 (by rw [← h0]; rfl)
      refine zs1 f0 ?_
      refine ⟨1, ?_⟩
      refine zv ?_
      exact hk
    first | (exact absurd (by rw [ha0]; rfl) hz) | (exact absurd (by rw [h0, hb0]; rfl) hz) | skip
    all_goals
      refine zs1 f0 ?_
      refine iter_of (I := fun k σ => ∃ (j : Nat), k = a.length - j ∧ j ≤ a.length ∧ (a.take j).map rcOf = (b.take j).map rcOf ∧ σ = ⟨slots 26 [(0, .one c), (1, .one d), (5, .one (.int .i64 j))], pa ++ pb⟩) ?_ a.length ⟨0, by omega, by omega, by simp, by rw [hc, hd, hoa, hob]; rfl⟩
      rintro k σ K' ⟨j, rfl, hj, hall, rfl⟩ hK'
      rw [hc, hd, hoa, hob] at hK' ⊢
      by_cases h1 : j < a.length
      case neg =>
        have f1 : decide ((j : Int) < a.length) = false := by simp; omega
        obtain rfl : j = a.length := by omega
        rw [List.take_length, List.take_of_length_le (by omega)] at hall
        rw [hall] at hk
        simp only [decide_true] at hk
        refine zs1 f1 ?_
        exact hk
      have f1 : decide ((j : Int) < a.length) = true := by simpa using h1
      obtain ⟨x, hx⟩ : ∃ x, a[j]? = some x := ⟨_, List.getElem?_eq_getElem h1⟩
      obtain ⟨y, hy⟩ : ∃ y, b[j]? = some y := ⟨_, List.getElem?_eq_getElem (by omega)⟩
      have rx := nth_of hx RT.dflt
      have ry := nth_of hy RT.dflt
      have w1 := IntWalk.i64_in (↑j + 1) (by omega)
      refine zs1 f1 ?_
      refine ⟨[], .take 0 (.take 1 (.take 2 (.take 3 (.take 4 (.take 5 (.take 6 (.take 7 (.take 8 .done)))))))), ⟨by kernel_rfl⟩, ?_⟩
      refine zv ?_
      rw [rx, ry]
      change Br (!eqB x y) _ _
      rw [eqB_eq]
      by_cases hxy : rcOf x = rcOf y
      · have e1 : decide (rcOf x = rcOf y) = true := by simpa using hxy
        refine zs2 e1 w1 ?_
        exact hK' _ _ (by omega) ⟨j + 1, rfl, by omega, eq_step hx hy hall hxy, rfl⟩
      · have e1 : decide (rcOf x = rcOf y) = false := by simpa using hxy
        have hne : decide (a.map rcOf = b.map rcOf) = false := by simpa using ne_step hx hy hxy
        rw [hne] at hk
        refine zs1 e1 ?_
        exact hk
def s36 : Sense := ⟨false, fun os xs K => ∃ a c, xs = [.one c] ∧ RcIn 0 a c os ∧ a.length ≤ big ∧ (a = [] → K os (.ret (.one .nil))) ∧ (a ≠ [] → ∀ mv, K (os ++ [.own 39 RT a true mv]) (.ret (.one (.own os.length))))⟩
theorem ok36 : SenseOK G Tryz.prog 118 s36 := SenseOK.any Γ0.ok (fun _ => [0, 3, 4]) Tryz.func118 fun os xs K h => by
  obtain ⟨a, c, rfl, ha, hab, hk0, hk1⟩ := h
  simp only [big] at hab
  rcases ha with ⟨hc, ho⟩ | ⟨hc, ho, ha0⟩ | ⟨ap, hc, ho⟩
  all_goals
    rw [hc, ho]
    rw [ho] at hk0 hk1
    try simp only [List.nil_append, List.length_nil, List.length_cons, Nat.zero_add, List.cons_append] at hk0 hk1
    by_cases hz : a = []
    · subst hz
      refine zv ?_
      refine ⟨1, ?_⟩
      refine zv ?_
      exact hk0 rfl
    first | exact absurd ha0 hz | skip
    all_goals
      refine zv ?_
      refine iter_of (I := fun k σ => ∃ (j : Nat) (mv : Bool), k = a.length - j ∧ j ≤ a.length ∧
        ((j = 0 ∧ σ = ⟨slots 19 [(0, .one c), (3, .one .nil), (4, .one (.int .i64 j))], os⟩) ∨
         (j ≠ 0 ∧ σ = ⟨slots 19 [(0, .one c), (3, .one (.own os.length)), (4, .one (.int .i64 j))], os ++ [.own 39 RT (a.take j) true mv]⟩))) ?_ a.length ⟨0, false, by omega, by omega, .inl ⟨rfl, by rw [hc, ho]; rfl⟩⟩
      rintro k σ K' ⟨j, mv, rfl, hj, hσ⟩ hK'
      rw [hc, ho] at hK' hσ
      have w1 := IntWalk.i64_in (↑j + 1) (by omega)
      by_cases h1 : j < a.length
      case neg =>
        have f1 : decide ((j : Int) < a.length) = false := by simp; omega
        obtain rfl : j = a.length := by omega
        have hne : a.length ≠ 0 := fun h => hz (List.length_eq_zero_iff.1 h)
        rcases hσ with ⟨h, _⟩ | ⟨_, rfl⟩
        · exact absurd h hne
        · rw [List.take_length]
          refine zs1 f1 ?_
          exact hk1 hz mv
      have f1 : decide ((j : Int) < a.length) = true := by simpa using h1
      obtain ⟨x, hx⟩ : ∃ x, a[j]? = some x := ⟨_, List.getElem?_eq_getElem h1⟩
      have rx := nth_of hx RT.dflt
      have ht : a.take (j + 1) = a.take j ++ [x] := by rw [List.take_add_one, hx]; rfl
      have htl : (a.take j).length = j := by rw [List.length_take]; omega
      rcases hσ with ⟨rfl, rfl⟩ | ⟨hj0, rfl⟩
      · refine zs3 f1 rx w1 ?_
        refine hK' _ _ (by omega) ⟨1, false, rfl, by omega, .inr ⟨by omega, ?_⟩⟩
        rw [ht]
        rfl
      · refine zs4 f1 rx htl w1 ?_
        refine hK' _ _ (by omega) ⟨j + 1, true, rfl, by omega, .inr ⟨by omega, ?_⟩⟩
        rw [ht]
        rfl
structure Md where
  (id te : Int) (nul : Bool) (fl fd : ByteArray) (rc : List RT.den) (body : ByteArray) (born : Int) (held told : Bool)
def Md.cs (m : Md) (c : C) : List C := [.int .i64 m.id, .int .i64 m.te, .bool m.nul, .str m.fl, .str m.fd, c, .str m.body, .int .i64 m.born, .bool m.held, .bool m.told]
def Md.ml (m : Md) : Ml := ⟨m.id, m.te, m.nul, bl m.fl, bl m.fd, m.rc.map rcOf, bl m.body, m.born, m.held, m.told⟩
def Γ15 : Sems := ext 122 s46 Γ0
theorem Γ15.ok : SemsOK G Tryz.prog Γ15 := Γ0.ok.ext Tryz.func122 rfl (by decide) ok46
def Γ10 : Sems := ext 118 s36 Γ0
theorem Γ10.ok : SemsOK G Tryz.prog Γ10 := Γ0.ok.ext Tryz.func118 rfl (by decide) ok36
def s10 : Sense := ⟨false, fun os xs K => ∃ (m : Md) (c : C), xs = [.agg (m.cs c)] ∧ RcIn 0 m.rc c os ∧ m.rc.length ≤ big ∧ (m.rc = [] → K os (.ret (.agg (m.cs .nil)))) ∧ (m.rc ≠ [] → ∀ mv, K (os ++ [.own 39 RT m.rc true mv]) (.ret (.agg (m.cs (.own os.length)))))⟩
theorem ok10 : SenseOK G Tryz.prog 70 s10 := SenseOK.any Γ10.ok (fun _ => []) Tryz.func70 fun os xs K h => by
  obtain ⟨m, c, rfl, ha, hab, hk0, hk1⟩ := h
  rcases ha with ⟨rfl, rfl⟩ | ⟨rfl, rfl, ha0⟩ | ⟨ap, rfl, rfl⟩
  · refine zv ?_
    refine ⟨m.rc, _, rfl, .inl ⟨rfl, rfl⟩, hab, fun h => ?_, fun h mv => ?_⟩
    · refine zv ?_
      exact hk0 h
    · refine zv ?_
      exact hk1 h mv
  · refine zv ?_
    refine ⟨m.rc, _, rfl, .inr (.inl ⟨rfl, rfl, ha0⟩), hab, fun h => ?_, fun h mv => ?_⟩
    · refine zv ?_
      exact hk0 h
    · exact absurd ha0 h
  · refine zv ?_
    refine ⟨m.rc, _, rfl, .inr (.inr ⟨ap, rfl, rfl⟩), hab, fun h => ?_, fun h mv => ?_⟩
    · refine zv ?_
      exact hk0 h
    · refine zv ?_
      exact hk1 h mv
theorem u8_wrap (x : Int) : IntKind.u8.wrap x = x % 256 := by
  simp [IntKind.wrap, IntKind.signed, IntKind.bits]
theorem bl_len (s : ByteArray) : (bl s).length = s.size := by simp [bl]
def opn (r : RT.den) : Bool := r.2.1 == 0 || r.2.1 == 1
theorem any_take_next {α : Type} {p : α → Bool} {l : List α} {j : Nat} {x : α} (h : l[j]? = some x) (h0 : (l.take j).any p = false) (hx : p x = false) : (l.take (j + 1)).any p = false := by
  rw [List.take_add_one, h, List.any_append, h0]; simp [hx]
theorem any_at {α : Type} {p : α → Bool} {l : List α} {j : Nat} {x : α} (h : l[j]? = some x) (hx : p x = true) : l.any p = true :=
  List.any_eq_true.2 ⟨x, List.mem_of_getElem? h, hx⟩
def rcs (r : RT.den) : List C := [.str r.1.1, .str r.1.2, .int .i64 r.2.1, .int .i64 r.2.2.1, .int .i64 r.2.2.2.1, .int .i64 r.2.2.2.2]
def Byts (l : List Int) : Prop := ∀ x ∈ l, 0 ≤ x ∧ x < 256
theorem own : ownKnob Tryz.prog.godebug = none := by kernel_rfl
theorem laidOut : laidOutB Tryz.prog = true := by kernel_rfl
noncomputable def laidWorld (os : Os) : World :=
  { World.doorLaid Tryz.prog 400 os with heap := (World.doorLaid Tryz.prog 400 os).heap.modify 3 fun
      | .cells _ t frozen => .cells (Go.Pinned.utf8FirstZ.map fun z => Value.int .u8 (Int.ofNat z)).toArray t frozen
      | o => o }
theorem door_met (os : Os) (args : Array Value) : laidMetH Tryz.prog laidL ((laidWorld os).forCall (fun _ _ => 0) ⟨#[], args, []⟩).memory := by
  rw [MakeChecks.laidMetH_plain _ _ _ (by kernel_rfl)]
  exact laidMet_of_run' 8 (by kernel_rfl) (by kernel_rfl)
end Go.Proofs.YtilagaapfbfkkaaGreatDoor.Ab
namespace Go.Proofs.YtilagaapfbfkkaaGreatDoor.Ab
open Go Go.RowKit Go.Proofs.YtilagaapfbfkkaaGreatDoorW.PrintWords
variable {X : Cx} {P : Program}
def C.pln : C → Bool
  | .sl _ _ => false | .ielt _ _ _ => false | _ => true
def plnCs : List C → Bool
  | [] => true
  | c :: l => c.pln && plnCs l
def E.pln : E → Bool
  | .one c => c.pln | .agg l => plnCs l
def plnEs : List E → Bool
  | [] => true
  | c :: l => c.pln && plnEs l
def V.pln : V → Bool
  | .one c => c.pln | .agg l => plnCs l | .tup l => plnEs l | .wh _ c => c.pln
def Ob.pln : Ob → Bool
  | .box _ l => plnCs l | .own _ t _ _ _ => t.plainB | _ => true
def plnOs : List Ob → Bool
  | [] => true
  | o :: l => o.pln && plnOs l
def Out.pln : Out → Bool
  | .ret v => v.pln | .pan c => true
theorem TRep.pln {w w' : World} {I I' : Nat → Prop} : ∀ {t : Ty} {x : t.den} {cs : List Value}, t.plainB = true → TRep w I t x cs → TRep w' I' t x cs
  | .int _, _, _, _, h => h
  | .bool, _, _, _, h => h
  | .str, _, _, _, h => h
  | .slice _ _, _, _, hp, _ => by cases hp
  | .pair a b, x, _, hp, h => by
    simp only [Ty.plainB, Bool.and_eq_true] at hp
    obtain ⟨c1, c2, rfl, h1, h2⟩ := h
    exact ⟨c1, c2, rfl, TRep.pln hp.1 h1, TRep.pln hp.2 h2⟩
theorem plnOs_get : ∀ {os : List Ob} {i : Nat} {o : Ob}, plnOs os = true → os[i]? = some o → o.pln = true
  | [], i, o, _, h => by simp at h
  | x :: os, 0, o, hp, h => by
    simp only [plnOs, Bool.and_eq_true] at hp
    simp at h; subst h; exact hp.1
  | x :: os, i + 1, o, hp, h => by
    simp only [plnOs, Bool.and_eq_true] at hp
    exact plnOs_get hp.2 (i := i) (by simpa using h)
end Go.Proofs.YtilagaapfbfkkaaGreatDoor.Ab
namespace Go.Proofs.YtilagaapfbfkkaaGreatDoor.Ab
open Go Go.RowKit Go.Proofs.YtilagaapfbfkkaaGreatDoorW.PrintWords
variable {X : Cx} {P : Program}
def ownsB : List Ob → Bool
  | [] => true
  | .own _ _ _ _ mv :: l => !mv && ownsB l
  | _ :: _ => false
theorem ownsB_get : ∀ {os : List Ob} {i : Nat} {o : Ob}, ownsB os = true → os[i]? = some o → ∃ e t l ap, o = .own e t l ap false
  | [], i, o, _, h => by simp at h
  | x :: os, i, o, hp, h => by
    cases x with
    | own e t l ap mv =>
      simp only [ownsB, Bool.and_eq_true, Bool.not_eq_true'] at hp
      cases i with
      | zero => simp at h; subst h; exact ⟨e, t, l, ap, by rw [hp.1]⟩
      | succ i => exact ownsB_get hp.2 (i := i) (by simpa using h)
    | _ => simp [ownsB] at hp
def lendC (os : List Ob) (c c' : C) : Prop :=
  (c' = c ∧ c.id = []) ∨ (∃ i e t l ap, c = .own i ∧ c' = .sl t l ∧ os[i]? = some (.own e t l ap false)) ∨ (∃ t l, c = .nil ∧ c' = .sl t l ∧ l = [])
def lendV (os : List Ob) : V → V → Prop
  | .one c, .one c' => lendC os c c'
  | .agg l, .agg l' => All2 (lendC os) l l'
  | _, _ => False
theorem All2.comp {α β γ : Type} {R : α → β → Prop} {S : α → γ → Prop} {U : β → γ → Prop} (h : ∀ x y z, R x y → S x z → U y z) : ∀ {l : List α} {m : List β} {n : List γ}, All2 R l m → All2 S l n → All2 U m n
  | [], [], [], _, _ => trivial
  | _ :: _, _ :: _, _ :: _, h1, h2 => ⟨h _ _ _ h1.1 h2.1, All2.comp h h1.2 h2.2⟩
  | [], _ :: _, _, h1, _ => h1.elim
  | _ :: _, [], _, h1, _ => h1.elim
  | [], [], _ :: _, _, h2 => h2.elim
  | _ :: _, _ :: _, [], _, h2 => h2.elim
def Out.upN (n : Nat) : Out → Out
  | .ret v => .ret (v.ren (· + n)) | .pan c => .pan c
theorem get_up {α : Type} (l1 l : List α) (i : Nat) : (l1 ++ l)[i + l1.length]? = l[i]? := by
  rw [List.getElem?_append_right (by omega)]; congr 1; omega
theorem app_get {α : Type} {l1 l : List α} {i : Nat} {x : α} (h : (l1 ++ l)[i]? = some x) : (i < l1.length ∧ l1[i]? = some x) ∨ ∃ j, i = j + l1.length ∧ l[j]? = some x := by
  by_cases hi : i < l1.length
  · rw [List.getElem?_append_left hi] at h; exact .inl ⟨hi, h⟩
  · refine .inr ⟨i - l1.length, by omega, ?_⟩
    rw [List.getElem?_append_right (by omega)] at h; exact h
theorem CRep.upN {w : World} {I I' : Nat → Prop} {lk : List Value} (l1 : List Value) {c : C} {u : Value} (hp : c.pln = true) (h : CRep w I lk c u) : CRep w I' (l1 ++ lk) (c.ren (· + l1.length)) u := by
  cases c with
  | sl t xs => cases hp
  | ielt t x o => cases hp
  | ref i o => obtain ⟨b, hb, rfl⟩ := h; exact ⟨b, by rw [get_up]; exact hb, rfl⟩
  | own i => exact ⟨by rw [get_up]; exact h.1, h.2⟩
  | mp i => exact ⟨by rw [get_up]; exact h.1, h.2⟩
  | elt t i j o => obtain ⟨g, n, c, hb, hj, rfl⟩ := h; exact ⟨g, n, c, by rw [get_up]; exact hb, hj, rfl⟩
  | fn f l =>
    obtain ⟨us, rfl, ha⟩ := h
    exact ⟨us, rfl, All2.map (ha.imp fun i _ u hu => ⟨by rw [get_up]; exact hu.1, hu.2⟩)⟩
  | _ => exact h
theorem Cels.upN {w : World} {I I' : Nat → Prop} {lk : List Value} (l1 : List Value) : ∀ {l : List C} {us : List Value}, plnCs l = true → All2 (Cel w I lk) l us → All2 (Cel w I' (l1 ++ lk)) (l.map (C.ren (· + l1.length))) us
  | [], [], _, _ => trivial
  | c :: l, u :: us, hp, h => by
    simp only [plnCs, Bool.and_eq_true] at hp
    exact ⟨⟨h.1.1.upN l1 hp.1, h.1.2⟩, Cels.upN l1 hp.2 h.2⟩
  | [], _ :: _, _, h => h.elim
  | _ :: _, [], _, h => h.elim
theorem Es.upN {w : World} {I I' : Nat → Prop} {lk : List Value} (l1 : List Value) : ∀ {l : List E} {us : List Value}, plnEs l = true → All2 (ERep w I lk) l us → All2 (ERep w I' (l1 ++ lk)) (l.map (E.ren (· + l1.length))) us
  | [], [], _, _ => trivial
  | e :: l, u :: us, hp, h => by
    simp only [plnEs, Bool.and_eq_true] at hp
    refine ⟨?_, Es.upN l1 hp.2 h.2⟩
    cases e with
    | one c => exact CRep.upN l1 hp.1 h.1
    | agg cs => obtain ⟨vs, rfl, ha⟩ := h.1; exact ⟨vs, rfl, Cels.upN l1 hp.1 ha⟩
  | [], _ :: _, _, h => h.elim
  | _ :: _, [], _, h => h.elim
theorem VRep.upN {w : World} {I I' : Nat → Prop} {lk : List Value} (l1 : List Value) {x : V} {u : Value} (hp : x.pln = true) (h : VRep w I lk x u) : VRep w I' (l1 ++ lk) (x.ren (· + l1.length)) u := by
  cases x with
  | one c => exact CRep.upN l1 hp h
  | agg l => obtain ⟨vs, rfl, ha⟩ := h; exact ⟨vs, rfl, Cels.upN l1 hp ha⟩
  | tup l => obtain ⟨vs, rfl, ha⟩ := h; exact ⟨vs, rfl, Es.upN l1 hp ha⟩
  | wh g c => exact ⟨fun hg => CRep.upN l1 hp (h.1 hg), h.2⟩
theorem ORep.upN {w : World} {I I' : Nat → Prop} {lk : List Value} (l1 : List Value) {o : Ob} {u : Value} (hp : o.pln = true) (h : ORep w I lk o u) : ORep w I' (l1 ++ lk) (o.ren (· + l1.length)) u := by
  cases o with
  | box e l => obtain ⟨b, cur, rfl, hh, ha⟩ := h; exact ⟨b, cur, rfl, hh, Cels.upN l1 hp ha⟩
  | own e t xs ap mv => obtain ⟨cells, hr, hv⟩ := h; exact ⟨cells, Reps.imp2 hr (fun p c hq => TRep.pln hp hq), hv⟩
  | mset kt ks => exact h
  | gone => exact h
theorem SenseOK.lendL {G : World → Prop} {f : FuncId} {s : Sense} (h : SenseOK G P f s) :
    SenseOK G P f ⟨true, fun os xs K => ∃ xs', ownsB os = true ∧ All2 (lendV os) xs xs' ∧ s.f [] xs' fun os' out => plnOs os' = true ∧ out.pln = true ∧ K (os ++ os'.map (Ob.ren (· + os.length))) (out.upN os.length)⟩ := by
  intro X w lk os as_ vs K hO hl0 hX hXG hgr has hs
  obtain ⟨xs', hob, hxs, hs⟩ := hs
  have hll : lk.length = os.length := hO.lsz
  have hI : ∀ v ∈ lk, ∀ b, blk v = some b → Imm ⟨X.hid, [], X.gr, X.df, X.pub, X.ph⟩ w [] b := fun v hv b hb => by
    obtain ⟨i, hi⟩ := List.mem_iff_getElem?.1 hv
    exact ⟨hO.lt i v b hi hb, by simp, fun hx => absurd hx (hO.nx i v b hi hb)⟩
  have hg0 : Goes w (Imm X w lk) w (Imm ⟨X.hid, [], X.gr, X.df, X.pub, X.ph⟩ w []) := fun b hb => ⟨rfl, hb.1, by simp, hb.2.2⟩
  have hc : ∀ c c' u, lendC os c c' → CRep w (Imm X w lk) lk c u → CRep w (Imm ⟨X.hid, [], X.gr, X.df, X.pub, X.ph⟩ w []) [] c' u := by
    rintro c c' u (⟨rfl, hid⟩ | ⟨i, e, t, l, ap, rfl, rfl, ho⟩ | ⟨t, l, rfl, rfl, rfl⟩) hcr
    · exact hcr.goes hg0 (fun j hj => by rw [hid] at hj; simp at hj)
    · obtain ⟨A, c, he, hc, hs⟩ := own_SR (hO.ob i _ u ho hcr.1) (hI u (List.mem_of_getElem? hcr.1))
      exact ⟨A, c, he, hc, hs.goes (Goes.refl _ _) (fun x cs hx => hx.goes hg0)⟩
    · exact ⟨none, 0, hcr, Nat.le_refl _, by simp, fun hp => absurd hp (by simp)⟩
  have hcs : ∀ {l l' : List C} {us : List Value}, All2 (lendC os) l l' → All2 (Cel w (Imm X w lk) lk) l us → All2 (Cel w (Imm ⟨X.hid, [], X.gr, X.df, X.pub, X.ph⟩ w []) []) l' us :=
    fun h1 h2 => All2.comp (fun x y z hxy hxz => ⟨hc x y z hxy hxz.1, hxz.2⟩) h1 h2
  have has' : All2 (VRep w (Imm ⟨X.hid, [], X.gr, X.df, X.pub, X.ph⟩ w []) []) xs' vs := All2.comp (fun x y z hxy hxz => by
    cases x with
    | one c =>
      cases y with
      | one c' => exact hc c c' z hxy hxz
      | _ => exact hxy.elim
    | agg l =>
      cases y with
      | agg l' =>
        obtain ⟨us, rfl, ha⟩ := hxz
        exact ⟨us, rfl, hcs hxy ha⟩
      | _ => exact hxy.elim
    | _ => cases y <;> exact hxy.elim) hxs has
  have hcall := h ⟨X.hid, [], X.gr, X.df, X.pub, X.ph⟩ w [] [] _ vs _ ⟨rfl, by simp, by simp, by simp, by simp, Nat.le_refl _, by simp⟩ rfl hX hXG hgr has' hs
  refine hcall.mono ?_
  rintro e' w' ⟨os', lk', out, ⟨hp1, hp2, hK⟩, hO', hk, hn, hout⟩
  have hkb : ∀ k, k < w.heap.size → w'.heap[k]? = w.heap[k]? := fun k hk' => hk.block k hk' (fun x => by simp at x)
  have hnew : ∀ u ∈ lk', ∀ b, blk u = some b → w.heap.size ≤ b := fun u hu b hb => (hn u hu b hb).resolve_left (by simp)
  have hgo : Goes w (Imm X w lk) w' (Imm X w' (lk ++ lk')) := fun b hb => ⟨hkb b hb.1, Nat.lt_of_lt_of_le hb.1 hk.size, fun u hu => by
    rcases List.mem_append.1 hu with hu | hu
    · exact hb.2.1 u hu
    · intro he; have := hnew u hu b he; have := hb.1; omega, hb.2.2⟩
  refine ⟨_, lk ++ lk', out.upN os.length, hK, ⟨by simp [hO'.lsz, hll], fun i o u ho hu => ?_, fun i j u u' b hij hu hu' hb => ?_, fun i u b hu hb => ?_, fun i u b hu hb => ?_, ?_, fun p v0 o hp ho hko => ?_⟩, ?_, fun u hu b hb => ?_, ?_⟩
  · rcases app_get ho with ⟨hi, h2⟩ | ⟨j, rfl, h2⟩
    · rw [List.getElem?_append_left (by omega)] at hu
      obtain ⟨e, t, l, ap, rfl⟩ := ownsB_get hob h2
      exact ORep.goes hgo (by simp [Keeps, Ob.ids]) (fun b hb => hkb b (hO.lt i u b hu hb)) (hO.ob i _ u h2 hu)
    · rw [← hll, get_up] at hu
      obtain ⟨o', ho', rfl⟩ := get_map h2
      rw [← hll]
      exact ORep.upN lk (plnOs_get hp1 ho') (hO'.ob j o' u ho' hu)
  · rcases app_get hu with ⟨hi, h2⟩ | ⟨i', rfl, h2⟩ <;> rcases app_get hu' with ⟨hj, h3⟩ | ⟨j', rfl, h3⟩
    · exact hO.dj i j u u' b hij h2 h3 hb
    · intro he
      have h1 := hO.lt i u b h2 hb
      have h4 := hnew u' (List.mem_of_getElem? h3) b he
      omega
    · intro he
      have h1 := hO.lt j u' b h3 he
      have h4 := hnew u (List.mem_of_getElem? h2) b hb
      omega
    · exact hO'.dj i' j' u u' b (fun e => hij (by rw [e])) h2 h3 hb
  · rcases app_get hu with ⟨hi, h2⟩ | ⟨i', rfl, h2⟩
    · exact Nat.lt_of_lt_of_le (hO.lt i u b h2 hb) hk.size
    · exact hO'.lt i' u b h2 hb
  · rcases app_get hu with ⟨hi, h2⟩ | ⟨i', rfl, h2⟩
    · exact hO.nx i u b h2 hb
    · exact hO'.nx i' u b h2 hb
  · rw [hl0]; simp
  · rw [hl0] at hp
    rw [List.getElem?_append_left (List.getElem?_eq_some_iff.1 hp).1]
    exact hp
  · exact ⟨hk.os, hk.tape, hk.output, hk.size, fun k hk' _ => hkb k hk'⟩
  · rcases List.mem_append.1 hu with hu | hu
    · exact .inl ⟨u, hu, hb⟩
    · exact .inr (hnew u hu b hb)
  · cases out with
    | ret x =>
      obtain ⟨y, rfl, hy⟩ := hout
      rw [← hll]
      exact ⟨y, rfl, VRep.upN lk hp2 hy⟩
    | pan c => cases c <;> exact hout
end Go.Proofs.YtilagaapfbfkkaaGreatDoor.Ab
namespace Go.Proofs.YtilagaapfbfkkaaGreatDoor.Ab
open Go Go.RowKit Go.Proofs.YtilagaapfbfkkaaGreatDoorW.PrintWords
variable {X : Cx} {P : Program}
def setA {α : Type} : List α → Nat → α → List α
  | [], _, v => [v]
  | _ :: l, 0, v => v :: l
  | x :: l, n + 1, v => x :: setA l n v
theorem setA_get {α : Type} : ∀ {l : List α} {i : Nat} {v : α} {k : Nat}, i ≤ l.length → (setA l i v)[k]? = if k = i then some v else l[k]?
  | [], i, v, k, h => by
    obtain rfl : i = 0 := by simpa using h
    cases k <;> simp [setA]
  | x :: l, 0, v, k, h => by cases k <;> simp [setA]
  | x :: l, i + 1, v, k, h => by
    cases k with
    | zero => simp [setA]
    | succ k => simpa [setA] using setA_get (l := l) (i := i) (v := v) (k := k) (by simpa using h)
theorem setA_len {α : Type} : ∀ {l : List α} {i : Nat} {v : α}, l.length ≤ (setA l i v).length
  | [], _, _ => by simp [setA]
  | _ :: l, 0, _ => by simp [setA]
  | _ :: l, i + 1, v => by simpa [setA] using setA_len (l := l) (i := i) (v := v)
theorem setA_len2 {α β : Type} : ∀ {l : List α} {m : List β} {i : Nat} {v : α} {u : β}, l.length = m.length → (setA l i v).length = (setA m i u).length
  | [], [], _, _, _, _ => rfl
  | _ :: _, _ :: _, 0, _, _, h => by simpa [setA] using h
  | _ :: l, _ :: m, i + 1, v, u, h => by simpa [setA] using setA_len2 (l := l) (m := m) (i := i) (v := v) (u := u) (by simpa using h)
  | [], _ :: _, _, _, _, h => by simp at h
  | _ :: _, [], _, _, _, h => by simp at h
inductive Plc where
  | box (b p : Nat) (e : TypeId) (t : Ty)
  | out (p : Nat) (e : TypeId) (t : Ty)
  | mv (i : Nat)
def refs (σ : St) : List Nat := σ.tmps.flatMap V.ids ++ σ.objs.flatMap Ob.ids
def freeI (e : TypeId) (t : Ty) (rs : List Nat) : Nat → List Ob → Nat
  | k, [] => k
  | k, o :: l => match o with
    | .own e' t' _ _ _ => bif Nat.beq e e' && decide (t = t') && !memN k rs then k else freeI e t rs (k + 1) l
    | _ => freeI e t rs (k + 1) l
def cellE : List E → Nat → Option C
  | [], _ => none
  | .one c :: l, p => match p with
    | 0 => some c
    | p + 1 => cellE l p
  | .agg cs :: l, p => match nth cs p with
    | some c => some c
    | none => cellE l (p - len cs)
def V.cellP : V → Nat → Option C
  | .one c, 0 => some c
  | .agg l, p => nth l p
  | .tup l, p => cellE l p
  | _, _ => none
def setE : List E → Nat → C → List E
  | [], _, _ => []
  | .one c :: l, p, v => match p with
    | 0 => .one v :: l
    | p + 1 => .one c :: setE l p v
  | .agg cs :: l, p, v => match nth cs p with
    | some _ => .agg (setL cs p v) :: l
    | none => .agg cs :: setE l (p - len cs) v
def V.setP : V → Nat → C → V
  | .one _, 0, v => .one v
  | .agg l, p, v => .agg (setL l p v)
  | .tup l, p, v => .tup (setE l p v)
  | x, _, _ => x
def lift1 (pl : Plc) (σ : St) (Q : St → Prop) : Prop :=
  match pl with
  | .box b p e t => match nth σ.objs b with
    | some (.box e0 l) => match nth l p with
      | some .nil => litN (freeI e t (refs σ) 0 σ.objs) fun i => St.mkAll ⟨σ.tmps, setA (setL σ.objs b (.box e0 (setL l p (.own i)))) i (.own e t [] true true)⟩ Q
      | _ => Q σ
    | _ => Q σ
  | .out p e t => match σ.tmps with
    | [v] => match v.cellP p with
      | some .nil => litN (freeI e t (refs σ) 0 σ.objs) fun i => St.mkAll ⟨[v.setP p (.own i)], setA σ.objs i (.own e t [] true true)⟩ Q
      | _ => Q σ
    | _ => Q σ
  | .mv i => match nth σ.objs i with
    | some (.own e t xs ap _) => St.mkAll ⟨σ.tmps, setL σ.objs i (.own e t xs ap true)⟩ Q
    | _ => Q σ
def liftS : List Plc → St → (St → Prop) → Prop
  | [], σ, Q => Q σ
  | p :: l, σ, Q => lift1 p σ fun σ' => liftS l σ' Q
def liftP (ps : List Plc) (m : Nat) (K : List Ob → Out → Prop) (os : List Ob) (out : Out) : Prop :=
  match out with
  | .ret v => liftS ps ⟨[v], os⟩ fun σ => gc m [0] σ fun σ2 => match σ2.tmps with
    | [v] => K σ2.objs (.ret v)
    | _ => False
  | .pan c => K os (.pan c)
theorem freeI_le {e : TypeId} {t : Ty} {rs : List Nat} : ∀ {l : List Ob} {k : Nat}, freeI e t rs k l ≤ k + l.length
  | [], k => by simp [freeI]
  | o :: l, k => by
    have ih := freeI_le (e := e) (t := t) (rs := rs) (l := l) (k := k + 1)
    simp only [freeI, List.length_cons]
    split
    · rename_i e' t' xs a m
      cases (Nat.beq e e' && decide (t = t') && !memN k rs) with
      | true => simp only [cond_true]; omega
      | false => simp only [cond_false]; omega
    · omega
theorem freeI_spec {e : TypeId} {t : Ty} {rs : List Nat} : ∀ {l : List Ob} {k i : Nat}, freeI e t rs k l = i → i < k + l.length → i ∉ rs ∧ ∃ e' t' xs a m, l[i - k]? = some (.own e' t' xs a m)
  | [], k, i, h, hi => by simp [freeI] at h hi; omega
  | o :: l, k, i, h, hi => by
    have rec_ : freeI e t rs (k + 1) l = i → i ∉ rs ∧ ∃ e' t' xs a m, (o :: l)[i - k]? = some (.own e' t' xs a m) := fun h => by
      have h2 := freeI_spec (l := l) (k := k + 1) h (by simp only [List.length_cons] at hi; omega)
      have h3 : k + 1 ≤ i := by rw [← h]; exact freeI_ge
      refine ⟨h2.1, ?_⟩
      obtain ⟨e', t', xs, a, m, h4⟩ := h2.2
      exact ⟨e', t', xs, a, m, by rw [show i - k = (i - (k + 1)) + 1 by omega, List.getElem?_cons_succ]; exact h4⟩
    simp only [freeI] at h
    split at h
    · rename_i e' t' xs a m
      cases hc : (Nat.beq e e' && decide (t = t') && !memN k rs) with
      | true =>
        rw [hc] at h
        simp only [cond_true] at h
        subst h
        simp only [Bool.and_eq_true, Bool.not_eq_true'] at hc
        refine ⟨fun hm => ?_, e', t', xs, a, m, by simp⟩
        rw [memN_mem.2 hm] at hc
        exact absurd hc.2 (by simp)
      | false => rw [hc] at h; exact rec_ h
    · exact rec_ h
where
  freeI_ge : ∀ {l : List Ob} {k : Nat}, k ≤ freeI e t rs k l
    | [], k => by simp [freeI]
    | o :: l, k => by
      have ih := freeI_ge (l := l) (k := k + 1)
      simp only [freeI]
      split
      · rename_i e' t' xs a m
        cases (Nat.beq e e' && decide (t = t') && !memN k rs) with
        | true => simp only [cond_true]; omega
        | false => simp only [cond_false]; omega
      · omega
theorem nil_step {M : Nat → Prop} {w0 w : World} {lk : List Value} {σ : St} {a : Act} (hr : Rel X w lk σ a) (hi : Inv X M w0 w lk) {i : Nat} {e : TypeId} {t : Ty} (h : freeI e t (refs σ) 0 σ.objs = i) :
    Rel X w (setA lk i (.slice none 0 0)) ⟨σ.tmps, setA σ.objs i (.own e t [] true true)⟩ a ∧ Inv X M w0 w (setA lk i (.slice none 0 0)) ∧ (setA lk i (.slice none 0 0))[i]? = some (.slice none 0 0) ∧ i ≤ σ.objs.length ∧ (i < σ.objs.length → ∃ e' t' xs a m, σ.objs[i]? = some (.own e' t' xs a m)) := by
  have hle : i ≤ σ.objs.length := by have := freeI_le (e := e) (t := t) (rs := refs σ) (l := σ.objs) (k := 0); omega
  have hlk : i ≤ lk.length := by rw [hr.lsz]; exact hle
  have hsp : i < σ.objs.length → i ∉ refs σ ∧ ∃ e' t' xs a m, σ.objs[i]? = some (.own e' t' xs a m) := fun hlt => by
    have := freeI_spec h (by omega)
    simpa using this
  have hnm : ∀ l : List Nat, (∀ j ∈ l, j ∈ refs σ) → Keeps lk (setA lk i (.slice none 0 0)) l := fun l hl j hj v hv => by
    have hjl : j < lk.length := (List.getElem?_eq_some_iff.1 hv).1
    have hji : j ≠ i := fun e => by
      subst e
      exact (hsp (by rw [← hr.lsz]; exact hjl)).1 (hl j hj)
    rw [setA_get hlk, if_neg hji]; exact hv
  have hsub : ∀ v ∈ setA lk i (.slice none 0 0), ∀ b, blk v = some b → v ∈ lk := fun v hv b hb => by
    obtain ⟨k, hk⟩ := List.mem_iff_getElem?.1 hv
    rw [setA_get hlk] at hk
    split at hk
    · simp at hk; subst hk; cases hb
    · exact List.mem_of_getElem? hk
  have hgo : Goes w (Imm X w lk) w (Imm X w (setA lk i (.slice none 0 0))) := fun b hb => ⟨rfl, hb.1, fun v hv he => hb.2.1 v (hsub v hv b he) he, hb.2.2⟩
  refine ⟨ORel.toR ⟨setA_len2 hr.lsz, fun k o v ho hk => ?_, fun k j v v' b hkj hk hj hb he => ?_, fun k v b hk hb => ?_, fun k v b hk hb => ?_, Nat.le_trans hr.ll setA_len, fun p v0 o hp ho hko => ?_⟩ hr.tsz (fun s x hx => ?_) hr.df, ⟨hi.keep, fun v hv b hb => hi.news v (hsub v hv b hb) b hb, hi.xl, hi.xm, hi.gr⟩, by rw [setA_get hlk, if_pos rfl], hle, fun hlt => (hsp hlt).2⟩
  · rw [setA_get hle] at ho
    rw [setA_get hlk] at hk
    split at ho
    · rename_i hki
      rw [if_pos hki] at hk
      simp at ho hk
      subst ho hk
      exact ⟨[], ⟨by simp, fun j p hp => by simp at hp⟩, .inl ⟨rfl, rfl⟩⟩
    · rename_i hki
      rw [if_neg hki] at hk
      exact ORep.goes hgo (hnm _ fun j hj => List.mem_append.2 (.inr (List.mem_flatMap.2 ⟨o, List.mem_of_getElem? ho, hj⟩))) (fun _ _ => rfl) (hr.ob k o v ho hk)
  · rw [setA_get hlk] at hk hj
    split at hk
    · simp at hk; subst hk; cases hb
    · split at hj
      · simp at hj; subst hj; cases he
      · exact hr.dj k j v v' b hkj hk hj hb he
  · rw [setA_get hlk] at hk
    split at hk
    · simp at hk; subst hk; cases hb
    · exact hr.lt k v b hk hb
  · rw [setA_get hlk] at hk
    split at hk
    · simp at hk; subst hk; cases hb
    · exact hr.nx k v b hk hb
  · rw [setA_get hle] at ho
    rw [setA_get hlk]
    split at ho
    · simp at ho; subst ho; cases hko
    · rename_i hpi
      rw [if_neg hpi]; exact hr.kp p v0 o hp ho hko
  · exact VRep.goes hgo (hnm _ fun j hj => List.mem_append.2 (.inl (List.mem_flatMap.2 ⟨x, List.mem_of_getElem? hx, hj⟩))) (hr.tm s x hx)
theorem nil_own {w : World} {I : Nat → Prop} {lk : List Value} {i : Nat} {v : Value} (hi : lk[i]? = some (.slice none 0 0)) (h : CRep w I lk .nil v) : CRep w I lk (.own i) v := by
  have : v = .slice none 0 0 := h
  subst this
  exact ⟨hi, none, 0, 0, rfl⟩
theorem nil_cells {w : World} {I : Nat → Prop} {lk : List Value} {i : Nat} (hi : lk[i]? = some (.slice none 0 0)) : ∀ {l : List C} {us : List Value} {p : Nat}, l[p]? = some .nil → All2 (Cel w I lk) l us → All2 (Cel w I lk) (setL l p (.own i)) us
  | c :: l, u :: us, 0, hp, h => by
    simp at hp; subst hp
    exact ⟨⟨nil_own (w := w) (I := I) hi h.1.1, h.1.2⟩, h.2⟩
  | c :: l, u :: us, p + 1, hp, h => ⟨h.1, nil_cells hi (p := p) (by simpa using hp) h.2⟩
  | [], _, p, hp, _ => by simp at hp
  | _ :: _, [], _, _, h => h.elim
theorem nil_Es {w : World} {I : Nat → Prop} {lk : List Value} {i : Nat} (hi : lk[i]? = some (.slice none 0 0)) : ∀ {l : List E} {us : List Value} {p : Nat}, cellE l p = some .nil → All2 (ERep w I lk) l us → All2 (ERep w I lk) (setE l p (.own i)) us
  | [], _, p, hp, _ => by simp [cellE] at hp
  | _ :: _, [], _, _, h => h.elim
  | .one c :: l, u :: us, 0, hp, h => by
    simp [cellE] at hp; subst hp
    exact ⟨nil_own (w := w) (I := I) hi h.1, h.2⟩
  | .one c :: l, u :: us, p + 1, hp, h => ⟨h.1, nil_Es hi (p := p) (by simpa [cellE] using hp) h.2⟩
  | .agg cs :: l, u :: us, p, hp, h => by
    simp only [cellE] at hp
    simp only [setE]
    cases hn : nth cs p with
    | some c =>
      rw [hn] at hp
      simp at hp; subst hp
      obtain ⟨vs, rfl, ha⟩ := h.1
      exact ⟨⟨vs, rfl, nil_cells hi (by rw [← nth_get]; exact hn) ha⟩, h.2⟩
    | none =>
      rw [hn] at hp
      exact ⟨h.1, nil_Es hi hp h.2⟩
theorem nil_V {w : World} {I : Nat → Prop} {lk : List Value} {i : Nat} (hi : lk[i]? = some (.slice none 0 0)) {x : V} {u : Value} {p : Nat} (hp : x.cellP p = some .nil) (h : VRep w I lk x u) : VRep w I lk (x.setP p (.own i)) u := by
  cases x with
  | one c =>
    cases p with
    | zero => simp [V.cellP] at hp; subst hp; exact nil_own (w := w) (I := I) hi h
    | succ p => simp [V.cellP] at hp
  | agg l =>
    obtain ⟨vs, rfl, ha⟩ := h
    exact ⟨vs, rfl, nil_cells hi (by rw [← nth_get]; exact hp) ha⟩
  | tup l =>
    obtain ⟨vs, rfl, ha⟩ := h
    exact ⟨vs, rfl, nil_Es hi hp ha⟩
  | wh g c => simp [V.cellP] at hp
theorem lift1_sound {M : Nat → Prop} {w0 w : World} {lk : List Value} {σ : St} {a : Act} {pl : Plc} {Q : St → Prop} (h : lift1 pl σ Q) (hr : Rel X w lk σ a) (hi : Inv X M w0 w lk) :
    ∃ σ' lk', Q σ' ∧ Rel X w lk' σ' a ∧ Inv X M w0 w lk' := by
  unfold lift1 at h
  split at h
  · rename_i b p e t
    split at h
    · rename_i e0 l hb
      split at h
      · rename_i hl
        rw [litN_iff, St.mkAll_iff] at h
        rw [nth_get] at hb hl
        generalize hfi : freeI e t (refs σ) 0 σ.objs = i at h
        obtain ⟨hr1, hi1, hlki, hle, hown⟩ := nil_step hr hi hfi
        have hbi : b ≠ i := fun e => by
          subst e
          obtain ⟨e', t', xs, a, m, h2⟩ := hown (List.getElem?_eq_some_iff.1 hb).1
          rw [hb] at h2; cases h2
        have hlen : (setL σ.objs b (.box e0 (setL l p (.own i)))).length = σ.objs.length := by rw [setL_eq, List.length_set]
        have hlk : i ≤ lk.length := by rw [hr.lsz]; exact hle
        refine ⟨_, _, h, ORel.toR ⟨?_, fun k o v ho hk => ?_, hr1.dj, hr1.lt, hr1.nx, hr1.ll, fun q v0 o hq ho hko => ?_⟩ hr1.tsz (fun s x hx => hr1.tm s x hx) hr1.df, hi1⟩
        · exact setA_len2 (hr.lsz.trans hlen.symm)
        · rw [setA_get (by rw [hlen]; exact hle)] at ho
          by_cases hki : k = i
          · rw [if_pos hki] at ho
            exact hr1.ob k o v (by rw [setA_get hle, if_pos hki]; exact ho) hk
          · rw [if_neg hki, setL_eq, List.getElem?_set] at ho
            split at ho
            · rename_i hbk
              subst hbk
              split at ho
              · simp at ho; subst ho
                have h1 := hr1.ob b (.box e0 l) v (by rw [setA_get hle, if_neg hki]; exact hb) hk
                obtain ⟨b', cur, rfl, hh, ha⟩ := h1
                exact ⟨b', cur, rfl, hh, nil_cells hlki hl ha⟩
              · simp at ho
            · exact hr1.ob k o v (by rw [setA_get hle, if_neg hki]; exact ho) hk
        · rw [setA_get (by rw [hlen]; exact hle)] at ho
          by_cases hki : q = i
          · rw [if_pos hki] at ho
            exact hr1.kp q v0 o hq (by rw [setA_get hle, if_pos hki]; exact ho) hko
          · rw [if_neg hki, setL_eq, List.getElem?_set] at ho
            split at ho
            · rename_i hbk
              subst hbk
              exact hr1.kp b v0 (.box e0 l) hq (by rw [setA_get hle, if_neg hki]; exact hb) rfl
            · exact hr1.kp q v0 o hq (by rw [setA_get hle, if_neg hki]; exact ho) hko
      · exact ⟨σ, lk, h, hr, hi⟩
    · exact ⟨σ, lk, h, hr, hi⟩
  · rename_i p e t
    split at h
    · rename_i v hv
      split at h
      · rename_i hl
        rw [litN_iff, St.mkAll_iff] at h
        generalize hfi : freeI e t (refs σ) 0 σ.objs = i at h
        obtain ⟨hr1, hi1, hlki, hle, hown⟩ := nil_step hr hi hfi
        refine ⟨_, _, h, ORel.toR hr1.toO (by have := hr1.tsz; simp only [hv] at this; exact this) (fun s x hx => ?_) hr1.df, hi1⟩
        cases s with
        | zero =>
          simp at hx; subst hx
          exact nil_V hlki hl (hr1.tm 0 v (by simp only [hv]; rfl))
        | succ s => simp at hx
      · exact ⟨σ, lk, h, hr, hi⟩
    · exact ⟨σ, lk, h, hr, hi⟩
  · rename_i i
    split at h
    · rename_i e t xs ap m hb
      rw [St.mkAll_iff] at h
      rw [nth_get] at hb
      have hne : ∀ {k : Nat} {o : Ob}, (setL σ.objs i (.own e t xs ap true))[k]? = some o → (k = i ∧ o = .own e t xs ap true) ∨ (k ≠ i ∧ σ.objs[k]? = some o) := fun {k o} ho => by
        rw [setL_eq, List.getElem?_set] at ho
        split at ho
        · rename_i hik
          split at ho
          · simp at ho; exact .inl ⟨hik.symm, ho.symm⟩
          · simp at ho
        · rename_i hik; exact .inr ⟨fun e => hik e.symm, ho⟩
      refine ⟨_, lk, h, ORel.toR ⟨?_, fun k o v ho hk => ?_, hr.dj, hr.lt, hr.nx, hr.ll, fun q v0 o hq ho hko => ?_⟩ hr.tsz hr.tm hr.df, hi⟩
      · rw [setL_eq, List.length_set]; exact hr.lsz
      · rcases hne ho with ⟨rfl, rfl⟩ | ⟨_, ho⟩
        · exact hr.ob k (.own e t xs ap m) v hb hk
        · exact hr.ob k o v ho hk
      · rcases hne ho with ⟨rfl, rfl⟩ | ⟨_, ho⟩
        · cases hko
        · exact hr.kp q v0 o hq ho hko
    · exact ⟨σ, lk, h, hr, hi⟩
theorem liftS_sound {M : Nat → Prop} {w0 w : World} {a : Act} : ∀ {ps : List Plc} {σ : St} {lk : List Value} {Q : St → Prop}, liftS ps σ Q → Rel X w lk σ a → Inv X M w0 w lk → ∃ σ' lk', Q σ' ∧ Rel X w lk' σ' a ∧ Inv X M w0 w lk'
  | [], σ, lk, _, h, hr, hi => ⟨σ, lk, h, hr, hi⟩
  | p :: ps, σ, lk, _, h, hr, hi => by
    obtain ⟨σ1, lk1, h1, hr1, hi1⟩ := lift1_sound h hr hi
    exact liftS_sound h1 hr1 hi1
theorem SenseOK.lift {G : World → Prop} {f : FuncId} (ps : List Plc) {s s0 : Sense} (h : SenseOK G P f s0) (hro : s.ro = s0.ro) (hf : ∀ os xs K, s.f os xs K → s0.f os xs (liftP ps (len os) K)) : SenseOK G P f s := by
  refine SenseOK.mk fun X w lk os as_ vs K hdf hO hl0 hX hXG hgr has hs => ?_
  have hml : X.l0.length = len os := by rw [hl0, len_length, hO.lsz]
  refine (h X w lk os as_ vs _ hO hl0 hX hXG hgr has (hf _ _ _ hs)).mono ?_
  rw [hro]
  rintro e w' ⟨os', lk', out, hK, hO', hk, hn, hout⟩
  cases out with
  | pan c => exact ⟨os', lk', .pan c, hK, hO', hk, hn, hout⟩
  | ret v =>
    obtain ⟨u, rfl, hv⟩ := hout
    have hi : Inv X (fun b => ∃ v ∈ lk, blk v = some b) w w' lk' := ⟨⟨hk.os, hk.tape, hk.output, hk.size, fun k hk1 hk2 => hk.block k hk1 fun h => hk2 h.2⟩, hn, hX, fun b hb ⟨v, hv, hvb⟩ => by
      obtain ⟨i, hi⟩ := List.mem_iff_getElem?.1 hv
      exact hO.nx i v b hi hvb hb, hgr⟩
    have hr : Rel X w' lk' ⟨[v], os'⟩ { tmps := #[u], defers := [] } := ORel.toR hO' rfl (fun t x hx => by
      cases t with
      | zero => simp at hx; subst hx; exact hv
      | succ t => simp at hx) hdf.symm
    obtain ⟨σ1, lk1, h1, hr1, hi1⟩ := liftS_sound hK hr hi
    obtain ⟨σ2, lk2, h2, hr2, hi2⟩ := gc_sound h1 hr1 hi1 hml
    obtain ⟨ts, os2⟩ := σ2
    match ts, h2, hr2 with
    | [x], h2, hr2 => exact ⟨os2, lk2, .ret x, h2, hr2.toO, hk, hi2.news, u, rfl, hr2.tm 0 x rfl⟩
    | [], h2, _ => exact h2.elim
    | _ :: _ :: _, h2, _ => exact h2.elim
end Go.Proofs.YtilagaapfbfkkaaGreatDoor.Ab
namespace Go.Proofs.YtilagaapfbfkkaaGreatDoor.Ab
open Go Go.RowKit Go.Proofs.YtilagaapfbfkkaaGreatDoorW.PrintWords
set_option maxRecDepth 100000
variable {G : World → Prop}
theorem SenseOK.anyL {Γ : Sems} (hΓ : SemsOK G Tryz.prog Γ) {f : FuncId} {fn : Func} (L : Nat → List Nat) (ps : List Plc) {s : List Ob → List V → (List Ob → Out → Prop) → Prop} (hf : Tryz.prog.funcs[f]? = some fn)
    (h : ∀ os xs K, s os xs K → evFn TT Γ L fn os xs (liftP ps (len os) K)) : SenseOK G Tryz.prog f ⟨false, s⟩ :=
  SenseOK.lift ps (SenseOK.any hΓ L hf (s := fun os xs K => evFn TT Γ L fn os xs K) fun _ _ _ h => h) rfl h
abbrev IT : Ty := .int .i64
abbrev ST : Ty := .str
theorem seq_eq (a b : ByteArray) : (a.toList == b.toList) = decide (a = b) := by
  rw [Bool.eq_iff_iff, decide_eq_true_eq, beq_iff_eq]
  constructor
  · intro h
    apply ByteArray.ext
    apply Array.toList_inj.1
    rw [← ByteArray.toList_eq, ← ByteArray.toList_eq]
    exact h
  · intro h; rw [h]
def q23 : Sense := ⟨false, fun os xs K => ∃ a b : List Int, xs = [.one (.sl IT a), .one (.sl IT b)] ∧ os = [] ∧ a.length ≤ big ∧ b.length ≤ big ∧ K [] (.ret (.one (.bool (decide (a = b)))))⟩
theorem qk23 : SenseOK G Tryz.prog 23 q23 := SenseOK.any Γ0.ok (fun _ => [0, 1, 5]) Tryz.func23 fun os xs K h => by
  obtain ⟨a, b, rfl, rfl, hab, hbb, hk⟩ := h
  simp only [big] at hab hbb
  by_cases h0 : a.length = b.length
  case neg =>
    have hne : decide (a = b) = false := decide_eq_false fun h => h0 (by rw [h])
    rw [hne] at hk
    have f0 : ((a.length : Int) != b.length) = true := by simp; omega
    refine zs1 f0 ?_
    exact hk
  have f0 : ((a.length : Int) != b.length) = false := by simp; omega
  refine zs1 f0 ?_
  refine iter_of (I := fun k σ => ∃ (j : Nat), k = a.length - j ∧ j ≤ a.length ∧ (a.take j).map id = (b.take j).map id ∧ σ = ⟨slots 26 [(0, .one (.sl IT a)), (1, .one (.sl IT b)), (5, .one (.int .i64 j))], []⟩) ?_ a.length ⟨0, by omega, by omega, by simp, rfl⟩
  rintro k σ K' ⟨j, rfl, hj, hall, rfl⟩ hK'
  by_cases h1 : j < a.length
  case neg =>
    have f1 : decide ((j : Int) < a.length) = false := by simp; omega
    obtain rfl : j = a.length := by omega
    rw [List.take_length, List.take_of_length_le (by omega), List.map_id, List.map_id] at hall
    have hd0 : decide (a = b) = true := decide_eq_true hall
    rw [hd0] at hk
    refine zs1 f1 ?_
    exact hk
  have f1 : decide ((j : Int) < a.length) = true := by simpa using h1
  obtain ⟨x, hx⟩ : ∃ x, a[j]? = some x := ⟨_, List.getElem?_eq_getElem h1⟩
  obtain ⟨y, hy⟩ : ∃ y, b[j]? = some y := ⟨_, List.getElem?_eq_getElem (by omega)⟩
  have rx := nth_of hx (IT).dflt
  have ry := nth_of hy (IT).dflt
  have w1 := IntWalk.i64_in (↑j + 1) (by omega)
  refine zs1 f1 ?_
  refine ⟨[], .take 0 (.take 1 (.take 2 (.take 3 (.take 4 (.take 5 (.take 6 (.take 7 (.take 8 .done)))))))), ⟨by kernel_rfl⟩, ?_⟩
  refine zv ?_
  rw [rx, ry]
  by_cases hxy : x = y
  · have e1 : (x != y) = false := by simpa using hxy
    refine zs2 e1 w1 ?_
    exact hK' _ _ (by omega) ⟨j + 1, rfl, by omega, eq_step hx hy hall (by rw [hxy]), rfl⟩
  · have e1 : (x != y) = true := by simpa using hxy
    have hne : decide (a = b) = false := by simpa using ne_step (f := id) hx hy hxy
    rw [hne] at hk
    refine zs1 e1 ?_
    exact hk
def q121 : Sense := ⟨false, fun os xs K => ∃ a b : List ByteArray, xs = [.one (.sl ST a), .one (.sl ST b)] ∧ os = [] ∧ a.length ≤ big ∧ b.length ≤ big ∧ K [] (.ret (.one (.bool (decide (a = b)))))⟩
theorem qk121 : SenseOK G Tryz.prog 121 q121 := SenseOK.any Γ0.ok (fun _ => [0, 1, 5]) Tryz.func121 fun os xs K h => by
  obtain ⟨a, b, rfl, rfl, hab, hbb, hk⟩ := h
  simp only [big] at hab hbb
  by_cases h0 : a.length = b.length
  case neg =>
    have hne : decide (a = b) = false := decide_eq_false fun h => h0 (by rw [h])
    rw [hne] at hk
    have f0 : ((a.length : Int) != b.length) = true := by simp; omega
    refine zs1 f0 ?_
    exact hk
  have f0 : ((a.length : Int) != b.length) = false := by simp; omega
  refine zs1 f0 ?_
  refine iter_of (I := fun k σ => ∃ (j : Nat), k = a.length - j ∧ j ≤ a.length ∧ (a.take j).map id = (b.take j).map id ∧ σ = ⟨slots 26 [(0, .one (.sl ST a)), (1, .one (.sl ST b)), (5, .one (.int .i64 j))], []⟩) ?_ a.length ⟨0, by omega, by omega, by simp, rfl⟩
  rintro k σ K' ⟨j, rfl, hj, hall, rfl⟩ hK'
  by_cases h1 : j < a.length
  case neg =>
    have f1 : decide ((j : Int) < a.length) = false := by simp; omega
    obtain rfl : j = a.length := by omega
    rw [List.take_length, List.take_of_length_le (by omega), List.map_id, List.map_id] at hall
    have hd0 : decide (a = b) = true := decide_eq_true hall
    rw [hd0] at hk
    refine zs1 f1 ?_
    exact hk
  have f1 : decide ((j : Int) < a.length) = true := by simpa using h1
  obtain ⟨x, hx⟩ : ∃ x, a[j]? = some x := ⟨_, List.getElem?_eq_getElem h1⟩
  obtain ⟨y, hy⟩ : ∃ y, b[j]? = some y := ⟨_, List.getElem?_eq_getElem (by omega)⟩
  have rx := nth_of hx (ST).dflt
  have ry := nth_of hy (ST).dflt
  have w1 := IntWalk.i64_in (↑j + 1) (by omega)
  refine zs1 f1 ?_
  refine ⟨[], .take 0 (.take 1 (.take 2 (.take 3 (.take 4 (.take 5 (.take 6 (.take 7 (.take 8 .done)))))))), ⟨by kernel_rfl⟩, ?_⟩
  refine zv ?_
  rw [rx, ry]
  by_cases hxy : x = y
  · have e1 : (!(x.toList == y.toList)) = false := by rw [seq_eq, decide_eq_true hxy]; rfl
    refine zs2 e1 w1 ?_
    exact hK' _ _ (by omega) ⟨j + 1, rfl, by omega, eq_step hx hy hall (by rw [hxy]), rfl⟩
  · have e1 : (!(x.toList == y.toList)) = true := by rw [seq_eq, decide_eq_false hxy]; rfl
    have hne : decide (a = b) = false := by simpa using ne_step (f := id) hx hy hxy
    rw [hne] at hk
    refine zs1 e1 ?_
    exact hk
def q116 : Sense := ⟨false, fun os xs K => ∃ a : List Int, xs = [.one (.sl IT a)] ∧ os = [] ∧ a.length ≤ big ∧ ∀ mv, K [.own 3 IT a true mv] (.ret (.one (.own 0)))⟩
theorem qk116 : SenseOK G Tryz.prog 116 q116 := SenseOK.anyL Γ0.ok (fun _ => [0, 3, 4]) [.out 0 3 IT] Tryz.func116 fun os xs K h => by
  obtain ⟨a, rfl, rfl, hab, hk⟩ := h
  simp only [big] at hab
  by_cases hz : a = []
  · subst hz
    refine zv ?_
    refine ⟨1, ?_⟩
    refine zv ?_
    exact hk _
  refine zv ?_
  refine iter_of (I := fun k σ => ∃ (j : Nat) (mv : Bool), k = a.length - j ∧ j ≤ a.length ∧
    ((j = 0 ∧ σ = ⟨slots 19 [(0, .one (.sl IT a)), (3, .one .nil), (4, .one (.int .i64 j))], []⟩) ∨
     (j ≠ 0 ∧ σ = ⟨slots 19 [(0, .one (.sl IT a)), (3, .one (.own 0)), (4, .one (.int .i64 j))], [.own 3 IT (a.take j) true mv]⟩))) ?_ a.length ⟨0, false, by omega, by omega, .inl ⟨rfl, rfl⟩⟩
  rintro k σ K' ⟨j, mv, rfl, hj, hσ⟩ hK'
  have w1 := IntWalk.i64_in (↑j + 1) (by omega)
  by_cases h1 : j < a.length
  case neg =>
    have f1 : decide ((j : Int) < a.length) = false := by simp; omega
    obtain rfl : j = a.length := by omega
    have hne : a.length ≠ 0 := fun h => hz (List.length_eq_zero_iff.1 h)
    rcases hσ with ⟨h, _⟩ | ⟨_, rfl⟩
    · exact absurd h hne
    · rw [List.take_length]
      refine zs1 f1 ?_
      exact hk mv
  have f1 : decide ((j : Int) < a.length) = true := by simpa using h1
  obtain ⟨x, hx⟩ : ∃ x, a[j]? = some x := ⟨_, List.getElem?_eq_getElem h1⟩
  have rx := nth_of hx (IT).dflt
  have ht : a.take (j + 1) = a.take j ++ [x] := by rw [List.take_add_one, hx]; rfl
  have htl : (a.take j).length = j := by rw [List.length_take]; omega
  rcases hσ with ⟨rfl, rfl⟩ | ⟨hj0, rfl⟩
  · refine zs3 f1 rx w1 ?_
    refine hK' _ _ (by omega) ⟨1, false, rfl, by omega, .inr ⟨by omega, ?_⟩⟩
    rw [ht]
    rfl
  · refine zs4 f1 rx htl w1 ?_
    refine hK' _ _ (by omega) ⟨j + 1, true, rfl, by omega, .inr ⟨by omega, ?_⟩⟩
    rw [ht]
    rfl
def q117 : Sense := ⟨false, fun os xs K => ∃ a : List ByteArray, xs = [.one (.sl ST a)] ∧ os = [] ∧ a.length ≤ big ∧ ∀ mv, K [.own 9 ST a true mv] (.ret (.one (.own 0)))⟩
theorem qk117 : SenseOK G Tryz.prog 117 q117 := SenseOK.anyL Γ0.ok (fun _ => [0, 3, 4]) [.out 0 9 ST] Tryz.func117 fun os xs K h => by
  obtain ⟨a, rfl, rfl, hab, hk⟩ := h
  simp only [big] at hab
  by_cases hz : a = []
  · subst hz
    refine zv ?_
    refine ⟨1, ?_⟩
    refine zv ?_
    exact hk _
  refine zv ?_
  refine iter_of (I := fun k σ => ∃ (j : Nat) (mv : Bool), k = a.length - j ∧ j ≤ a.length ∧
    ((j = 0 ∧ σ = ⟨slots 19 [(0, .one (.sl ST a)), (3, .one .nil), (4, .one (.int .i64 j))], []⟩) ∨
     (j ≠ 0 ∧ σ = ⟨slots 19 [(0, .one (.sl ST a)), (3, .one (.own 0)), (4, .one (.int .i64 j))], [.own 9 ST (a.take j) true mv]⟩))) ?_ a.length ⟨0, false, by omega, by omega, .inl ⟨rfl, rfl⟩⟩
  rintro k σ K' ⟨j, mv, rfl, hj, hσ⟩ hK'
  have w1 := IntWalk.i64_in (↑j + 1) (by omega)
  by_cases h1 : j < a.length
  case neg =>
    have f1 : decide ((j : Int) < a.length) = false := by simp; omega
    obtain rfl : j = a.length := by omega
    have hne : a.length ≠ 0 := fun h => hz (List.length_eq_zero_iff.1 h)
    rcases hσ with ⟨h, _⟩ | ⟨_, rfl⟩
    · exact absurd h hne
    · rw [List.take_length]
      refine zs1 f1 ?_
      exact hk mv
  have f1 : decide ((j : Int) < a.length) = true := by simpa using h1
  obtain ⟨x, hx⟩ : ∃ x, a[j]? = some x := ⟨_, List.getElem?_eq_getElem h1⟩
  have rx := nth_of hx (ST).dflt
  have ht : a.take (j + 1) = a.take j ++ [x] := by rw [List.take_add_one, hx]; rfl
  have htl : (a.take j).length = j := by rw [List.length_take]; omega
  rcases hσ with ⟨rfl, rfl⟩ | ⟨hj0, rfl⟩
  · refine zs3 f1 rx w1 ?_
    refine hK' _ _ (by omega) ⟨1, false, rfl, by omega, .inr ⟨by omega, ?_⟩⟩
    rw [ht]
    rfl
  · refine zs4 f1 rx htl w1 ?_
    refine hK' _ _ (by omega) ⟨j + 1, true, rfl, by omega, .inr ⟨by omega, ?_⟩⟩
    rw [ht]
    rfl
def q38 : Sense := ⟨false, fun os xs K => ∃ a : List Int, xs = [.one (.sl IT a)] ∧ os = [] ∧ a.length ≤ big ∧ ∀ mv, K [.own 3 IT a true mv] (.ret (.one (.own 0)))⟩
theorem qk38 : SenseOK G Tryz.prog 38 q38 := SenseOK.anyL Γ0.ok (fun _ => []) [.out 0 3 IT] Tryz.func38 fun os xs K h => by
  obtain ⟨a, rfl, rfl, hb, hk⟩ := h
  simp only [big] at hb
  have b0 : ((([] : List Int).length + a.length) * 16) ≤ 140737488355328 := by simp; omega
  have b1 : ((([] : List Int).length + a.length) * 8) ≤ 140737488355328 := by simp; omega
  cases a with
  | nil =>
    refine zv ?_
    refine Both.mk ?_ ?_
    · refine zv ?_
      exact hk _
    · refine zv ?_
      exact hk _
  | cons x a =>
    refine zv ?_
    exact hk _
def q62 : Sense := ⟨false, fun os xs K => ∃ a : List ByteArray, xs = [.one (.sl ST a)] ∧ os = [] ∧ a.length ≤ big ∧ ∀ mv, K [.own 9 ST a true mv] (.ret (.one (.own 0)))⟩
theorem qk62 : SenseOK G Tryz.prog 62 q62 := SenseOK.anyL Γ0.ok (fun _ => []) [.out 0 9 ST] Tryz.func62 fun os xs K h => by
  obtain ⟨a, rfl, rfl, hb, hk⟩ := h
  simp only [big] at hb
  have b0 : ((([] : List ByteArray).length + a.length) * 16) ≤ 140737488355328 := by simp; omega
  have b1 : ((([] : List ByteArray).length + a.length) * 8) ≤ 140737488355328 := by simp; omega
  cases a with
  | nil =>
    refine zv ?_
    refine Both.mk ?_ ?_
    · refine zv ?_
      exact hk _
    · refine zv ?_
      exact hk _
  | cons x a =>
    refine zv ?_
    exact hk _
def q74 : Sense := ⟨false, fun os xs K => ∃ (a : List Int) (ap : Bool), xs = [.one (.own 0)] ∧ os = [.own 3 IT a true false] ∧ a.length ≤ big ∧ ∀ b, K [.own 3 IT b true true] (.ret (.tup []))⟩
theorem qk74 : SenseOK G Tryz.prog 74 q74 := SenseOK.any Γ0.ok (fun _ => [0, 2]) Tryz.func74 fun os xs K h => by
  obtain ⟨a, ap, rfl, rfl, hab, hk⟩ := h
  simp only [big] at hab
  refine zv ?_
  refine iter_of (I := fun k σ => ∃ (j : Nat) (b : List Int), k = a.length - j ∧ j ≤ a.length ∧ b.length = a.length ∧ σ = ⟨slots 15 [(0, .one (.own 0)), (2, .one (.int .i64 j))], [.own 3 IT b true false]⟩) ?_ a.length ⟨0, a, by omega, by omega, rfl, rfl⟩
  rintro k σ K' ⟨j, b, rfl, hj, hb, rfl⟩ hK'
  have w1 := IntWalk.i64_in (↑j + 1) (by omega)
  by_cases h1 : j < b.length
  case neg =>
    have f1 : decide ((j : Int) < b.length) = false := by simp; omega
    have hb2 : (b.length + [(5 : Int)].length) * 16 ≤ 140737488355328 := by simp; omega
    have hb3 : (b.length + [(5 : Int)].length) * 8 ≤ 140737488355328 := by simp; omega
    refine zs1 f1 ?_
    exact hk _
  have f1 : decide ((j : Int) < b.length) = true := by simpa using h1
  have hh : (0 : Int) ≤ j ∧ (j : Int) < b.length := ⟨by omega, by omega⟩
  refine zs2 f1 w1 ?_
  exact hK' _ _ (by omega) ⟨j + 1, _, rfl, by omega, by rw [List.length_set]; exact hb, rfl⟩
def q126 : Sense := ⟨false, fun os xs K => ∃ (a : List ByteArray) (ap : Bool), xs = [.one (.own 0)] ∧ os = [.own 9 ST a true false] ∧ a.length ≤ big ∧ ∀ b, K [.own 9 ST b true true] (.ret (.tup []))⟩
theorem qk126 : SenseOK G Tryz.prog 126 q126 := SenseOK.any Γ0.ok (fun _ => [0, 2]) Tryz.func126 fun os xs K h => by
  obtain ⟨a, ap, rfl, rfl, hab, hk⟩ := h
  simp only [big] at hab
  refine zv ?_
  refine iter_of (I := fun k σ => ∃ (j : Nat) (b : List ByteArray), k = a.length - j ∧ j ≤ a.length ∧ b.length = a.length ∧ σ = ⟨slots 15 [(0, .one (.own 0)), (2, .one (.int .i64 j))], [.own 9 ST b true false]⟩) ?_ a.length ⟨0, a, by omega, by omega, rfl, rfl⟩
  rintro k σ K' ⟨j, b, rfl, hj, hb, rfl⟩ hK'
  have w1 := IntWalk.i64_in (↑j + 1) (by omega)
  by_cases h1 : j < b.length
  case neg =>
    have f1 : decide ((j : Int) < b.length) = false := by simp; omega
    have hb2 : (b.length + [(⟨#[63]⟩ : ByteArray)].length) * 16 ≤ 140737488355328 := by simp; omega
    have hb3 : (b.length + [(⟨#[63]⟩ : ByteArray)].length) * 8 ≤ 140737488355328 := by simp; omega
    refine zs1 f1 ?_
    exact hk _
  have f1 : decide ((j : Int) < b.length) = true := by simpa using h1
  have hh : (0 : Int) ≤ j ∧ (j : Int) < b.length := ⟨by omega, by omega⟩
  refine zs2 f1 w1 ?_
  exact hK' _ _ (by omega) ⟨j + 1, _, rfl, by omega, by rw [List.length_set]; exact hb, rfl⟩
structure Sd where
  (id jm jt : Int) (dom : ByteArray) (rc : List Int) (lm : Bool) (st at_ : Int) (tk cd : List Int) (wt : Int) (rest : ByteArray) (skip : Bool) (ln : List ByteArray)
  deriving DecidableEq
def Sd.cs (s : Sd) (r t c l : C) : List C := [.int .i64 s.id, .int .i64 s.jm, .int .i64 s.jt, .str s.dom, r, .bool s.lm, .int .i64 s.st, .int .i64 s.at_, t, c, .int .i64 s.wt, .str s.rest, .bool s.skip, l]
abbrev Sd.fz (s : Sd) : List C := s.cs (.sl IT s.rc) (.sl IT s.tk) (.sl IT s.cd) (.sl ST s.ln)
abbrev Sd.ow (s : Sd) (k : Nat) : List C := s.cs (.own k) (.own (k + 1)) (.own (k + 2)) (.own (k + 3))
def Sd.sml (s : Sd) : Prop := s.rc.length ≤ big ∧ s.tk.length ≤ big ∧ s.cd.length ≤ big ∧ s.ln.length ≤ big
structure Jb where
  (m t : Int) (dom : ByteArray) (rc : List Int)
  deriving DecidableEq
def Jb.cs (j : Jb) (r : C) : List C := [.int .i64 j.m, .int .i64 j.t, .str j.dom, r]
abbrev Jb.fz (j : Jb) : List C := j.cs (.sl IT j.rc)
def Sd.jb (s : Sd) : Jb := ⟨s.jm, s.jt, s.dom, s.rc⟩
def Γ79q : Sems := ext 116 q116 (Γ0)
theorem Γ79q.ok : SemsOK G Tryz.prog Γ79q := (Γ0.ok.ext Tryz.func116 rfl (by decide) qk116)
def q79 : Sense := ⟨false, fun os xs K => ∃ j : Jb, xs = [.agg j.fz] ∧ os = [] ∧ j.rc.length ≤ big ∧ ∀ mv, K [.own 3 IT j.rc true mv] (.ret (.agg (j.cs (.own 0))))⟩
theorem qk79 : SenseOK G Tryz.prog 79 q79 := SenseOK.any Γ79q.ok (fun _ => []) Tryz.func79 fun os xs K h => by
  obtain ⟨j, rfl, rfl, hl, hk⟩ := h
  refine zs0 ?_
  intro mv
  refine zs0 ?_
  exact hk _
def Γ69q : Sems := ext 117 q117 (ext 116 q116 (ext 79 q79 (Γ0)))
theorem Γ69q.ok : SemsOK G Tryz.prog Γ69q := (((Γ0.ok.ext Tryz.func79 rfl (by decide) qk79).ext Tryz.func116 rfl (by decide) qk116).ext Tryz.func117 rfl (by decide) qk117)
def Γ120q : Sems := ext 23 q23 (Γ0)
theorem Γ120q.ok : SemsOK G Tryz.prog Γ120q := (Γ0.ok.ext Tryz.func23 rfl (by decide) qk23)
def q120 : Sense := ⟨false, fun os xs K => ∃ a b : Jb, xs = [.agg a.fz, .agg b.fz] ∧ os = [] ∧ a.rc.length ≤ big ∧ b.rc.length ≤ big ∧ K [] (.ret (.one (.bool (decide (a = b)))))⟩
theorem qk120 : SenseOK G Tryz.prog 120 q120 := SenseOK.any Γ120q.ok (fun _ => []) Tryz.func120 fun os xs K h => by
  obtain ⟨a, b, rfl, rfl, ha, hb, hk⟩ := h
  have no : ¬ a = b → K [] (.ret (.one (.bool false))) := fun h => by
    rw [decide_eq_false h] at hk; exact hk
  obtain ⟨am, at_, ad, ar⟩ := a
  obtain ⟨bm, bt, bd, brr⟩ := b
  simp only at ha hb
  by_cases h1 : am = bm
  case neg =>
    have f1 : (am == bm) = false := by simpa using h1
    refine zs1 f1 ?_
    exact no (fun h => h1 (by cases h; simp))
  have f1 : (am == bm) = true := by simpa using h1
  by_cases h2 : at_ = bt
  case neg =>
    have f2 : (at_ == bt) = false := by simpa using h2
    refine zs2 f1 f2 ?_
    exact no (fun h => h2 (by cases h; simp))
  have f2 : (at_ == bt) = true := by simpa using h2
  by_cases h3 : ad = bd
  case neg =>
    have f3 : (ad.toList == bd.toList) = false := by rw [seq_eq]; exact decide_eq_false h3
    refine zs3 f1 f2 f3 ?_
    exact no (fun h => h3 (by cases h; simp))
  have f3 : (ad.toList == bd.toList) = true := by rw [seq_eq]; exact decide_eq_true h3
  by_cases h4 : ar = brr
  case neg =>
    have f4 : decide (ar = brr) = false := decide_eq_false h4
    refine zs4 f1 f2 f3 f4 ?_
    exact no (fun h => h4 (by cases h; simp))
  have f4 : decide (ar = brr) = true := decide_eq_true h4
  have hfin : decide (Jb.mk am at_ ad ar = Jb.mk bm bt bd brr) = true := decide_eq_true (by rw [h1, h2, h3, h4])
  rw [hfin] at hk
  refine zs4 f1 f2 f3 f4 ?_
  exact hk
def Γ75q : Sems := ext 121 q121 (ext 23 q23 (ext 120 q120 (Γ0)))
theorem Γ75q.ok : SemsOK G Tryz.prog Γ75q := (((Γ0.ok.ext Tryz.func120 rfl (by decide) qk120).ext Tryz.func23 rfl (by decide) qk23).ext Tryz.func121 rfl (by decide) qk121)
def crlf (c : Int) : Bool := c == 13 || c == 10
def cleanL (l : List Int) : Bool := !l.any crlf && decide (l.length ≤ 509)
def s71 : Sense := pureS fun xs K => ∃ s, xs = [.one (.str s)] ∧ s.size ≤ big ∧ K (.ret (.one (.bool (cleanL (bl s)))))
theorem ok71 : SenseOK G Tryz.prog 30 s71 := SenseOK.pure Γ0.ok (fun _ => [0, 3]) Tryz.func30 fun xs K h => by
  obtain ⟨s, rfl, hb, hk⟩ := h
  simp only [big] at hb
  have hlen := bl_len s
  refine zv ?_
  refine iter_of (I := fun k σ => ∃ (j : Nat), k = s.size - j ∧ j ≤ s.size ∧ ((bl s).take j).any crlf = false ∧ σ = ⟨slots 23 [(0, .one (.str s)), (3, .one (.int .i64 j))], []⟩) ?_ s.size ⟨0, by omega, by omega, rfl, rfl⟩
  rintro k σ K' ⟨j, rfl, hj, hn, rfl⟩ hK'
  have w1 := IntWalk.i64_in ((j : Int) + 1) (by omega)
  by_cases h1 : j < s.size
  case neg =>
    have f1 : decide ((j : Int) < s.size) = false := by simp; omega
    obtain rfl : j = s.size := by omega
    rw [List.take_of_length_le (by omega)] at hn
    have hc : cleanL (bl s) = decide ((s.size : Int) ≤ 509) := by rw [cleanL, hn, hlen]; simp; omega
    rw [hc] at hk
    refine zs1 f1 ?_
    exact hk
  have f1 : decide ((j : Int) < s.size) = true := by simpa using h1
  have hg := bl_get h1
  by_cases g1 : bt s j = 13
  · have e1 : (bt s j == 13) = true := by simpa using g1
    have hc : cleanL (bl s) = false := by rw [cleanL, any_at hg (by rw [crlf, e1]; rfl)]; rfl
    rw [hc] at hk
    refine zs2 f1 e1 ?_
    exact hk
  have e1 : (bt s j == 13) = false := by simpa using g1
  by_cases g2 : bt s j = 10
  · have e2 : (bt s j == 10) = true := by simpa using g2
    have hc : cleanL (bl s) = false := by rw [cleanL, any_at hg (by rw [crlf, e2, Bool.or_true])]; rfl
    rw [hc] at hk
    refine zs3 f1 e1 e2 ?_
    exact hk
  have e2 : (bt s j == 10) = false := by simpa using g2
  refine zs4 f1 e1 e2 w1 ?_
  exact hK' _ _ (by omega) ⟨j + 1, rfl, by omega, any_take_next hg hn (by rw [crlf, e1, e2]; rfl), rfl⟩
def rowsB : List Int → List Int → Bool
  | u, [] => decide (u = [])
  | u, c :: X => if u.getLast? = some 13 ∧ c = 10 then cleanL u.dropLast && rowsB [] X else rowsB (u ++ [c]) X
theorem rowsB_end {u : List Int} {c : Int} {X : List Int} (h1 : u.getLast? = some 13) (h2 : c = 10) : rowsB u (c :: X) = (cleanL u.dropLast && rowsB [] X) := by
  rw [rowsB, if_pos ⟨h1, h2⟩]
theorem rowsB_go {u : List Int} {c : Int} {X : List Int} (h : ¬ (u.getLast? = some 13 ∧ c = 10)) : rowsB u (c :: X) = rowsB (u ++ [c]) X := by
  rw [rowsB, if_neg h]
theorem cut_next {l : List Int} {e j : Nat} {x : Int} (h : l[j]? = some x) (he : e ≤ j) : (l.take (j + 1)).drop e = (l.take j).drop e ++ [x] := by
  have h1 : j < l.length := (List.getElem?_eq_some_iff.1 h).1
  rw [List.take_add_one, h, List.drop_append_of_le_length (by rw [List.length_take]; omega)]; rfl
theorem cut_last {l : List Int} {e j : Nat} (he : e ≤ j) (hj : j < l.length) : ((l.take (j + 1)).drop e).getLast? = l[j]? := by
  rw [cut_next (List.getElem?_eq_getElem hj) he, List.getLast?_concat, List.getElem?_eq_getElem hj]
def mayT (l : List Int) : Bool := decide (l.length ≤ 8192) && rowsB [] l
def s48 : Sense := ⟨false, fun os xs K => ∃ s, xs = [.one (.str s)] ∧ os = [] ∧ s.size ≤ big ∧
  K [] (.ret (.tup [.one .nil, .one (.bool (mayT (bl s)))])) ∧ (∀ rows mv, K [.own 9 .str rows true mv] (.ret (.tup [.one (.own 0), .one (.bool (mayT (bl s)))])))⟩
def Γ48 : Sems := ext 30 s71 Γ0
theorem Γ48.ok : SemsOK G Tryz.prog Γ48 := Γ0.ok.ext Tryz.func30 rfl (by decide) ok71
theorem ok48 : SenseOK G Tryz.prog 14 s48 := SenseOK.any Γ48.ok (fun _ => [0, 4, 5, 6]) Tryz.func14 fun os xs K h => by
  obtain ⟨s, rfl, rfl, hb, hk0, hk1⟩ := h
  simp only [big] at hb
  have hlen := bl_len s
  by_cases hz : s.size ≤ 8192
  case neg =>
    have f0 : decide ((s.size : Int) > 8192) = true := by simp; omega
    have hm : mayT (bl s) = false := by rw [mayT, hlen]; simp; omega
    rw [hm] at hk0
    refine zs1 f0 ?_
    exact hk0
  have f0 : decide ((s.size : Int) > 8192) = false := by simp; omega
  have hm : mayT (bl s) = rowsB [] (bl s) := by rw [mayT, hlen, decide_eq_true hz, Bool.true_and]
  rw [hm] at hk0 hk1
  refine zs1 f0 ?_
  refine iter_of (I := fun k σ => ∃ (j e : Nat), k = s.size - j ∧ j ≤ s.size ∧ e ≤ j ∧ rowsB [] (bl s) = rowsB (((bl s).take j).drop e) ((bl s).drop j) ∧
    (σ = ⟨slots 54 [(0, .one (.str s)), (4, .one .nil), (5, .one (.int .i64 e)), (6, .one (.int .i64 j))], []⟩ ∨
     ∃ rows mv, rows.length ≤ j ∧ σ = ⟨slots 54 [(0, .one (.str s)), (4, .one (.own 0)), (5, .one (.int .i64 e)), (6, .one (.int .i64 j))], [.own 9 .str rows true mv]⟩)) ?_ s.size ⟨0, 0, by omega, by omega, by omega, rfl, .inl rfl⟩
  rintro k σ K' ⟨j, e, rfl, hj, he, hn, hσ⟩ hK'
  have w1 := IntWalk.i64_in ((j : Int) + 1) (by omega)
  by_cases h1 : j < s.size
  case neg =>
    have f1 : decide ((j : Int) < s.size) = false := by simp; omega
    obtain rfl : j = s.size := by omega
    have htk : (bl s).take s.size = bl s := List.take_of_length_le (by omega)
    have hdr : (bl s).drop s.size = [] := List.drop_eq_nil_iff.2 (by omega)
    rw [htk, hdr, rowsB] at hn
    have hE : ((e : Int) == s.size) = decide ((bl s).drop e = []) := by
      rw [Bool.eq_iff_iff]; simp [List.drop_eq_nil_iff, hlen]; omega
    rw [← hE] at hn
    rw [hn] at hk0 hk1
    rcases hσ with rfl | ⟨rows, mv, hrw, rfl⟩
    · refine zs1 f1 ?_
      exact hk0
    · refine zs1 f1 ?_
      exact hk1 _ _
  have f1 : decide ((j : Int) < s.size) = true := by simpa using h1
  have hg := bl_get h1
  have hd := bl_drop h1
  have hnx := cut_next hg he
  have go : ¬ ((((bl s).take j).drop e).getLast? = some 13 ∧ bt s j = 10) → rowsB [] (bl s) = rowsB (((bl s).take (j + 1)).drop e) ((bl s).drop (j + 1)) := fun h => by
    rw [hn, hd, rowsB_go h, hnx]
  by_cases g1 : bt s j = 10
  case neg =>
    have e1 : (bt s j != 10) = true := by simpa using g1
    have hG := go (fun h => g1 h.2)
    rcases hσ with rfl | ⟨rows, mv, hrw, rfl⟩
    · refine zs3 f1 e1 w1 ?_
      exact hK' _ _ (by omega) ⟨j + 1, e, rfl, by omega, by omega, hG, .inl rfl⟩
    · refine zs3 f1 e1 w1 ?_
      exact hK' _ _ (by omega) ⟨j + 1, e, rfl, by omega, by omega, hG, .inr ⟨rows, mv, by omega, rfl⟩⟩
  have e1 : (bt s j != 10) = false := by simpa using g1
  by_cases g2 : j = e
  · have e2 : ((j : Int) == e) = true := by simp [g2]
    have hG := go (fun h => by
      rw [List.drop_of_length_le (by rw [List.length_take]; omega)] at h
      cases h.1)
    rcases hσ with rfl | ⟨rows, mv, hrw, rfl⟩
    · refine zs4 f1 e1 e2 w1 ?_
      exact hK' _ _ (by omega) ⟨j + 1, e, rfl, by omega, by omega, hG, .inl rfl⟩
    · refine zs4 f1 e1 e2 w1 ?_
      exact hK' _ _ (by omega) ⟨j + 1, e, rfl, by omega, by omega, hG, .inr ⟨rows, mv, by omega, rfl⟩⟩
  have e2 : ((j : Int) == e) = false := by simp; omega
  obtain ⟨i, rfl⟩ : ∃ i, j = i + 1 := ⟨j - 1, by omega⟩
  have w2 : IntKind.i64.wrap (((i + 1 : Nat) : Int) - 1) = i := by rw [IntWalk.i64_in _ (by omega)]; omega
  have hl := cut_last (l := bl s) (e := e) (j := i) (by omega) (by omega)
  rw [bl_get (by omega)] at hl
  by_cases g3 : bt s i = 13
  case neg =>
    have e3 : (bt s i != 13) = true := by simpa using g3
    have hG := go (fun h => by rw [hl] at h; exact g3 (Option.some.inj h.1))
    rcases hσ with rfl | ⟨rows, mv, hrw, rfl⟩
    · refine zs6 f1 e1 e2 w2 e3 w1 ?_
      exact hK' _ _ (by omega) ⟨i + 2, e, rfl, by omega, by omega, hG, .inl rfl⟩
    · refine zs6 f1 e1 e2 w2 e3 w1 ?_
      exact hK' _ _ (by omega) ⟨i + 2, e, rfl, by omega, by omega, hG, .inr ⟨rows, mv, by omega, rfl⟩⟩
  have e3 : (bt s i != 13) = false := by simpa using g3
  have hdl : (((bl s).take (i + 1)).drop e).dropLast = ((bl s).take i).drop e := by
    rw [cut_next (bl_get (by omega)) (by omega), List.dropLast_concat]
  rw [hd, rowsB_end (by rw [hl, g3]) g1, hdl] at hn
  have hx : cleanL (bl (s.extract (e : Int).toNat (i : Int).toNat)) = cleanL (((bl s).take i).drop e) := congrArg cleanL (bl_extract s e i)
  have hself : ((bl s).take (i + 2)).drop (i + 2) = [] := List.drop_eq_nil_iff.2 (by rw [List.length_take]; omega)
  have hsz : (s.extract (e : Int).toNat (i : Int).toNat).size ≤ big := by
    show (s.extract e i).size ≤ 1073741824
    rw [ByteArray.size_extract]; omega
  rcases hσ with rfl | ⟨rows, mv, hrw, rfl⟩
  · refine zs5 f1 e1 e2 w2 e3 ?_
    cases hcl : cleanL (((bl s).take i).drop e) with
    | false =>
      rw [hcl, Bool.false_and] at hn
      rw [hn] at hk0
      rw [hcl] at hx
      refine zs1 hx ?_
      exact hk0
    | true =>
      rw [hcl, Bool.true_and] at hn
      rw [hcl] at hx
      refine zs3 hx w2 w1 ?_
      exact hK' _ _ (by omega) ⟨i + 2, i + 2, rfl, by omega, by omega, by rw [hn, hself], .inr ⟨[s.extract e i], _, by simp, rfl⟩⟩
  · refine zs5 f1 e1 e2 w2 e3 ?_
    cases hcl : cleanL (((bl s).take i).drop e) with
    | false =>
      rw [hcl, Bool.false_and] at hn
      rw [hn] at hk0
      rw [hcl] at hx
      refine zs1 hx ?_
      exact hk0
    | true =>
      rw [hcl, Bool.true_and] at hn
      rw [hcl] at hx
      have h1L : (rows.length + [s.extract (e : Int).toNat (i : Int).toNat].length) * 16 ≤ 140737488355328 := by rw [List.length_singleton]; omega
      refine zs3 hx w2 w1 ?_
      refine hK' _ _ (by omega) ⟨i + 2, i + 2, rfl, by omega, by omega, by rw [hn, hself], .inr ⟨rows ++ [s.extract e i], true, by rw [List.length_append, List.length_singleton]; omega, ?_⟩⟩
      cases mv <;> rfl
def Γ70 : Sems := ext 108 s99 (ext 107 s98 (ext 106 s97 Γ0))
theorem Γ70.ok : SemsOK G Tryz.prog Γ70 := ((Γ0.ok.ext Tryz.func106 rfl (by decide) ok97).ext Tryz.func107 rfl (by decide) ok98).ext Tryz.func108 rfl (by decide) ok99
def s70 : Sense := pureS fun xs K => ∃ s, xs = [.one (.str s)] ∧ K (.ret (.one (.bool (localR (bl s)))))
theorem ok70 : SenseOK G Tryz.prog 63 s70 := SenseOK.pure Γ70.ok (fun _ => []) Tryz.func63 fun xs K h => by
  obtain ⟨s, rfl, hk⟩ := h
  by_cases h0 : s.size < 1
  · have f0 : decide ((s.size : Int) < 1) = true := by simp; omega
    have hb : bl s = [] := List.length_eq_zero_iff.1 (by rw [bl_length]; omega)
    refine zs1 f0 ?_
    exact retB hk (by simp [localR, hb])
  have f0 : decide ((s.size : Int) < 1) = false := by simp; omega
  by_cases h1 : s.size > 64
  · have f1 : decide ((s.size : Int) > 64) = true := by simp; omega
    refine zs2 f0 f1 ?_
    exact retB hk (by simp [localR, bl_length]; omega)
  have f1 : decide ((s.size : Int) > 64) = false := by simp; omega
  have hh : (bl s).head? = some (bt s 0) := by
    have := bl_get (s := s) (j := 0) (by omega)
    rw [List.head?_eq_getElem?]; exact this
  have hne : (bl s).isEmpty = false := by
    rw [List.isEmpty_eq_false_iff]; intro h; rw [h] at hh; cases hh
  have hbig : s.size ≤ big := by simp only [big]; omega
  by_cases h2 : bt s 0 = 34
  · have f2 : (bt s 0 != 34) = false := by simpa using h2
    refine zs3 f0 f1 f2 ?_
    refine ⟨fun hn => ?_, fun r a n hn hr => ?_⟩
    · refine zv ?_
      have : localR (bl s) = false := by
        rw [localR, hn, if_pos (by rw [hh, h2])]; simp
      exact retB hk this.symm
    · obtain ⟨u, q, he, hk', m', hm, hok, hback, hml⟩ := inn_spec _ _ _ _ _ _ (Nat.le_refl _) hn
      rw [List.nil_append] at hm
      subst hm
      have hul : u.length ≤ s.size := by
        have := congrArg List.length he
        simp [bl_length] at this
        omega
      have hrs : r.size ≤ big := by rw [← bl_length, hr]; simp only [big]; omega
      have hr2 : r.size ≤ 1073741824 := hrs
      have hloc : localR (bl s) = (decide (n = (s.size : Int)) && !plainR a && decide (34 :: esc a ++ [34] = bl s)) := by
        have h64 : decide (s.size ≤ 64) = true := by simp; omega
        unfold localR
        rw [hn, if_pos (by rw [hh, h2]), hne, bl_length, h64]
        rfl
      by_cases h3 : n = (s.size : Int)
      case neg =>
        have f3 : (n == (s.size : Int)) = false := by simpa using h3
        refine zs1 f3 ?_
        exact retB hk (by rw [hloc]; simp [h3])
      have f3 : (n == (s.size : Int)) = true := by simpa using h3
      cases h4 : plainR (bl r) with
      | true =>
        refine zs2 f3 h4 ?_
        rw [hr] at h4
        exact retB hk (by rw [hloc]; simp [h4])
      | false =>
        refine zs2 f3 h4 ?_
        intro t ht
        refine zv ?_
        rw [hr] at h4 ht
        exact retB hk (by rw [hloc, str_beq, ht]; simp [h3, h4])
  · have f2 : (bt s 0 != 34) = true := by simpa using h2
    refine zs3 f0 f1 f2 ?_
    refine retB hk ?_
    have : (bl s).length ≤ 64 := by rw [bl_length]; omega
    simp [localR, hne, hh, h2, this]
def Γ68 : Sems := ext 109 s69 (ext 111 s95 (ext 110 s94 Γ0))
theorem Γ68.ok : SemsOK G Tryz.prog Γ68 := ((Γ0.ok.ext Tryz.func110 rfl (by decide) ok94).ext Tryz.func111 rfl (by decide) ok95).ext Tryz.func109 rfl (by decide) ok69
def okD (c : Int) : Bool := isSign c || c == 45
theorem labL_def (l : List Int) : labL l = (!l.isEmpty && decide (l.length ≤ 63) && l.all okD && l.head? != some 45 && l.getLast? != some 45) := rfl
def s68 : Sense := pureS fun xs K => ∃ s, xs = [.one (.str s)] ∧ s.size ≤ big ∧ K (.ret (.one (.bool (domL (bl s)))))
theorem ok68 : SenseOK G Tryz.prog 64 s68 := SenseOK.pure Γ68.ok (fun r => bif Nat.beq r 13 then [3, 4, 5, 6] else [3, 4]) Tryz.func64 fun xs K h => by
  obtain ⟨s, rfl, hb, hk⟩ := h
  simp only [big] at hb
  by_cases h0 : s.size > 255
  · have f0 : decide ((s.size : Int) > 255) = true := by simp; omega
    refine zs1 f0 ?_
    exact retB hk (by simp [domL, bl_length]; omega)
  have f0 : decide ((s.size : Int) > 255) = false := by simp; omega
  have h255 : decide ((bl s).length ≤ 255) = true := by rw [bl_length]; simp; omega
  cases hlit : litL (bl s) with
  | true =>
    refine zs2 f0 hlit ?_
    exact retB hk (by rw [domL, h255, hlit]; rfl)
  | false =>
  have hdom : domL (bl s) = (spl 46 (bl s) []).all labL := by rw [domL, h255, hlit]; rfl
  refine zs2 f0 hlit ?_
  intro zs mv hzs
  have hz1 : zs.length ≤ s.size + 1 := by
    have := (spl_size 46 (bl s) []).1
    rw [← hzs, List.length_map, bl_length] at this; exact this
  have hz2 : ∀ w ∈ zs, w.size ≤ s.size := fun w hw => by
    have := (spl_size 46 (bl s) []).2 (bl w) (by rw [← hzs]; exact List.mem_map_of_mem hw)
    simpa [bl_length] using this
  rw [← hzs] at hdom
  refine zv ?_
  refine iter_of (I := fun k σ => ∃ (j : Nat), k = zs.length - j ∧ j ≤ zs.length ∧ ((zs.take j).map bl).all labL = true ∧ σ = ⟨slots 75 [(3, .one (.own 0)), (4, .one (.int .i64 j))], [.own 9 .str zs true mv]⟩) ?_ zs.length ⟨0, by omega, by omega, by simp, rfl⟩
  rintro k σ K' ⟨j, rfl, hj, hall, rfl⟩ hK'
  by_cases h3 : j < zs.length
  case neg =>
    have f1 : decide ((j : Int) < zs.length) = false := by simp; omega
    obtain rfl : j = zs.length := by omega
    rw [List.take_length] at hall
    refine zs1 f1 ?_
    exact retB hk (by rw [hdom, hall])
  have f1 : decide ((j : Int) < zs.length) = true := by simpa using h3
  obtain ⟨w, hw⟩ : ∃ w, zs[j]? = some w := ⟨_, List.getElem?_eq_getElem h3⟩
  have hwm : w ∈ zs := List.mem_of_getElem? hw
  have hws := hz2 w hwm
  have hr : rdx zs (↑j : Int).toNat Ty.str.dflt = w := by
    show zs.getD j _ = w
    simp [List.getD, hw]
  have w1 := IntWalk.i64_in (↑j + 1) (by omega)
  have bad : labL (bl w) = false → domL (bl s) = false := fun h => by
    rw [hdom, Bool.eq_false_iff]
    intro h'
    have := List.all_eq_true.1 h' (bl w) (List.mem_map_of_mem hwm)
    rw [h] at this; cases this
  have good : labL (bl w) = true → ((zs.take (j + 1)).map bl).all labL = true := fun h => by
    rw [List.take_add_one, hw, List.map_append, List.all_append, hall]
    simp [h]
  by_cases c0 : w.size < 1
  · have e0 : decide ((w.size : Int) < 1) = true := by simp; omega
    have : bl w = [] := List.length_eq_zero_iff.1 (by rw [bl_length]; omega)
    refine zs3 f1 hr e0 ?_
    exact retB hk (bad (by rw [this]; rfl)).symm
  have e0 : decide ((w.size : Int) < 1) = false := by simp; omega
  by_cases c1 : w.size > 63
  · have e1 : decide ((w.size : Int) > 63) = true := by simp; omega
    refine zs4 f1 hr e0 e1 ?_
    exact retB hk (bad (by simp [labL, bl_length]; omega)).symm
  have e1 : decide ((w.size : Int) > 63) = false := by simp; omega
  have hh := bl_head (s := w) (by omega)
  have hl := bl_last (s := w) (by omega)
  have w0 := IntWalk.i64_in (↑w.size - 1) (by omega)
  by_cases c2 : bt w 0 = 45
  · have e2 : (bt w 0 == 45) = true := by simpa using c2
    refine zs5 f1 hr e0 e1 e2 ?_
    exact retB hk (bad (by simp [labL, hh, c2])).symm
  have e2 : (bt w 0 == 45) = false := by simpa using c2
  by_cases c3 : bt w ((w.size : Int) - 1) = 45
  · have e3 : (bt w ((w.size : Int) - 1) == 45) = true := by simpa using c3
    refine zs7 f1 hr e0 e1 e2 w0 e3 ?_
    exact retB hk (bad (by simp [labL, hl, c3])).symm
  have e3 : (bt w ((w.size : Int) - 1) == 45) = false := by simpa using c3
  have hlab : labL (bl w) = (bl w).all okD := by
    have h1 : (bl w).isEmpty = false := by rw [List.isEmpty_eq_false_iff]; intro h; rw [h] at hh; cases hh
    have h2 : decide ((bl w).length ≤ 63) = true := by rw [bl_length]; simp; omega
    have q1 : (some (bt w 0) != some (45 : Int)) = true := by simpa using c2
    have q2 : (some (bt w ((w.size : Int) - 1)) != some (45 : Int)) = true := by simpa using c3
    rw [labL_def, h1, h2, hh, hl, q1, q2]
    simp
  refine zs7 f1 hr e0 e1 e2 w0 e3 ?_
  refine iter_of (I := fun k σ => ∃ (q : Nat), k = w.size - q ∧ q ≤ w.size ∧ ((bl w).take q).all okD = true ∧ σ = ⟨slots 75 [(3, .one (.own 0)), (4, .one (.int .i64 j)), (5, .one (.str w)), (6, .one (.int .i64 q))], [.own 9 .str zs true mv]⟩) ?_ w.size ⟨0, by omega, by omega, by simp, rfl⟩
  rintro k σ K2 ⟨q, rfl, hq, hok, rfl⟩ hK2
  by_cases g2 : q < w.size
  · have g1 : decide ((q : Int) < w.size) = true := by simpa using g2
    have w2 := IntWalk.i64_in (↑q + 1) (by omega)
    cases d1 : (bif decide (bt w q ≥ 97) then decide (bt w q ≤ 122) else false) <;> cases d2 : isDigit (bt w q) <;> cases d3 : (bt w q != 45)
    case false.false.true =>
      refine zs4 g1 d1 d2 d3 ?_
      refine retB hk (bad ?_).symm
      rw [hlab, Bool.eq_false_iff]
      intro h'
      have := List.all_eq_true.1 h' (bt w q) (List.mem_of_getElem? (bl_get g2))
      simp [okD, isSign, isDigit] at this d1 d2 d3
      omega
    all_goals
      refine zs5 g1 d1 d2 d3 w2 ?_
      refine hK2 _ _ (by omega) ⟨q + 1, rfl, by omega, ?_, rfl⟩
      have hc : okD (bt w q) = true := by
        simp [okD, isSign, isDigit] at d1 d2 d3 ⊢
        omega
      rw [List.take_add_one, bl_get g2, List.all_append, hok]
      simp [hc]
  · have g1 : decide ((q : Int) < w.size) = false := by simp; omega
    refine zs2 g1 w1 ?_
    refine hK' _ _ (by omega) ⟨j + 1, rfl, by omega, good ?_, rfl⟩
    have : (bl w).take q = bl w := List.take_of_length_le (by rw [bl_length]; omega)
    rw [this] at hok
    rw [hlab, hok]
def Γ47 : Sems := ext 63 s70 (ext 64 s68 Γ0)
theorem Γ47.ok : SemsOK G Tryz.prog Γ47 := (Γ0.ok.ext Tryz.func64 rfl (by decide) ok68).ext Tryz.func63 rfl (by decide) ok70
def s47 : Sense := pureS fun xs K => ∃ a b, xs = [.agg [.str a, .str b]] ∧ b.size ≤ big ∧ K (.ret (.one (.bool (mayR (bl a) (bl b)))))
theorem ok47 : SenseOK G Tryz.prog 40 s47 := SenseOK.pure Γ47.ok (fun _ => []) Tryz.func40 fun xs K h => by
  obtain ⟨a, b, rfl, hb, hk⟩ := h
  cases h1 : localR (bl a) with
  | false =>
    refine zs1 h1 ?_
    exact retB hk (by simp [mayR, h1])
  | true =>
    refine zs1 h1 ?_
    exact retB hk (by simp [mayR, h1])
def Γ42 : Sems := ext 109 s69 (ext 64 s68 Γ0)
theorem Γ42.ok : SemsOK G Tryz.prog Γ42 := (Γ0.ok.ext Tryz.func64 rfl (by decide) ok68).ext Tryz.func109 rfl (by decide) ok69
def s42 : Sense := pureS fun xs K => ∃ s, xs = [.one (.str s)] ∧ s.size ≤ big ∧ K (.ret (.one (.bool (domL (bl s) && !litL (bl s)))))
theorem ok42 : SenseOK G Tryz.prog 123 s42 := SenseOK.pure Γ42.ok (fun _ => []) Tryz.func123 fun xs K h => by
  obtain ⟨s, rfl, hb, hk⟩ := h
  cases h1 : domL (bl s) with
  | false =>
    refine zs1 h1 ?_
    exact retB hk (by simp [h1])
  | true =>
    refine zs1 h1 ?_
    exact retB hk (by simp [h1])
end Go.Proofs.YtilagaapfbfkkaaGreatDoor.Ab
