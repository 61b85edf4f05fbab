/- What the functions of dots, and of its reference, answer. -/
import Derived.Test.YtdedodfeopdkaaaDotsA
import Derived.Test.YtdedodfeopdkaaaPDox2
namespace Go.Proofs.Ytdedodfeopdkaaa
set_option linter.unusedSimpArgs false
set_option linter.unusedVariables false
open Go.RowKit Go.Proofs.Ytdedodfeopdkaaa.PDo Go.Proofs.YtdedodfeopdkaaaW.PrintWords Go.Proofs.YtdedodfeopdkaaaW.PrintLast Go.Proofs.YtdedodfeopdkaaaW.PrintMore

theorem is13 (b : UInt8) : ((b.toNat : Int) = 13) ↔ b = 13 := ⟨fun h => UInt8.toNat_inj.1 (by show b.toNat = 13; omega), by rintro rfl; rfl⟩
theorem is10 (b : UInt8) : ((b.toNat : Int) = 10) ↔ b = 10 := ⟨fun h => UInt8.toNat_inj.1 (by show b.toNat = 10; omega), by rintro rfl; rfl⟩
theorem is46 (b : UInt8) : ((b.toNat : Int) = 46) ↔ b = 46 := ⟨fun h => UInt8.toNat_inj.1 (by show b.toNat = 46; omega), by rintro rfl; rfl⟩
theorem bt_at (l : List UInt8) (i : Int) (n : Nat) (e : i = n) (b : UInt8) (h : l[n]? = some b) : bt (bs l) i = (b.toNat : Int) := by
  subst e
  obtain ⟨hn, hb⟩ := List.getElem?_eq_some_iff.1 h
  rw [bt_bs l (n : Int) hn]
  subst hb
  rfl
theorem clean_is (r : List UInt8) (hr : r.length ≤ 8192) : ∀ (d i k : Nat), i + d = r.length → d < k → (∀ j b, j < i → r[j]? = some b → b ≠ 13 ∧ b ≠ 10) → pouchref1_Clean.l0 k (bs r) i = some (decide (Cl r)) := by
  intro d
  induction d with
  | zero =>
    intro i k hi hk hn
    obtain ⟨k, rfl⟩ : ∃ m, k = m + 1 := ⟨k - 1, by omega⟩
    rw [pouchref1_Clean.l0, bs_size, if_neg (by omega)]
    congr 1
    have : (∀ b ∈ r, b ≠ 13 ∧ b ≠ 10) := fun b hb => by
      obtain ⟨j, hj⟩ := List.getElem?_of_mem hb
      exact hn j b (by have := (List.getElem?_eq_some_iff.1 hj).1; omega) hj
    exact decide_eq_decide.2 ⟨fun h => ⟨this, by omega⟩, fun h => by have := h.2; omega⟩
  | succ d ih =>
    intro i k hi hk hn
    obtain ⟨k, rfl⟩ : ∃ m, k = m + 1 := ⟨k - 1, by omega⟩
    have hlt : i < r.length := by omega
    rw [pouchref1_Clean.l0, bs_size, if_pos (by omega), if_pos (by omega), bt_at r i i rfl r[i] (List.getElem?_eq_getElem hlt)]
    have hm : r[i]? = some r[i] := List.getElem?_eq_getElem hlt
    have e1 := is13 r[i]
    have e2 := is10 r[i]
    have hneg : ¬ (r[i] ≠ 13 ∧ r[i] ≠ 10) → (some false : Option Bool) = some (decide (Cl r)) := fun h => by
      congr 1; symm
      exact decide_eq_false fun hc => h (hc.1 _ (List.getElem_mem hlt))
    by_cases h13 : r[i] = 13
    · rw [if_pos (e1.2 h13)]
      exact hneg (fun h => h.1 h13)
    · rw [if_neg (fun h => h13 (e1.1 h))]
      by_cases h10 : r[i] = 10
      · rw [if_pos (e2.2 h10)]
        exact hneg (fun h => h.2 h10)
      · rw [if_neg (fun h => h10 (e2.1 h)), wrap_id (by omega) (by omega)]
        refine ih (i + 1) k (by omega) (by omega) ?_
        intro j b hj hb
        by_cases e : j = i
        · subst e; rw [hm] at hb; obtain rfl := Option.some.inj hb; exact ⟨h13, h10⟩
        · exact hn j b (by omega) hb
theorem clean_f (r : List UInt8) (hr : r.length ≤ 8192) (k : Nat) (hk : r.length < k) : pouchref1_Clean.f k (bs r) = some (decide (Cl r)) :=
  clean_is r hr r.length 0 k (by omega) hk (fun j b hj => by omega)

/-- The reference's lines of a text. -/
theorem rows_is (A : List UInt8) (hA : A.length ≤ 8192) : ∀ (X u D : List UInt8) (l : List ByteArray) (k : Nat), A = D ++ u ++ X → 2 * X.length + 8200 < k → l.length + X.length ≤ 8192 →
    (∀ rs, rowsF u X = some rs → pouchref1_Rows.l0 k (bs A) l D.length (D.length + u.length) = some (l ++ rs.map bs, true)) ∧
    (rowsF u X = none → ∃ l', pouchref1_Rows.l0 k (bs A) l D.length (D.length + u.length) = some (l', false)) := by
  intro X
  induction X with
  | nil =>
    intro u D l k e hk hl
    obtain ⟨k, rfl⟩ : ∃ m, k = m + 1 := ⟨k - 1, by omega⟩
    have hn : A.length = D.length + u.length := by rw [e]; simp
    rw [pouchref1_Rows.l0, bs_size, if_neg (by omega), rowsF]
    by_cases hu : u = []
    · subst hu
      rw [if_pos rfl]
      refine ⟨fun rs h => ?_, fun h => by cases h⟩
      obtain rfl := Option.some.inj h
      simp [hn]
    · rw [if_neg hu]
      refine ⟨fun rs h => (by cases h), fun _ => ⟨l, ?_⟩⟩
      have : u.length ≠ 0 := fun h => hu (List.length_eq_zero_iff.1 h)
      congr 2
      rw [hn, beq_eq_false_iff_ne]
      omega
  | cons c X ih =>
    intro u D l k e hk hl
    rw [List.length_cons] at hk hl
    obtain ⟨k, rfl⟩ : ∃ m, k = m + 2 := ⟨k - 2, by omega⟩
    have hn : A.length = D.length + u.length + (X.length + 1) := by rw [e]; simp; omega
    have hc : A[D.length + u.length]? = some c := by
      rw [e, List.append_assoc, List.getElem?_append_right (by omega), List.getElem?_append_right (by omega)]
      simp
    have hlt : D.length + u.length < A.length := by omega
    have step : pouchref1_Rows.j1 (k + 1) (bs A) l D.length (D.length + u.length) true = pouchref1_Rows.l0 k (bs A) l D.length (D.length + (u ++ [c]).length) := by
      rw [pouchref1_Rows.j1, if_pos rfl, wrap_id (by omega) (by omega)]
      congr 1
      simp only [List.length_append, List.length_singleton]
      omega
    rw [pouchref1_Rows.l0, bs_size, if_pos (by omega), if_pos (by omega), bt_at A _ (D.length + u.length) (by omega) c hc]
    have e10 := is10 c
    have ihu := ih (u ++ [c]) D l k (by rw [e]; simp) (by omega) (by omega)
    by_cases h10 : c = 10
    · rw [if_pos (e10.2 h10)]
      cases hu : u.getLast? with
      | none =>
        have hu0 : u = [] := List.getLast?_eq_none_iff.1 hu
        subst hu0
        rw [if_pos (by simp), rowsF, if_neg (by rintro ⟨h, _⟩; cases h), step]
        exact ihu
      | some x =>
        have hne : u ≠ [] := by rintro rfl; cases hu
        have hpos : 0 < u.length := List.length_pos_iff.2 hne
        have hx : A[D.length + (u.length - 1)]? = some x := by
          rw [e, List.append_assoc, List.getElem?_append_right (by omega), List.getElem?_append_left (by omega)]
          rw [List.getLast?_eq_getElem?] at hu
          rw [← hu]; congr 1; omega
        rw [if_neg (by omega), wrap_id (by omega) (by omega), if_pos (by omega), if_pos (by omega), bt_at A _ (D.length + (u.length - 1)) (by omega) x hx]
        have e13 := is13 x
        by_cases h13 : x = 13
        · have hb : (((x.toNat : Int)) != 13) = false := by
            rw [bne_eq_false_iff_eq]; exact e13.2 h13
          rw [hb, pouchref1_Rows.j1, if_neg (by decide), if_pos (by omega), wrap_id (by omega) (by omega), if_pos (by omega), bs_size, if_pos (by omega), bs_extract]
          have hrow : (A.take (((D.length : Int) + (u.length : Int) - 1)).toNat).drop ((D.length : Int)).toNat = u.dropLast := by
            rw [show (((D.length : Int) + (u.length : Int) - 1)).toNat = D.length + (u.length - 1) by omega, show ((D.length : Int)).toNat = D.length by omega, e, List.append_assoc, List.drop_take, List.drop_left]
            rw [show D.length + (u.length - 1) - D.length = u.length - 1 by omega, List.take_append_of_le_length (by omega), List.dropLast_eq_take]
          rw [hrow]
          have hdl : u.dropLast.length = u.length - 1 := List.length_dropLast
          rw [clean_f _ (by omega) k (by omega)]
          simp only [Option.bind_some]
          rw [rowsF, if_pos ⟨by rw [hu, h13], h10⟩]
          by_cases hcl : Cl u.dropLast
          · rw [if_pos (decide_eq_true hcl), if_pos hcl, if_pos (by omega), wrap_id (by omega) (by omega)]
            have ih2 := ih [] (D ++ u ++ [c]) (l ++ [bs u.dropLast]) k (by rw [e]; simp) (by omega) (by simp; omega)
            have hD : ((D ++ u ++ [c]).length : Int) = (D.length : Int) + (u.length : Int) + 1 := by simp; omega
            simp only [List.length_nil, Int.ofNat_zero, Int.natCast_zero] at ih2
            rw [Int.add_zero, hD] at ih2
            refine ⟨fun rs h => ?_, fun h => ?_⟩
            · cases hr : rowsF [] X with
              | none => rw [hr] at h; cases h
              | some t =>
                rw [hr] at h
                obtain rfl := Option.some.inj h
                rw [ih2.1 t hr]
                simp
            · refine ih2.2 ?_
              cases hr : rowsF [] X with
              | none => rfl
              | some t => rw [hr] at h; cases h
          · rw [if_neg hcl, if_neg (by rw [decide_eq_true_eq]; exact hcl)]
            exact ⟨fun rs h => (by cases h), fun _ => ⟨_, rfl⟩⟩
        · have hb : (((x.toNat : Int)) != 13) = true := by
            rw [bne_iff_ne]; exact fun h => h13 (e13.1 h)
          rw [hb, rowsF, if_neg (by rintro ⟨h, _⟩; rw [hu] at h; exact h13 (Option.some.inj h)), step]
          exact ihu
    · rw [if_neg (fun h => h10 (e10.1 h)), rowsF, if_neg (fun h => h10 h.2), step]
      exact ihu
theorem rows_f (A : List UInt8) (k : Nat) (hk : 2 * A.length + 8200 < k) :
    (A.length ≤ 8192 → ∀ rs, rowsF [] A = some rs → pouchref1_Rows.f k (bs A) = some (rs.map bs, true)) ∧
    (¬ (A.length ≤ 8192 ∧ (rowsF [] A).isSome) → ∃ l', pouchref1_Rows.f k (bs A) = some (l', false)) := by
  unfold pouchref1_Rows.f
  rw [bs_size]
  by_cases h : A.length ≤ 8192
  · rw [if_neg (by omega)]
    have := rows_is A h A [] [] [] k (by simp) hk (by simpa using h)
    simp only [List.length_nil, Int.ofNat_zero, Int.natCast_zero, List.nil_append] at this
    rw [Int.add_zero] at this
    refine ⟨fun _ => this.1, fun hn => this.2 ?_⟩
    cases hr : rowsF [] A with
    | none => rfl
    | some t => exact absurd ⟨h, by rw [hr]; rfl⟩ hn
  · rw [if_pos (by omega)]
    exact ⟨fun h' => absurd h' h, fun _ => ⟨_, rfl⟩⟩

/-- The reference's text as it is sent. -/
theorem stuff_loop (R : List (List UInt8)) (hR : ∀ r ∈ R, Cl r) (hn : R.length ≤ 8192) : ∀ (d i k : Nat) (out : List UInt8), i + d = R.length → d < k → out.length + 1024 * d ≤ 16777216 →
    pouchref1_Stuff.l0 k (R.map bs) (bs out) i = some (bs (out ++ unrows ((R.drop i).map dot) ++ [46, 13, 10])) := by
  intro d
  induction d with
  | zero =>
    intro i k out hi hk ho
    obtain ⟨k, rfl⟩ : ∃ m, k = m + 1 := ⟨k - 1, by omega⟩
    rw [pouchref1_Stuff.l0, List.length_map, if_neg (by omega), bs_size, if_pos (by omega), List.drop_of_length_le (by omega)]
    rw [show (⟨#[46, 13, 10]⟩ : ByteArray) = bs [46, 13, 10] from rfl, bs_append]
    simp [unrows]
  | succ d ih =>
    intro i k out hi hk ho
    obtain ⟨k, rfl⟩ : ∃ m, k = m + 1 := ⟨k - 1, by omega⟩
    have hlt : i < R.length := by omega
    have hrd : rdOf ByteArray.empty (R.map bs) (i : Int) = bs R[i] := by
      unfold rdOf
      rw [show ((i : Int)).toNat = i from rfl, List.getD_eq_getElem?_getD, List.getElem?_map, List.getElem?_eq_getElem hlt]
      rfl
    have hdrop : R.drop i = R[i] :: R.drop (i + 1) := List.drop_eq_getElem_cons hlt
    have hcl := hR R[i] (List.getElem_mem hlt)
    rw [pouchref1_Stuff.l0, List.length_map, if_pos (by omega), if_pos (by omega), hrd, hdrop, wrap_id (by omega) (by omega)]
    generalize R[i] = r at hcl
    have hlen := hcl.2
    rw [show (⟨#[46]⟩ : ByteArray) = bs [46] from rfl, show (⟨#[13, 10]⟩ : ByteArray) = bs [13, 10] from rfl]
    simp only [bs_append, bs_size]
    have hrec : ∀ (x : List UInt8), x = dot r → pouchref1_Stuff.l0 k (R.map bs) (bs (out ++ x ++ [13, 10])) ((i : Int) + 1) = some (bs (out ++ unrows ((r :: R.drop (i + 1)).map dot) ++ [46, 13, 10])) := by
      rintro x rfl
      have hd : (dot r).length ≤ r.length + 1 := by
        unfold dot; split <;> simp <;> omega
      have := ih (i + 1) k (out ++ dot r ++ [13, 10]) (by omega) (by omega) (by simp; omega)
      rw [show ((i + 1 : Nat) : Int) = (i : Int) + 1 by omega] at this
      rw [this]
      simp [unrows]
    cases r with
    | nil =>
      rw [if_neg (by simp), if_pos (by simp; omega), if_pos (by simp; omega)]
      exact hrec [] rfl
    | cons c r =>
      rw [if_pos (by simp <;> omega), if_pos (by simp <;> omega), bt_at (c :: r) 0 0 rfl c rfl]
      rw [List.length_cons] at hlen
      by_cases h : c = 46
      · subst h
        rw [if_pos (by rfl), if_pos (by omega), if_pos (by simp; omega), if_pos (by simp; omega)]
        rw [show out ++ [46] ++ 46 :: r ++ [13, 10] = out ++ (46 :: 46 :: r) ++ [13, 10] by simp]
        exact hrec _ rfl
      · rw [if_neg (fun e => h ((is46 c).1 e)), if_pos (by simp; omega), if_pos (by simp; omega)]
        refine hrec _ ?_
        have : ([46] : List UInt8).isPrefixOf (c :: r) = false := by
          simp [List.isPrefixOf, Ne.symm h]
        rw [dot, this]; rfl
theorem count_rows {A : List UInt8} {R : List (List UInt8)} (h : rowsF [] A = some R) : A = unrows R ∧ (∀ r ∈ R, Cl r) ∧ 2 * R.length ≤ A.length := by
  obtain ⟨e, hc⟩ := rowsF_some A [] R h
  rw [List.nil_append] at e
  exact ⟨e, hc, by rw [e]; exact unrows_count R⟩
theorem stuffR_f (A : List UInt8) (hA : A.length ≤ 8192) (R : List (List UInt8)) (h : rowsF [] A = some R) (k : Nat) (hk : 2 * A.length + 8200 < k) :
    pouchref1_Stuff.f k (bs A) = some (bs (unrows (R.map dot) ++ [46, 13, 10])) := by
  obtain ⟨e, hc, hn⟩ := count_rows h
  unfold pouchref1_Stuff.f
  rw [(rows_f A k hk).1 hA R h]
  simp only [Option.bind_some]
  have := stuff_loop R hc (by omega) R.length 0 k [] (by omega) (by omega) (by simp; omega)
  rw [show (⟨#[]⟩ : ByteArray) = bs [] from rfl]
  exact this

/-! ### The program's own -/
theorem any_iff (r : List UInt8) : Lib.containsAny r [13, 10] = !decide (∀ b ∈ r, b ≠ 13 ∧ b ≠ 10) := by
  unfold Lib.containsAny
  induction r with
  | nil => simp [Lib.indexAny]
  | cons c r ih =>
    have hge := Lib.indexAny_ge [13, 10] r
    rw [Lib.indexAny]
    by_cases hc : ([13, 10] : List UInt8).contains c = true
    · rw [if_pos hc]
      have : ¬ (∀ b ∈ c :: r, b ≠ 13 ∧ b ≠ 10) := fun h => by
        have := h c (by simp)
        simp [this.1, this.2] at hc
      rw [decide_eq_false this]; rfl
    · rw [if_neg hc]
      have hcc : c ≠ 13 ∧ c ≠ 10 := by
        simp at hc; exact hc
      have e : (∀ b ∈ c :: r, b ≠ 13 ∧ b ≠ 10) ↔ (∀ b ∈ r, b ≠ 13 ∧ b ≠ 10) := by
        simp [hcc.1, hcc.2]
      rw [decide_eq_decide.2 e, ← ih]
      by_cases h1 : Lib.indexAny r [13, 10] = -1
      · simp [h1]
      · have : (Lib.indexAny r [13, 10] == -1) = false := by simpa using h1
        rw [this]
        exact decide_eq_decide.2 (by simp; omega)
theorem line_f (r : List UInt8) (hr : r.length ≤ 8192) : dots_Line.f (bs r) = some (decide (Cl r)) := by
  unfold dots_Line.f
  rw [bs_size]
  by_cases h : r.length ≤ 509
  · rw [if_pos (by omega)]
    unfold strings_ContainsAny.f
    rw [if_pos ⟨by rw [bs_size]; omega, rfl⟩, bs_dt, any_iff]
    simp only [Option.bind_some]
    congr 1
    rw [Bool.not_not]
    exact decide_eq_decide.2 ⟨fun h' => ⟨h', h⟩, fun h' => h'.1⟩
  · rw [if_neg (by omega)]
    congr 1
    exact (decide_eq_false fun h' => h h'.2).symm
theorem may_is : ∀ (n : Nat) (A : List UInt8) (k : Nat), A.length ≤ n → n < k → A.length ≤ 8192 → dots_May.l0 k (bs A) = some (rowsF [] A).isSome := by
  intro n
  induction n with
  | zero =>
    intro A k hn hk hA
    obtain ⟨k, rfl⟩ : ∃ m, k = m + 1 := ⟨k - 1, by omega⟩
    obtain rfl := List.length_eq_zero_iff.1 (by omega : A.length = 0)
    rw [dots_May.l0, if_pos (bs_toList []), rowsF]
    rfl
  | succ n ih =>
    intro A k hn hk hA
    obtain ⟨k, rfl⟩ : ∃ m, k = m + 1 := ⟨k - 1, by omega⟩
    rw [dots_May.l0, bs_toList]
    by_cases h0 : A = []
    · subst h0
      rw [if_pos rfl, rowsF]
      rfl
    · rw [if_neg h0]
      unfold strings_Cut.f
      rw [bs_size, if_pos (by omega), show (⟨#[13, 10]⟩ : ByteArray) = bs [13, 10] from rfl, bs_dt, bs_dt]
      simp only [Option.bind_some]
      by_cases hi : 0 ≤ Lib.index A [13, 10]
      · obtain ⟨p, X, rfl, hp, hc⟩ := index_at hi
        rw [List.length_append, List.length_cons, List.length_cons] at hn hA
        rw [hc, if_pos rfl]
        show (dots_Line.f (bs p)).bind _ = _
        rw [line_f p (by omega), rowsF_end p X hp]
        simp only [Option.bind_some]
        by_cases hcl : Cl p
        · rw [if_pos hcl, if_pos (decide_eq_true hcl)]
          have := ih X k (by omega) (by omega) (by omega)
          rw [Option.isSome_map]
          exact this
        · rw [if_neg hcl, if_neg (by rw [decide_eq_true_eq]; exact hcl)]
          rfl
      · have hno := index_no (a := A) (by
          rcases Lib.index_spec A [13, 10] with ⟨he, _⟩ | ⟨i, he, _⟩
          · exact he
          · omega)
        rw [cut_no hno, rowsF_no A hno, if_neg h0, if_neg (by show ¬ (false = true); decide)]
        rfl
theorem may_f (A : List UInt8) (k : Nat) (hk : A.length < k) : dots_May.f k (bs A) = some (decide (A.length ≤ 8192) && (rowsF [] A).isSome) := by
  unfold dots_May.f
  rw [bs_size]
  by_cases h : A.length ≤ 8192
  · rw [if_neg (by omega), may_is A.length A k (Nat.le_refl _) hk h, decide_eq_true h]; rfl
  · rw [if_pos (by omega), decide_eq_false h]; rfl
/-- Whether a text may be. -/
def Ok (A : List UInt8) : Bool := decide (A.length ≤ 8192) && (rowsF [] A).isSome
theorem check_f (A : List UInt8) (k : Nat) (hk : A.length < k) : dots_Check.f k (bs A) = some (if Ok A then 0 else 1) := by
  unfold dots_Check.f
  rw [may_f A k hk]
  show (if Ok A = true then _ else _) = _
  split <;> rfl
theorem ok_iff {A : List UInt8} (h : Ok A = true) : A.length ≤ 8192 ∧ ∃ R, rowsF [] A = some R := by
  unfold Ok at h
  rw [Bool.and_eq_true, decide_eq_true_eq] at h
  exact ⟨h.1, Option.isSome_iff_exists.1 h.2⟩
theorem stuff_no (A : List UInt8) (k : Nat) (hk : A.length < k) (h : Ok A = false) : dots_Stuff.f k (bs A) = some ((⟨#[]⟩ : ByteArray), 1) := by
  unfold dots_Stuff.f
  rw [may_f A k hk]
  show (if Ok A = true then _ else _) = _
  rw [h]; rfl
theorem stuff_yes (A : List UInt8) (k : Nat) (hk : A.length < k) (R : List (List UInt8)) (hA : A.length ≤ 8192) (h : rowsF [] A = some R) : dots_Stuff.f k (bs A) = some (bs (unrows (R.map dot) ++ [46, 13, 10]), 0) := by
  obtain ⟨e, hc, hn⟩ := count_rows h
  unfold dots_Stuff.f
  rw [may_f A k hk, h, decide_eq_true hA]
  show ((dots_Lay.f (bs A)).bind _) = _
  unfold dots_Lay.f
  rw [bs_size, if_pos (by omega), bs_dt, e, layB_unrows R hc]
  rfl
theorem wakes_f (k : Nat) (hk : 0 < k) : pouchlaw2_wakes.f k = some true := by
  unfold pouchlaw2_wakes.f
  rw [show (⟨#[]⟩ : ByteArray) = bs [] from rfl, stuff_yes [] k hk [] (by simp) (by simp [rowsF])]
  simp only [Option.bind_some, pouchlaw2_num.f, bs_toList]
  rfl
end Go.Proofs.Ytdedodfeopdkaaa
