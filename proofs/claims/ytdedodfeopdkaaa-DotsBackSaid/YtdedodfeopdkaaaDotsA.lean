/- Plain words on texts as lines. -/
import Derived.Test.YtdedodfeopdkaaaFrameA
import Derived.Test.YtdedodfeopdkaaaLay
namespace Go.Proofs.Ytdedodfeopdkaaa
set_option linter.unusedSimpArgs false
set_option linter.unusedVariables false
open Go.RowKit

/-- A line of a text: no byte 13 or 10, not too long. -/
def Cl (r : List UInt8) : Prop := (∀ b ∈ r, b ≠ 13 ∧ b ≠ 10) ∧ r.length ≤ 509
instance (r : List UInt8) : Decidable (Cl r) := by unfold Cl; infer_instance

/-- A text's lines, u being what of the first has come already. -/
def rowsF : List UInt8 → List UInt8 → Option (List (List UInt8))
  | u, [] => if u = [] then some [] else none
  | u, c :: X => if u.getLast? = some 13 ∧ c = 10 then (if Cl u.dropLast then (rowsF [] X).map (u.dropLast :: ·) else none) else rowsF (u ++ [c]) X

def unrows : List (List UInt8) → List UInt8
  | [] => []
  | r :: t => r ++ 13 :: 10 :: unrows t

theorem rowsF_run (X : List UInt8) : ∀ (p u : List UInt8), NoEnd (u ++ p) → rowsF u (p ++ X) = rowsF (u ++ p) X
  | [], u, _ => by simp
  | c :: p, u, h => by
    have h' : NoEnd ((u ++ [c]) ++ p) := by simpa using h
    rw [List.cons_append, rowsF, if_neg (NoEnd.step h), rowsF_run X p (u ++ [c]) h']
    simp
theorem rowsF_end (p X : List UInt8) (h : NoEnd (p ++ [13])) : rowsF [] (p ++ 13 :: 10 :: X) = if Cl p then (rowsF [] X).map (p :: ·) else none := by
  have := rowsF_run (10 :: X) (p ++ [13]) [] (by simpa using h)
  rw [List.append_assoc, List.singleton_append, List.nil_append] at this
  rw [this, rowsF, if_pos ⟨by simp, rfl⟩, List.dropLast_concat]
theorem rowsF_no (s : List UInt8) (h : NoEnd s) : rowsF [] s = if s = [] then some [] else none := by
  have := rowsF_run [] s [] (by simpa using h)
  rw [List.append_nil, List.nil_append] at this
  rw [this, rowsF]
theorem noEnd_of {r : List UInt8} (h : ∀ b ∈ r, b ≠ 13 ∧ b ≠ 10) : NoEnd (r ++ [13]) := by
  intro j g1 g2
  have hj := (List.getElem?_eq_some_iff.1 g2).1
  rw [List.length_append, List.length_singleton] at hj
  rw [List.getElem?_append_left (by omega)] at g1
  exact (h 13 (List.mem_of_getElem? g1)).1 rfl
theorem rowsF_row (r X : List UInt8) (h : ∀ b ∈ r, b ≠ 13 ∧ b ≠ 10) : rowsF [] (r ++ 13 :: 10 :: X) = if Cl r then (rowsF [] X).map (r :: ·) else none := rowsF_end r X (noEnd_of h)
theorem rowsF_unrows (rs : List (List UInt8)) (h : ∀ r ∈ rs, Cl r) : rowsF [] (unrows rs) = some rs := by
  induction rs with
  | nil => simp [unrows, rowsF]
  | cons r t ih =>
    rw [unrows, rowsF_row r _ (h r (by simp)).1, if_pos (h r (by simp)), ih (fun r hr => h r (by simp [hr]))]
    rfl
theorem rowsF_some : ∀ (X u : List UInt8) (rs : List (List UInt8)), rowsF u X = some rs → u ++ X = unrows rs ∧ ∀ r ∈ rs, Cl r
  | [], u, rs, h => by
    rw [rowsF] at h
    split at h
    · rename_i hu; cases h; subst hu; exact ⟨rfl, by simp⟩
    · cases h
  | c :: X, u, rs, h => by
    rw [rowsF] at h
    split at h
    · rename_i hc
      split at h
      · rename_i hcl
        cases hr : rowsF [] X with
        | none => rw [hr] at h; cases h
        | some t =>
          rw [hr] at h
          obtain rfl := Option.some.inj h
          obtain ⟨e, ht⟩ := rowsF_some X [] t hr
          refine ⟨?_, ?_⟩
          · have hu : u = u.dropLast ++ [13] := by
              have hne : u ≠ [] := by rintro rfl; simp at hc
              have := List.dropLast_concat_getLast hne
              rw [List.getLast?_eq_some_getLast hne] at hc
              rw [Option.some.inj hc.1] at this
              exact this.symm
            rw [unrows, hc.2, ← e, List.nil_append]
            conv => lhs; rw [hu]
            simp
          · intro r hr'
            rcases List.mem_cons.1 hr' with rfl | hr'
            · exact hcl
            · exact ht r hr'
      · cases h
    · obtain ⟨e, ht⟩ := rowsF_some X (u ++ [c]) rs h
      exact ⟨by rw [← e]; simp, ht⟩

/-- A line as it is sent. -/
def dot (r : List UInt8) : List UInt8 := (if [46].isPrefixOf r then [46] else []) ++ r
theorem layB_unrows (rs : List (List UInt8)) (h : ∀ r ∈ rs, Cl r) : layB true (unrows rs) = unrows (rs.map dot) := by
  induction rs with
  | nil => rfl
  | cons r t ih =>
    have hr := (h r (by simp)).1
    have hl : IsLine (r ++ [13, 10]) (unrows t) := by
      refine ⟨by simp, fun j hj => ?_, .inl (by simp)⟩
      simp only [List.length_append, List.length_cons, List.length_nil] at hj
      by_cases hj' : j < r.length
      · rw [List.getElem?_append_left hj']
        intro e
        exact (hr 10 (List.mem_of_getElem? e)).2 rfl
      · rw [show j = r.length by omega, List.getElem?_append_right (Nat.le_refl _), Nat.sub_self]
        decide
    have e : unrows (r :: t) = (r ++ [13, 10]) ++ unrows t := by simp [unrows]
    have hp : ([46] : List UInt8).isPrefixOf (r ++ [13, 10]) = [46].isPrefixOf r := by
      cases r with
      | nil => rfl
      | cons c r => simp [List.isPrefixOf]
    rw [e, layB_line _ _ hl, ih (fun r hr => h r (by simp [hr])), hp, List.map_cons, unrows, dot]
    simp
theorem mem_unrows_len (rs : List (List UInt8)) : ∀ r ∈ rs, r.length + 2 ≤ (unrows rs).length := by
  induction rs with
  | nil => simp
  | cons r t ih =>
    intro x hx
    rw [unrows, List.length_append, List.length_cons, List.length_cons]
    rcases List.mem_cons.1 hx with rfl | hx
    · omega
    · have := ih x hx; omega
theorem unrows_append (a b : List (List UInt8)) : unrows (a ++ b) = unrows a ++ unrows b := by
  induction a with
  | nil => rfl
  | cons r t ih => simp [unrows, ih]
theorem unrows_count (rs : List (List UInt8)) : 2 * rs.length ≤ (unrows rs).length := by
  induction rs with
  | nil => simp
  | cons r t ih => rw [unrows]; simp; omega
end Go.Proofs.Ytdedodfeopdkaaa
