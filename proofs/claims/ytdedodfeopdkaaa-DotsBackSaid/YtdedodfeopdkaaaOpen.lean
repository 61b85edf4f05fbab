/- How an argument of any type of slices, structs, strings, numbers and bools is read out of what a statement tells of it. -/
import Derived.Test.YtdedodfeopdkaaaWWords
import Derived.Deep.Slices
import Derived.SizedLaws
namespace Go.Proofs.Ytdedodfeopdkaaa
open Go.RowKit Go.Proofs.YtdedodfeopdkaaaW.PrintWords

/-- What came in as a value of type t is of the kind d, and of the form wf. -/
structure Opn {α : Type} (P : Program) (t : TypeId) (d : Kd α) (wf : α → Prop) : Prop where
  cells : P.cellsOf t = d.sz
  op : ∀ {H : Type} {enc : TypeId × Value → H} {w : World} {base : Nat} {spare : Nat → Bool} {fuel : Nat} {cs : List Value} {D : DataW H} {ps : List MemPlace},
    DataW.trod enc P w base spare true fuel t cs = some (D, ps) → (∀ n ∈ D.weights P t, n ≤ reachBytes) → ∃ x, d.K w x cs ∧ wf x

theorem Opn.imp {α : Type} {P : Program} {t : TypeId} {d : Kd α} {wf wf' : α → Prop} (h : Opn P t d wf) (hi : ∀ x, wf x → wf' x) : Opn P t d wf' :=
  ⟨h.cells, fun ht hw => let ⟨x, hk, hx⟩ := h.op ht hw; ⟨x, hk, hi x hx⟩⟩

theorem Opn.int {P : Program} {t : TypeId} {k : IntKind} (hc : P.cellsOf t = 1) (hu : P.underlying t = some (.int k)) : Opn P t (Kd.int k) (fun x => (Lit.int k x).wf = true) :=
  ⟨hc, fun ht _ => by
    obtain ⟨n, rfl, _, hw⟩ := DataW.trod_int hu ht
    exact ⟨n, rfl, hw⟩⟩
theorem Opn.bool {P : Program} {t : TypeId} (hc : P.cellsOf t = 1) (hu : P.underlying t = some .bool) : Opn P t Kd.bool (fun _ => True) :=
  ⟨hc, fun ht _ => by
    obtain ⟨b, rfl, _⟩ := DataW.trod_bool hu ht
    exact ⟨b, rfl, trivial⟩⟩
theorem Opn.string {P : Program} {t : TypeId} (hc : P.cellsOf t = 1) (hu : P.underlying t = some .string) : Opn P t Kd.string (fun x => x.size ≤ 140737488351232) :=
  ⟨hc, fun ht hw => by
    obtain ⟨s, rfl, hx, _⟩ := DataW.trod_string hu ht
    obtain ⟨rfl, rfl⟩ := Prod.mk.inj hx
    have := hw s.data.toList.length (by simp [DataW.weights])
    refine ⟨s, rfl, ?_⟩
    rw [Array.length_toList] at this
    exact this⟩

theorem all_lt {α : Type} {Q : Nat → α → Prop} : ∀ n : Nat, (∀ i, i < n → ∃ x, Q i x) → ∃ xs : List α, xs.length = n ∧ ∀ i x, xs[i]? = some x → Q i x
  | 0, _ => ⟨[], rfl, fun i x h => by simp at h⟩
  | n + 1, h => by
    obtain ⟨xs, hl, hx⟩ := all_lt n (fun i hi => h i (by omega))
    obtain ⟨y, hy⟩ := h n (by omega)
    refine ⟨xs ++ [y], by simp [hl], fun i x hi => ?_⟩
    by_cases hlt : i < xs.length
    · rw [List.getElem?_append_left hlt] at hi
      exact hx i x hi
    · rw [List.getElem?_append_right (by omega)] at hi
      have hi0 : i - xs.length = 0 := by
        have := (List.getElem?_eq_some_iff.1 hi).1
        simp at this
        omega
      rw [hi0] at hi
      have he : i = n := by omega
      subst he
      simp at hi
      subst hi
      exact hy

theorem Opn.slice {α : Type} {P : Program} {t e : TypeId} {d : Kd α} {wf : α → Prop} (hc : P.cellsOf t = 1) (hu : P.underlying t = some (.slice e)) (he : Opn P e d wf) :
    Opn P t (Kd.slice e d) (fun xs => xs.length * P.bytesOf e ≤ 140737488351232 ∧ ∀ x ∈ xs, wf x) :=
  ⟨hc, by
    intro H enc w base spare fuel cs D ps ht hw
    rcases Go.Deep.open_slice hu ht with ⟨rfl, hx⟩ | ⟨a, len, cap, m, n, Dd, Pl, rfl, _, hl, hm, hmm, hx, hi⟩
    · exact ⟨[], ⟨none, 0, rfl, Nat.le_refl _, rfl, Nat.zero_le _, fun h => absurd h (by simp)⟩, by simp, fun x h => by simp at h⟩
    · obtain ⟨rfl, rfl⟩ := Prod.mk.inj hx
      have hlm : len ≤ m := by rw [hmm]; split <;> omega
      have hwt : ∀ i, i < len → ∀ k ∈ (Dd i).weights P e, k ≤ reachBytes := by
        intro i hil k hk
        refine hw k ?_
        simp only [DataW.weights, hu]
        refine List.mem_cons_of_mem _ (List.mem_append_left _ ?_)
        have : ∀ (l : List (DataW H)) (z : DataW H), z ∈ l → ∀ k ∈ z.weights P e, k ∈ DataW.weightsAll P e l := by
          intro l z hz
          induction l with
          | nil => simp at hz
          | cons y l ih =>
            intro k hk
            simp only [DataW.weightsAll, List.mem_append]
            rcases List.mem_cons.1 hz with rfl | hz
            · exact Or.inl hk
            · exact Or.inr (ih hz k hk)
        exact this _ (Dd i) (List.mem_map.2 ⟨i, List.mem_range.2 hil, rfl⟩) k hk
      obtain ⟨xs, hxl, hxs⟩ := all_lt (Q := fun i x => (∃ c, c.length = d.sz ∧ d.K w x c ∧ ∀ j u, c[j]? = some u → w.cell? (a.add (i * d.sz + j)) = some u) ∧ wf x) len (by
        intro i hil
        obtain ⟨cs', h1, h2⟩ := hi i (by omega)
        obtain ⟨x, hk, hx⟩ := he.op h2 (hwt i hil)
        obtain ⟨_, hlen, hcell⟩ := World.cells?_some h1
        refine ⟨x, ⟨cs', by rw [hlen, he.cells], hk, fun j u hj => ?_⟩, hx⟩
        have hjl : j < P.cellsOf e := by rw [← hlen]; exact (List.getElem?_eq_some_iff.1 hj).1
        have := hcell j hjl
        rw [hj] at this
        rw [← this, ← he.cells]
        rw [Go.Addr.add_add])
      subst hxl
      refine ⟨xs, ⟨some a, cap, rfl, hl, rfl, ?_, fun _ => ⟨a, rfl, fun j x hj => (hxs j x hj).1⟩⟩, ?_, fun x hx => ?_⟩
      · simp only [maxLen] at hm; omega
      · have := hw ((((List.range xs.length).map Dd).length + ((List.range (m - xs.length)).map fun j => Dd (xs.length + j)).length) * P.bytesOf e) (by simp [DataW.weights, hu])
        simp only [List.length_map, List.length_range] at this
        refine Nat.le_trans (Nat.mul_le_mul_right _ ?_) this
        omega
      · obtain ⟨i, hil, rfl⟩ := List.mem_iff_getElem.1 hx
        exact (hxs i _ (List.getElem?_eq_getElem hil)).2⟩

/-- The same of fields that lie one behind the other from off on. -/
structure OpnFs {α : Type} (P : Program) (fs : List Field) (off : Nat) (d : Kd α) (wf : α → Prop) : Prop where
  op : ∀ {H : Type} {enc : TypeId × Value → H} {w : World} {base : Nat} {spare : Nat → Bool} {n : Nat} {cs : List Value} (ys : List (DataW H × List MemPlace)),
    (∀ (i : Nat) (f : Field), fs[i]? = some f → DataW.trod enc P w base spare true n f.type ((cs.drop f.offset).take (P.cellsOf f.type)) = ys[i]?) → ys.length = fs.length →
    (∀ k ∈ DataW.weightsEach P (fs.map (·.type)) (ys.map (·.1)), k ≤ reachBytes) → ∃ x, d.K w x ((cs.drop off).take d.sz) ∧ wf x

theorem OpnFs.one {α : Type} {P : Program} {f : Field} {off : Nat} {d : Kd α} {wf : α → Prop} (h : Opn P f.type d wf) (ho : f.offset = off) : OpnFs P [f] off d wf :=
  ⟨by
    intro H enc w base spare n cs ys hy hl hw
    match ys, hl with
    | [y], _ =>
      have h0 := hy 0 f rfl
      simp only [List.getElem?_cons_zero] at h0
      obtain ⟨x, hk, hx⟩ := h.op (D := y.1) (ps := y.2) h0 (fun k hk => hw k (by simp [DataW.weightsEach, hk]))
      rw [h.cells, ho] at hk
      exact ⟨x, hk, hx⟩⟩
theorem OpnFs.cons {α β : Type} {P : Program} {f : Field} {fs : List Field} {off : Nat} {a : Kd α} {b : Kd β} {wa : α → Prop} {wb : β → Prop} (h : Opn P f.type a wa) (ho : f.offset = off) (hr : OpnFs P fs (off + a.sz) b wb) :
    OpnFs P (f :: fs) off (Kd.pair a b) (fun x => wa x.1 ∧ wb x.2) :=
  ⟨by
    intro H enc w base spare n cs ys hy hl hw
    match ys, hl with
    | y :: ys, hl =>
      have h0 := hy 0 f rfl
      simp only [List.getElem?_cons_zero] at h0
      obtain ⟨x, hk, hx⟩ := h.op (D := y.1) (ps := y.2) h0 (fun k hk => hw k (by simp [DataW.weightsEach, hk]))
      obtain ⟨z, hkz, hz⟩ := hr.op ys (fun i g hg => by simpa using hy (i + 1) g (by simpa using hg)) (by simpa using hl) (fun k hk => hw k (by simp only [List.map_cons, DataW.weightsEach, List.mem_append]; exact Or.inr hk))
      rw [h.cells, ho] at hk
      refine ⟨(x, z), ⟨_, _, ?_, hk, hkz⟩, hx, hz⟩
      show (cs.drop off).take (a.sz + b.sz) = _
      rw [List.take_add, List.drop_drop]⟩
theorem Opn.struct {α : Type} {P : Program} {t : TypeId} {fs : Array Field} {d : Kd α} {wf : α → Prop} (hc : P.cellsOf t = d.sz) (hu : P.underlying t = some (.struct fs)) (hf : OpnFs P fs.toList 0 d wf) : Opn P t d wf :=
  ⟨hc, by
    intro H enc w base spare fuel cs D ps ht hw
    obtain ⟨xs, n, _, hx, hl, hlen, hy⟩ := DataW.trod_struct hu ht
    obtain ⟨rfl, rfl⟩ := Prod.mk.inj hx
    obtain ⟨x, hk, hx⟩ := hf.op xs (fun i f hi => hy i f (by simpa using hi)) (by simpa using hlen) (fun k hk => hw k (by simp only [DataW.weights, hu]; exact hk))
    rw [List.drop_zero, ← hc, ← hl, List.take_length] at hk
    exact ⟨x, hk, hx⟩⟩
theorem Opn.iso {α β : Type} {P : Program} {t : TypeId} {d : Kd α} {wf : α → Prop} {f : β → α} {g : α → β} (h : Opn P t d wf) (hg : ∀ x, f (g x) = x) : Opn P t (Kd.iso d f) (fun y => wf (f y)) :=
  ⟨h.cells, fun ht hw => let ⟨x, hk, hx⟩ := h.op ht hw; ⟨g x, (show d.K _ (f (g x)) _ by rw [hg]; exact hk), by rw [hg]; exact hx⟩⟩
end Go.Proofs.Ytdedodfeopdkaaa
