/- Part 2 of 10 of the texts that the sender's rows rest on, put together by a program; no condition. -/
import Derived.Test.YtilagaapfbfkkaaGreatDoorZV1
import Derived.Lib.AppendStr
import Derived.Maps.AppendAt
import Derived.Laws.Tables
import Derived.Laws.Slices
import Derived.Laws.StructEq
set_option maxHeartbeats 128000000
set_option linter.unusedSimpArgs false
set_option linter.unusedVariables false
namespace Go.Proofs.YtilagaapfbfkkaaGreatDoor.Ab
open Go Go.RowKit Go.Proofs.YtilagaapfbfkkaaGreatDoorW.PrintWords
variable {X : Cx} {P : Program} {T : Tab}
theorem Goes.refl (w : World) (I : Nat → Prop) : Goes w I w I := fun _ h => ⟨rfl, h⟩
theorem getElem?_app {α : Type} {l : List α} {v x : α} {i : Nat} (h : (l ++ [v])[i]? = some x) : l[i]? = some x ∨ (i = l.length ∧ x = v) := by
  rcases Nat.lt_trichotomy i l.length with hl | hl | hl
  · rw [List.getElem?_append_left hl] at h; exact .inl h
  · subst hl; simp at h; exact .inr ⟨rfl, h.symm⟩
  · rw [List.getElem?_eq_none (by simp; omega)] at h; cases h
theorem Imm.grow {w w' : World} {lk : List Value} {v : Value} (hs : w.heap.size ≤ w'.heap.size) (hv : ∀ b, blk v = some b → w.heap.size ≤ b) {b : Nat} (h : Imm X w lk b) : Imm X w' (lk ++ [v]) b := by
  refine ⟨Nat.lt_of_lt_of_le h.1 hs, fun u hu => ?_, h.2.2⟩
  rcases List.mem_append.1 hu with hu | hu
  · exact h.2.1 u hu
  · simp at hu; subst hu
    intro he; have := hv b he; have := h.1; omega
theorem Goes.grow {w w' : World} {lk : List Value} {v : Value} (hb : ∀ k, k < w.heap.size → w'.heap[k]? = w.heap[k]?) (hs : w.heap.size ≤ w'.heap.size) (hv : ∀ b, blk v = some b → w.heap.size ≤ b) :
    Goes w (Imm X w lk) w' (Imm X w' (lk ++ [v])) := fun b h => ⟨hb b h.1, h.grow hs hv⟩
theorem Rel.grow {w w' : World} {lk : List Value} {σ : St} {a : Act} {v : Value} {o : Ob} (h : Rel X w lk σ a) (hb : ∀ k, k < w.heap.size → w'.heap[k]? = w.heap[k]?) (hs : w.heap.size ≤ w'.heap.size)
    (hv : ∀ b, blk v = some b → w.heap.size ≤ b ∧ b < w'.heap.size) (hX : ∀ b, X.hid b → b < w.heap.size) (ho : ORep w' (Imm X w' (lk ++ [v])) (lk ++ [v]) o v) : Rel X w' (lk ++ [v]) ⟨σ.tmps, σ.objs ++ [o]⟩ a := by
  have hg := Goes.grow (X := X) (lk := lk) (v := v) hb hs (fun b hb => (hv b hb).1)
  refine ⟨h.tsz, fun t x hx => (h.tm t x hx).goes hg (Keeps.app _ _ _), by simp [h.lsz], fun i o' u ho' hu => ?_, fun i j u u' b hij hu hu' hbu => ?_, fun i u b hu hbu => ?_, fun i u b hu hbu => ?_, by rw [List.length_append]; have := h.ll; omega, fun p v0 o0 hp ho0 hk0 => ?_, h.df⟩
  · rcases getElem?_app ho' with ho' | ⟨rfl, rfl⟩
    · have hi : i < lk.length := by rw [h.lsz]; exact (List.getElem?_eq_some_iff.1 ho').1
      rw [List.getElem?_append_left hi] at hu
      exact (h.ob i o' u ho' hu).goes hg (Keeps.app _ _ _) (fun b hbu => hb b (h.lt i u b hu hbu))
    · rw [← h.lsz] at hu; simp at hu; subst hu
      exact ho
  · rcases getElem?_app hu with h1 | ⟨h1, h1'⟩ <;> rcases getElem?_app hu' with h2 | ⟨h2, h2'⟩
    · exact h.dj i j u u' b hij h1 h2 hbu
    · intro he; subst h2'; have := (hv b he).1; have := h.lt i u b h1 hbu; omega
    · intro he; subst h1'; have := (hv b hbu).1; have := h.lt j u' b h2 he; omega
    · omega
  · rcases getElem?_app hu with hu | ⟨rfl, rfl⟩
    · have := h.lt i u b hu hbu; omega
    · exact (hv b hbu).2
  · rcases getElem?_app hu with hu | ⟨rfl, rfl⟩
    · exact h.nx i u b hu hbu
    · intro hx; have := hX b hx; have := (hv b hbu).1; omega
  · have hpl : p < lk.length := Nat.lt_of_lt_of_le (List.getElem?_eq_some_iff.1 hp).1 h.ll
    rw [List.getElem?_append_left (by rw [← h.lsz]; exact hpl)] at ho0
    rw [List.getElem?_append_left hpl]
    exact h.kp p v0 o0 hp ho0 hk0
theorem Inv.grow {M : Nat → Prop} {w0 w w' : World} {lk : List Value} {v : Value} (h : Inv X M w0 w lk) (hk : Keep (fun _ => False) w w') (hv : ∀ b, blk v = some b → w.heap.size ≤ b) : Inv X M w0 w' (lk ++ [v]) := by
  refine ⟨h.keep.trans ⟨hk.os, hk.tape, hk.output, hk.size, fun k hk' _ => hk.block k hk' (fun x => x)⟩, fun u hu b hb => ?_, h.xl, h.xm, h.gr⟩
  rcases List.mem_append.1 hu with hu | hu
  · exact h.news u hu b hb
  · simp at hu; subst hu
    right; have := hv b hb; have := h.keep.size; omega
theorem mem_set {α : Type} {l : List α} {i : Nat} {v x : α} (h : x ∈ l.set i v) : x ∈ l ∨ x = v := List.mem_or_eq_of_mem_set h
theorem Imm.upd {w w' : World} {lk : List Value} {i : Nat} {v v' : Value} (hi : lk[i]? = some v) (hs : w.heap.size ≤ w'.heap.size) (hv' : ∀ b, blk v' = some b → blk v = some b ∨ w.heap.size ≤ b) {b : Nat} (h : Imm X w lk b) : Imm X w' (lk.set i v') b := by
  refine ⟨Nat.lt_of_lt_of_le h.1 hs, fun u hu => ?_, h.2.2⟩
  rcases mem_set hu with hu | rfl
  · exact h.2.1 u hu
  · intro he
    rcases hv' b he with h1 | h1
    · exact h.2.1 v (List.mem_of_getElem? hi) h1
    · have := h.1; omega
theorem Goes.upd {w w' : World} {lk : List Value} {i : Nat} {v v' : Value} (hi : lk[i]? = some v) (hb : ∀ k, k < w.heap.size → blk v ≠ some k → w'.heap[k]? = w.heap[k]?) (hs : w.heap.size ≤ w'.heap.size)
    (hv' : ∀ b, blk v' = some b → blk v = some b ∨ w.heap.size ≤ b) : Goes w (Imm X w lk) w' (Imm X w' (lk.set i v')) :=
  fun b h => ⟨hb b h.1 (h.2.1 v (List.mem_of_getElem? hi)), h.upd hi hs hv'⟩
theorem Rel.upd {w w' : World} {lk : List Value} {σ σ' : St} {a : Act} {i : Nat} {v v' : Value} {o' : Ob} (h : Rel X w lk σ a) (hi : lk[i]? = some v)
    (hb : ∀ k, k < w.heap.size → blk v ≠ some k → w'.heap[k]? = w.heap[k]?) (hs : w.heap.size ≤ w'.heap.size)
    (hv' : ∀ b, blk v' = some b → blk v = some b ∨ (w.heap.size ≤ b ∧ b < w'.heap.size)) (hX : ∀ b, X.hid b → b < w.heap.size) (hkp : keepsO o' = true → v' = v ∧ ∀ o, σ.objs[i]? = some o → keepsO o = true)
    (hl : σ'.tmps.length = σ.tmps.length) (hlo : σ'.objs.length = σ.objs.length)
    (ht : ∀ (t : Nat) (x' : V), σ'.tmps[t]? = some x' → ∃ x, σ.tmps[t]? = some x ∧ ∀ u, VRep w (Imm X w lk) lk x u → VRep w' (Imm X w' (lk.set i v')) (lk.set i v') x' u)
    (hoi : σ'.objs[i]? = some o') (ho' : ORep w' (Imm X w' (lk.set i v')) (lk.set i v') o' v')
    (hoj : ∀ (j : Nat) (oj : Ob), j ≠ i → σ'.objs[j]? = some oj → ∃ o, σ.objs[j]? = some o ∧ keepsO oj = keepsO o ∧ ∀ u, (∀ b, blk u = some b → w'.heap[b]? = w.heap[b]?) → ORep w (Imm X w lk) lk o u → ORep w' (Imm X w' (lk.set i v')) (lk.set i v') oj u) :
    Rel X w' (lk.set i v') σ' a := by
  have hlti : i < lk.length := (List.getElem?_eq_some_iff.1 hi).1
  refine ⟨by rw [hl, h.tsz], fun t x' hx' => ?_, by rw [List.length_set, h.lsz, hlo], fun j oj u hj hu => ?_, fun j k u u' b hjk hu hu' hbu => ?_, fun j u b hu hbu => ?_, fun j u b hu hbu => ?_, by rw [List.length_set]; exact h.ll, fun p v0 o0 hp ho0 hk0 => ?_, h.df⟩
  · obtain ⟨x, hx, hxu⟩ := ht t x' hx'
    exact hxu _ (h.tm t x hx)
  · by_cases hji : j = i
    · subst hji
      rw [hoi] at hj
      rw [List.getElem?_set_self hlti] at hu
      simp at hj hu; subst hj hu
      exact ho'
    · obtain ⟨o, ho, _, hou⟩ := hoj j oj hji hj
      rw [List.getElem?_set_ne (Ne.symm hji)] at hu
      refine hou u (fun b hbu => hb b (h.lt j u b hu hbu) (fun hvb => ?_)) (h.ob j o u ho hu)
      exact h.dj i j v u b (Ne.symm hji) hi hu hvb hbu
  · by_cases hj : j = i <;> by_cases hk : k = i
    · subst hj hk; exact absurd rfl hjk
    · subst hj
      rw [List.getElem?_set_self hlti] at hu
      rw [List.getElem?_set_ne (Ne.symm hk)] at hu'
      simp at hu; subst hu
      intro he
      rcases hv' b hbu with h1 | h1
      · exact h.dj j k v u' b hjk hi hu' h1 he
      · have := h.lt k u' b hu' he; omega
    · subst hk
      rw [List.getElem?_set_self hlti] at hu'
      rw [List.getElem?_set_ne (Ne.symm hj)] at hu
      simp at hu'; subst hu'
      intro he
      rcases hv' b he with h1 | h1
      · exact h.dj j k u v b hjk hu hi hbu h1
      · have := h.lt j u b hu hbu; omega
    · rw [List.getElem?_set_ne (Ne.symm hj)] at hu
      rw [List.getElem?_set_ne (Ne.symm hk)] at hu'
      exact h.dj j k u u' b hjk hu hu' hbu
  · by_cases hj : j = i
    · subst hj
      rw [List.getElem?_set_self hlti] at hu
      simp at hu; subst hu
      rcases hv' b hbu with h1 | h1
      · have := h.lt j v b hi h1; omega
      · exact h1.2
    · rw [List.getElem?_set_ne (Ne.symm hj)] at hu
      have := h.lt j u b hu hbu; omega
  · by_cases hj : j = i
    · subst hj
      rw [List.getElem?_set_self hlti] at hu
      simp at hu; subst hu
      rcases hv' b hbu with h1 | h1
      · exact h.nx j v b hi h1
      · intro hx; have := hX b hx; omega
    · rw [List.getElem?_set_ne (Ne.symm hj)] at hu
      exact h.nx j u b hu hbu
  · by_cases hpi : p = i
    · subst hpi
      rw [hoi] at ho0
      simp at ho0; subst ho0
      obtain ⟨rfl, hko⟩ := hkp hk0
      rw [List.getElem?_set_self hlti]
      obtain ⟨o, ho⟩ : ∃ o, σ.objs[p]? = some o := ⟨_, List.getElem?_eq_getElem (by rw [← h.lsz]; exact hlti)⟩
      have := h.kp p v0 o hp ho (hko o ho)
      rw [hi] at this; exact this
    · obtain ⟨o, ho, hke, _⟩ := hoj p o0 hpi ho0
      rw [List.getElem?_set_ne (Ne.symm hpi)]
      exact h.kp p v0 o hp ho (by rw [← hke]; exact hk0)
theorem Inv.lx {M : Nat → Prop} {w0 w : World} {lk : List Value} (h : Inv X M w0 w lk) : ∀ b, X.hid b → b < w.heap.size := fun b hb => by have := h.xl b hb; have := h.keep.size; omega
theorem Inv.upd {M : Nat → Prop} {w0 w w' : World} {lk : List Value} {i : Nat} {v v' : Value} (h : Inv X M w0 w lk) (hi : lk[i]? = some v) (hk : Keep (fun b => blk v = some b) w w')
    (hv' : ∀ b, blk v' = some b → blk v = some b ∨ w.heap.size ≤ b) : Inv X M w0 w' (lk.set i v') := by
  have hvm := h.news v (List.mem_of_getElem? hi)
  refine ⟨⟨hk.os.trans h.keep.os, hk.tape.trans h.keep.tape, hk.output.trans h.keep.output, Nat.le_trans h.keep.size hk.size, fun k hk' hM => ?_⟩, fun u hu b hb => ?_, h.xl, h.xm, h.gr⟩
  · refine (hk.block k (Nat.lt_of_lt_of_le hk' h.keep.size) (fun hbv => ?_)).trans (h.keep.block k hk' hM)
    rcases hvm k hbv with h1 | h1
    · exact hM h1
    · omega
  · rcases mem_set hu with hu | rfl
    · exact h.news u hu b hb
    · rcases hv' b hb with h1 | h1
      · exact hvm b h1
      · right; have := h.keep.size; omega
theorem V.map_rep {w w' : World} {I I' : Nat → Prop} {lk lk' : List Value} {f : C → C} (hf : ∀ c u, CRep w I lk c u → CRep w' I' lk' (f c) u) {x : V} {u : Value} (h : VRep w I lk x u) : VRep w' I' lk' (x.map f) u := by
  have hl : ∀ {l : List C} {vs : List Value}, All2 (Cel w I lk) l vs → All2 (Cel w' I' lk') (l.map f) vs := fun h => All2.map (h.imp fun c _ v hv => ⟨hf c v hv.1, hv.2⟩)
  cases x with
  | one c => exact hf c u h
  | agg l => obtain ⟨vs, rfl, ha⟩ := h; exact ⟨vs, rfl, hl ha⟩
  | tup l =>
    obtain ⟨vs, rfl, ha⟩ := h
    refine ⟨vs, rfl, All2.map (ha.imp fun e _ v hv => ?_)⟩
    cases e with
    | one c => exact hf c v hv
    | agg l => obtain ⟨us, rfl, hb⟩ := hv; exact ⟨us, rfl, hl hb⟩
  | wh g c => exact ⟨fun hg => hf c u (h.1 hg), h.2⟩
theorem Ob.map_rep {w w' : World} {I I' : Nat → Prop} {lk lk' : List Value} {f : C → C} (hg : Goes w I w' I') (hf : ∀ c u, CRep w I lk c u → CRep w' I' lk' (f c) u) {o : Ob} {u : Value}
    (hb : ∀ b, blk u = some b → w'.heap[b]? = w.heap[b]?) (h : ORep w I lk o u) : ORep w' I' lk' (o.map f) u := by
  cases o with
  | box e0 l =>
    obtain ⟨b, cur, rfl, hh, ha⟩ := h
    exact ⟨b, cur, rfl, (hb b rfl).trans hh, All2.map (ha.imp fun c _ v hv => ⟨hf c v hv.1, hv.2⟩)⟩
  | own e t xs ap mv =>
    obtain ⟨cells, hr, hv⟩ := h
    refine ⟨cells, Reps.imp2 hr (fun p c hp => hp.goes hg), ?_⟩
    rcases hv with hv | ⟨g, cap, cur, fr, rfl, hh, rest⟩
    · exact .inl hv
    · exact .inr ⟨g, cap, cur, fr, rfl, (hb g rfl).trans hh, rest⟩
  | mset kt ks =>
    obtain ⟨r, es, clock, rfl, hh, ha⟩ := h
    exact ⟨r, es, clock, rfl, (hb r rfl).trans hh, ha⟩
  | gone => exact h
theorem get_map {α β : Type} {l : List α} {f : α → β} {i : Nat} {y : β} (h : (l.map f)[i]? = some y) : ∃ x, l[i]? = some x ∧ f x = y := by simpa using h
theorem CRep.frz {w w' : World} {I I' : Nat → Prop} {lk : List Value} {i : Nat} {e : TypeId} {t : Ty} {xs : List t.den} {ap mv : Bool} {v v' : Value} (hg : Goes w I w' I') (hi : lk[i]? = some v) (ho : ORep w I lk (.own e t xs ap mv) v) (hw : w' = w)
    (hb : ∀ b, blk v = some b → I' b) (c : C) (u : Value) (h : CRep w I lk c u) : CRep w' I' (lk.set i v') (C.frz i t xs c) u := by
  subst hw
  have key : ∀ c : C, i ∉ c.id → CRep w' I lk c u → CRep w' I' (lk.set i v') c u := fun c hc h => h.goes hg (fun j hj x hx => by
    rw [List.getElem?_set_ne (fun e => hc (by rw [e]; exact hj))]; exact hx)
  cases c with
  | own j =>
    simp only [C.frz]
    cases hij : Nat.beq i j with
    | true =>
      obtain rfl := Nat.eq_of_beq_eq_true hij
      simp only [cond_true]
      have : u = v := by have := h.1; rw [hi] at this; simpa using this.symm
      subst this
      obtain ⟨A, c, rfl, hc, hs⟩ := own_SR ho hb
      exact ⟨A, c, rfl, hc, hs.goes (Goes.refl _ _) (fun x cs hx => hx.goes hg)⟩
    | false =>
      exact key _ (by simp [C.id]; exact fun e => by rw [e] at hij; simp at hij) h
  | elt t' j k o =>
    simp only [C.frz]
    cases hij : Nat.beq i j with
    | true => trivial
    | false => exact key _ (by simp [C.id]; exact fun e => by rw [e] at hij; simp at hij) h
  | ref j o =>
    simp only [C.frz]
    by_cases hij : i = j
    · subst hij
      obtain ⟨b, hb', rfl⟩ := h
      rw [hi] at hb'
      simp at hb'; subst hb'
      obtain ⟨cells, _, hv⟩ := ho
      rcases hv with ⟨h1, _⟩ | ⟨_, _, _, _, h1, _⟩ <;> cases h1
    · exact key _ (by simp [C.id]; exact hij) h
  | mp j =>
    simp only [C.frz]
    by_cases hij : i = j
    · subst hij
      obtain ⟨h1, r, rfl⟩ := h
      rw [hi] at h1
      simp at h1; subst h1
      obtain ⟨cells, _, hv⟩ := ho
      rcases hv with ⟨h1, _⟩ | ⟨_, _, _, _, h1, _⟩ <;> cases h1
    · exact key _ (by simp [C.id]; exact hij) h
  | fn f l =>
    simp only [C.frz]
    refine key _ (fun hm => ?_) h
    obtain ⟨us, rfl, ha⟩ := h
    obtain ⟨p, hp⟩ := List.mem_iff_getElem?.1 hm
    obtain ⟨u, _, h1, b, rfl⟩ := ha.get hp
    rw [hi] at h1
    simp at h1; subst h1
    obtain ⟨cells, _, hv⟩ := ho
    rcases hv with ⟨h1, _⟩ | ⟨_, _, _, _, h1, _⟩ <;> cases h1
  | _ => simp only [C.frz]; exact key _ (by simp [C.id]) h
theorem Rel.frz1 {M : Nat → Prop} {w0 w : World} {lk : List Value} {σ : St} {a : Act} (h : Rel X w lk σ a) (hv : Inv X M w0 w lk) (i : Nat) :
    ∃ lk', Rel X w lk' (Ab.frz1 σ i) a ∧ Inv X M w0 w lk' ∧ Goes w (Imm X w lk) w (Imm X w lk') ∧ (∀ c u, CRep w (Imm X w lk) lk c u → CRep w (Imm X w lk') lk' (frzc σ i c) u) ∧
      ∀ (j : Nat) e t xs ap mv, (Ab.frz1 σ i).objs[j]? = some (.own e t xs ap mv) → lk'[j]? = lk[j]? ∧ σ.objs[j]? = some (.own e t xs ap mv) := by
  unfold Ab.frz1 frzc
  rw [nth_get]
  split
  · rename_i e t xs ap mv ho
    obtain ⟨v, hiv⟩ : ∃ v, lk[i]? = some v := ⟨_, List.getElem?_eq_getElem (by rw [h.lsz]; exact (List.getElem?_eq_some_iff.1 ho).1)⟩
    have hor := h.ob i _ v ho hiv
    have hv' : ∀ b, blk (Value.bool false) = some b → blk v = some b ∨ (w.heap.size ≤ b ∧ b < w.heap.size) := fun b hb => by cases hb
    have hgo : Goes w (Imm X w lk) w (Imm X w (lk.set i (.bool false))) := Goes.upd hiv (fun _ _ _ => rfl) (Nat.le_refl _) (fun b hb => by cases hb)
    have hbi : ∀ b, blk v = some b → Imm X w (lk.set i (.bool false)) b := fun b hb => ⟨h.lt i v b hiv hb, fun u hu => by
      obtain ⟨j, hj, rfl⟩ := List.getElem_of_mem hu
      rw [List.length_set] at hj
      by_cases hji : j = i
      · subst hji; simp [blk]
      · rw [List.getElem_set_ne (Ne.symm hji)]
        exact h.dj i j v _ b (Ne.symm hji) hiv (List.getElem?_eq_getElem hj) hb, fun hx => absurd hx (h.nx i v b hiv hb)⟩
    have hf := fun c u (hc : CRep w (Imm X w lk) lk c u) => CRep.frz (v' := .bool false) hgo hiv hor rfl hbi c u hc
    refine ⟨lk.set i (.bool false), ?_, hv.upd hiv ⟨rfl, rfl, rfl, Nat.le_refl _, fun _ _ _ => rfl⟩ (fun b hb => by cases hb), hgo, by rw [ho]; exact hf, ?_⟩
    rotate_left
    · intro j e' t' xs' ap' mv' hj
      obtain ⟨o, hoj, hoe⟩ := get_map hj
      simp only [setL_eq] at hoj
      by_cases hji : i = j
      · subst hji
        rw [List.getElem?_set_self (List.getElem?_eq_some_iff.1 ho).1] at hoj
        simp at hoj; subst hoj; cases hoe
      · rw [List.getElem?_set_ne hji] at hoj ⊢
        cases o with
        | own => exact ⟨rfl, by rw [hoj]; simpa [Ob.map] using hoe⟩
        | box => simp [Ob.map] at hoe
        | mset => simp [Ob.map] at hoe
        | gone => simp [Ob.map] at hoe
    refine h.upd (o' := .gone) hiv (fun _ _ _ => rfl) (Nat.le_refl _) hv' hv.lx (by simp [keepsO]) (by simp [St.map]) (by simp [St.map, setL_eq]) (fun t' x' hx' => ?_) ?_ (by simp [ORep, blk]) (fun j oj hji hj => ?_)
    · obtain ⟨x, hx, rfl⟩ := get_map hx'
      exact ⟨x, hx, fun u hu => V.map_rep hf hu⟩
    · simp only [St.map, setL_eq, List.getElem?_map, List.getElem?_set_self (List.getElem?_eq_some_iff.1 ho).1, Option.map_some]
      rfl
    · obtain ⟨o, hoj, rfl⟩ := get_map hj
      simp only [setL_eq] at hoj
      rw [List.getElem?_set_ne (Ne.symm hji)] at hoj
      exact ⟨o, hoj, by cases o <;> rfl, fun u hb hu => Ob.map_rep hgo hf hb hu⟩
  · rename_i hno
    refine ⟨lk, h, hv, Goes.refl _ _, fun c u hu => ?_, fun j e t xs ap mv hj => ⟨rfl, ?_⟩⟩
    rotate_left
    · exact hj
    cases hoi : σ.objs[i]? with
    | none => exact hu
    | some o => cases o with
      | own e t xs ap mv => exact (hno _ _ _ _ _ hoi).elim
      | _ => exact hu
theorem frzAll_sound {M : Nat → Prop} {w0 w : World} {a : Act} : ∀ (is : List Nat) {lk : List Value} {σ : St} {l : List C} {us : List Value} {Q : St → List C → Prop}, frzAll is σ l Q → Rel X w lk σ a → Inv X M w0 w lk → All2 (Cel w (Imm X w lk) lk) l us →
    ∃ lk' σ' l', Q σ' l' ∧ Rel X w lk' σ' a ∧ Inv X M w0 w lk' ∧ All2 (Cel w (Imm X w lk') lk') l' us ∧ ∀ (j : Nat) e t xs ap mv, σ'.objs[j]? = some (.own e t xs ap mv) → lk'[j]? = lk[j]? ∧ σ.objs[j]? = some (.own e t xs ap mv)
  | [], lk, σ, l, us, Q, h, hr, hi, ha => by
    simp only [frzAll, St.mkAll_iff, mkCs_iff] at h
    exact ⟨lk, σ, l, h, hr, hi, ha, fun _ _ _ _ _ _ hj => ⟨rfl, hj⟩⟩
  | i :: is, lk, σ, l, us, Q, h, hr, hi, ha => by
    simp only [frzAll, mkCs_iff, St.mkAll_iff] at h
    obtain ⟨lk', hr', hi', _, hf, ho⟩ := hr.frz1 hi i
    obtain ⟨lk2, σ2, l2, h1, h2, h3, h4, h6⟩ := frzAll_sound is h hr' hi' (All2.map (ha.imp fun c _ v hv => ⟨hf c v hv.1, hv.2⟩))
    refine ⟨lk2, σ2, l2, h1, h2, h3, h4, fun j e t xs ap mv hj => ?_⟩
    obtain ⟨e1, e2⟩ := h6 j e t xs ap mv hj
    exact ⟨e1.trans (ho j e t xs ap mv e2).1, (ho j e t xs ap mv e2).2⟩
end Go.Proofs.YtilagaapfbfkkaaGreatDoor.Ab
namespace Go.Proofs.YtilagaapfbfkkaaGreatDoor.Ab
open Go Go.RowKit Go.Proofs.YtilagaapfbfkkaaGreatDoorW.PrintWords
variable {X : Cx} {P : Program} {T : Tab}
def Yl (X : Cx) (M : Nat → Prop) (w0 : World) (a : Act) (Q : V → St → Prop) (r : Result Value) : Prop :=
  ∃ x σ' v w' lk', r = .ok v w' ∧ Q x σ' ∧ Rel X w' lk' σ' a ∧ Inv X M w0 w' lk' ∧ VRep w' (Imm X w' lk') lk' x v
theorem alloc_old (w : World) (o : Obj) (k : Nat) (hk : k < w.heap.size) : (w.alloc o).heap[k]? = w.heap[k]? := Below.heap_alloc w o k hk
theorem alloc_new (w : World) (o : Obj) : (w.alloc o).heap[w.heap.size]? = some o := by simp [World.alloc, -World.alloc_eq]
theorem alloc_keep (w : World) (o : Obj) : Keep (fun _ => False) w (w.alloc o) := ⟨rfl, rfl, rfl, by simp, fun k hk _ => alloc_old w o k hk⟩
theorem boxed_sound {M : Nat → Prop} {w0 w : World} {lk : List Value} {σ : St} {a : Act} {cs : List C} {Q : V → St → Prop} {e : TypeId} (h : boxed e σ cs Q) (hr : Rel X w lk σ a) (hi : Inv X M w0 w lk) {us : List Value} (ha : All2 (Cel w (Imm X w lk) lk) cs us) :
    Yl X M w0 a Q (.ok (.pointer (some ⟨w.heap.size, 0, none⟩)) (w.alloc (.cells us.toArray e))) := by
  unfold boxed at h
  rw [newOb_iff] at h
  have hgo := Goes.grow (X := X) (lk := lk) (v := .pointer (some ⟨w.heap.size, 0, none⟩)) (alloc_old w (.cells us.toArray e)) (by simp) (fun b hb => by simp [blk] at hb; omega)
  refine ⟨_, _, _, _, lk ++ [.pointer (some ⟨w.heap.size, 0, none⟩)], rfl, h, ?_, hi.grow (alloc_keep _ _) (fun b hb => by simp [blk] at hb; omega), ?_⟩
  · refine hr.grow (alloc_old w _) (by simp) (fun b hb => by simp [blk] at hb; subst hb; simp) hi.lx ?_
    exact ⟨w.heap.size, us.toArray, rfl, alloc_new w _, Cels.goes hgo (Keeps.app _ _ _) (by simpa using ha)⟩
  · exact ⟨w.heap.size, by rw [← hr.lsz]; simp, rfl⟩
theorem newOwn_sound {M : Nat → Prop} {w0 w w' : World} {lk : List Value} {σ : St} {a : Act} {e : TypeId} {t : Ty} {xs : List t.den} {ap : Bool} {Q : V → St → Prop}
    (h : newOb σ (.own e t xs ap false) (fun i => .one (.own i)) Q) (hr : Rel X w lk σ a) (hi : Inv X M w0 w lk) (hk : Keep (fun _ => False) w w') {v : Value}
    (hv : v = .slice none 0 0 ∧ xs = [] ∨ ∃ cap cur fr cells, v = .slice (some ⟨w.heap.size, 0, none⟩) xs.length cap ∧ w.heap.size < w'.heap.size ∧ w'.heap[w.heap.size]? = some (.cells cur e fr) ∧ xs.length ≤ cap ∧ cap ≤ maxLen ∧ cur.size = cap * t.sz ∧ cur.toList.take (xs.length * t.sz) = cells ∧
      Reps (TRep w (Imm X w lk) t) t.sz xs cells ∧ (ap = true → fr = (0, 0)) ∧ (fr.1 < fr.2 → xs.length * t.sz ≤ fr.1)) :
    Yl X M w0 a Q (.ok v w') := by
  rw [newOb_iff] at h
  have hvb : ∀ b, blk v = some b → w.heap.size ≤ b ∧ b < w'.heap.size := by
    intro b hb
    rcases hv with ⟨rfl, _⟩ | ⟨cap, cur, fr, cells, rfl, hlt, _⟩
    · cases hb
    · simp [blk] at hb; omega
  have hgo := Goes.grow (X := X) (lk := lk) (v := v) (fun k hk' => hk.block k hk' (fun x => x)) hk.size (fun b hb => (hvb b hb).1)
  have hsl : ∃ A n c, v = .slice A n c := by
    rcases hv with ⟨rfl, _⟩ | ⟨cap, cur, fr, cells, rfl, _⟩ <;> exact ⟨_, _, _, rfl⟩
  refine ⟨_, _, v, w', lk ++ [v], rfl, h, ?_, hi.grow hk (fun b hb => (hvb b hb).1), ?_⟩
  · refine hr.grow (fun k hk' => hk.block k hk' (fun x => x)) hk.size hvb hi.lx ?_
    rcases hv with ⟨rfl, rfl⟩ | ⟨cap, cur, fr, cells, rfl, hlt, hh, h1, h2, h3, h4, h5, h6, h7⟩
    · exact ⟨[], Reps.none _ _, .inl ⟨rfl, rfl⟩⟩
    · exact ⟨cells, Reps.imp2 h5 (fun p c hp => hp.goes hgo), .inr ⟨w.heap.size, cap, cur, fr, rfl, hh, h1, h2, h3, h4, h6, h7⟩⟩
  · exact ⟨by rw [← hr.lsz]; simp, hsl⟩
theorem madeCells_reps {w : World} {I : Nat → Prop} {t : Ty} {z : Value} (hz : TRep w I t t.dflt z.cells.toList) (n : Nat) : Reps (TRep w I t) t.sz (List.replicate n t.dflt) (madeCells z.cells (n * t.sz)).toList := by
  have hs : z.cells.size = t.sz := by have := hz.len; simpa using this
  refine ⟨by simp [madeCells], fun j p hj => ?_⟩
  have hjn : j < n := by
    have := (List.getElem?_eq_some_iff.1 hj).1
    simpa using this
  have hp : p = t.dflt := by
    rw [List.getElem?_replicate] at hj
    simp [hjn] at hj; exact hj.symm
  subst hp
  have he : ((madeCells z.cells (n * t.sz)).toList.drop (j * t.sz)).take t.sz = z.cells.toList := by
    have hle : j * t.sz + t.sz ≤ n * t.sz := by rw [← Nat.succ_mul]; exact Nat.mul_le_mul_right _ hjn
    apply List.ext_getElem
    · simp [madeCells, hs]; omega
    · intro i h1 h2
      have hi : i < t.sz := by simp [hs] at h2; exact h2
      simp only [List.getElem_take, List.getElem_drop, madeCells, Array.toList_map, Array.toList_range, List.getElem_map, List.getElem_range]
      rw [hs, Nat.mul_comm j, Nat.mul_add_mod, Nat.mod_eq_of_lt hi]
      simp [hs, hi]
  rw [he]; exact hz
theorem setCells_rowF {g : Nat} {e : TypeId} {fr : Nat × Nat} : ∀ (vs : List Value) (o : Nat) (w : World) (cur : Array Value), w.heap[g]? = some (.cells cur e fr) → o + vs.length ≤ cur.size →
    ∃ cur', (w.setCells g o vs).heap[g]? = some (.cells cur' e fr) ∧ cur'.size = cur.size ∧ cur'.toList = cur.toList.take o ++ vs ++ cur.toList.drop (o + vs.length)
  | [], o, w, cur, h, _ => ⟨cur, h, rfl, by simp⟩
  | v :: r, o, w, cur, h, hl => by
    have h2 : (w.setCell ⟨g, o, none⟩ v).heap[g]? = some (.cells (cur.setIfInBounds o v) e fr) := by simp [World.setCell, Array.getElem?_modify, h]
    simp only [List.length_cons] at hl
    obtain ⟨cur', h3, h4, h5⟩ := setCells_rowF r (o + 1) (w.setCell ⟨g, o, none⟩ v) _ h2 (by simp; omega)
    refine ⟨cur', h3, by rw [h4]; simp, ?_⟩
    rw [h5, Array.toList_setIfInBounds]
    have ho : o < cur.toList.length := by rw [Array.length_toList]; omega
    rw [List.take_set, List.drop_set_of_lt (by omega)]
    simp only [List.length_cons]
    rw [show o + 1 + r.length = o + (r.length + 1) by omega]
    congr 1
    rw [List.take_succ_eq_append_getElem ho, List.set_append_right _ _ (by rw [List.length_take]; omega)]
    have ho' : o < cur.size := by omega
    simp [Nat.min_eq_left (Nat.le_of_lt ho')]
theorem storeAt_run {w : World} {t : TypeId} {i : TypeInfo} (hi : P.info? t = some i) {g o : Nat} {e : TypeId} {fr : Nat × Nat} {cur : Array Value} (hh : w.heap[g]? = some (.cells cur e fr)) {v : Value} {us : List Value}
    (hv : v.cells.toList = us) (hl : us.length = i.size) (h1 : ∀ u ∈ us, u.oneCell' = true) (hle : o + us.length ≤ cur.size) (hf : fr.1 < fr.2 → o + us.length ≤ fr.1) :
    (Instr.storeAt t (.pointer (some ⟨g, o, none⟩)) v).run P w = .ok () (w.setCells g o us) := by
  have hs := run_storeCells_cells (P := P) g o us 0 w
    (fun j hj => by simp [World.cell?, hh]; have : o + j < cur.size := by omega
                    simp [this])
    (fun j hj => by
      simp only [World.frozen?, hh, Nat.add_zero]
      by_cases hlt : fr.1 < fr.2
      · have := hf hlt; simp; omega
      · simp; omega) h1
  have hsz : v.cells.size = i.size := by rw [← hl, ← hv]; simp
  simp only [Nat.add_zero] at hs
  simp [Instr.storeAt, Instr.sureAddr, storeVar, sizeOf, typeInfo, hi, hsz, hv, hs]
theorem setCells_keep (w : World) (g o : Nat) (us : List Value) : Keep (fun b => some g = some b) w (w.setCells g o us) := by
  obtain ⟨h1, h2, h3, h4⟩ := setCells_same g us o w
  exact ⟨h1, h2, h3, by rw [h4]; exact Nat.le_refl _, fun k _ hk => setCells_far us o k (fun e => hk (by rw [e]))⟩
theorem cells_rep {w : World} {I : Nat → Prop} {lk : List Value} {x : V} {v : Value} {cs : List C} (hx : VRep w I lk x v) (hc : x.cells = some cs) : All2 (Cel w I lk) cs v.cells.toList := by
  unfold V.cells at hc
  split at hc
  · cases hc
  · rename_i c hne
    simp at hc; subst hc
    have h1 : v.oneCell' = true := by
      cases c <;> simp only [VRep, CRep] at hx
      case top => exact absurd rfl (hne)
      case sl => obtain ⟨A, n, rfl, _⟩ := hx; rfl
      case ref => obtain ⟨b, _, rfl⟩ := hx; rfl
      case own => obtain ⟨_, A, n, c, rfl⟩ := hx; rfl
      case elt => obtain ⟨g, n, c, _, _, rfl⟩ := hx; rfl
      case ielt => obtain ⟨ad, m, us, _, _, _, _, _, rfl⟩ := hx; rfl
      case fn => obtain ⟨us, rfl, _⟩ := hx; rfl
      case ifp => obtain ⟨t, x, rfl⟩ := hx; rfl
      case mp => obtain ⟨_, r, rfl⟩ := hx; rfl
      all_goals (subst hx; rfl)
    have hvc : v.cells.toList = [v] := by cases v <;> simp_all [Value.cells, Value.oneCell']
    rw [hvc]; exact ⟨⟨hx, h1⟩, trivial⟩
  · simp at hc; subst hc
    obtain ⟨vs, rfl, ha⟩ := hx
    simpa [Value.cells] using ha
  · cases hc
theorem splice_get {l us : List Value} {o : Nat} (h : o + us.length ≤ l.length) (i : Nat) : (l.take o ++ us ++ l.drop (o + us.length))[i]? = if i < o then l[i]? else if i < o + us.length then us[i - o]? else l[i]? := by
  have ho : (l.take o).length = o := by rw [List.length_take]; omega
  by_cases h1 : i < o
  · rw [if_pos h1, List.append_assoc, List.getElem?_append_left (by omega), List.getElem?_take_of_lt h1]
  · rw [if_neg h1]
    by_cases h2 : i < o + us.length
    · rw [if_pos h2, List.getElem?_append_left (by rw [List.length_append]; omega), List.getElem?_append_right (by omega), ho]
    · rw [if_neg h2, List.getElem?_append_right (by rw [List.length_append]; omega), List.length_append, ho, List.getElem?_drop]
      congr 1; omega
theorem Reps.splice {α : Type} {R : α → List Value → Prop} {sz : Nat} {xs : List α} {cells us : List Value} {j off : Nat} {y : α} (h : Reps R sz xs cells) (hj : j < xs.length) (hle : off + us.length ≤ sz)
    (hy : R y (((cells.drop (j * sz)).take sz).take off ++ us ++ ((cells.drop (j * sz)).take sz).drop (off + us.length))) :
    Reps R sz (xs.set j y) (cells.take (j * sz + off) ++ us ++ cells.drop (j * sz + off + us.length)) := by
  have hlen := h.1
  have hjs : j * sz + sz ≤ cells.length := by rw [hlen, ← Nat.succ_mul]; exact Nat.mul_le_mul_right _ hj
  refine ⟨by simp only [List.length_append, List.length_take, List.length_drop, List.length_set]; omega, fun k p hk => ?_⟩
  have hkl : k < xs.length := by have := (List.getElem?_eq_some_iff.1 hk).1; simpa using this
  have hks : k * sz + sz ≤ cells.length := by rw [hlen, ← Nat.succ_mul]; exact Nat.mul_le_mul_right _ hkl
  have key : ∀ i, i < sz → ((List.drop (k * sz) (cells.take (j * sz + off) ++ us ++ cells.drop (j * sz + off + us.length))).take sz)[i]? = if k * sz + i < j * sz + off then cells[k * sz + i]? else if k * sz + i < j * sz + off + us.length then us[k * sz + i - (j * sz + off)]? else cells[k * sz + i]? := by
    intro i hi
    rw [List.getElem?_take_of_lt hi, List.getElem?_drop, splice_get (by omega)]
  by_cases hkj : j = k
  · subst hkj
    rw [List.getElem?_set_self hj] at hk
    simp at hk; subst hk
    have : (List.drop (j * sz) (cells.take (j * sz + off) ++ us ++ cells.drop (j * sz + off + us.length))).take sz = ((cells.drop (j * sz)).take sz).take off ++ us ++ ((cells.drop (j * sz)).take sz).drop (off + us.length) := by
      apply List.ext_getElem?
      intro i
      by_cases hi : i < sz
      · rw [key i hi, splice_get (by rw [List.length_take, List.length_drop]; omega), List.getElem?_take_of_lt hi, List.getElem?_drop]
        by_cases h1 : i < off
        · rw [if_pos (by omega), if_pos h1]
        · rw [if_neg (by omega), if_neg h1]
          by_cases h2 : i < off + us.length
          · rw [if_pos (by omega), if_pos h2]; congr 1; omega
          · rw [if_neg (by omega), if_neg h2]
      · rw [List.getElem?_eq_none (by rw [List.length_take]; omega), List.getElem?_eq_none (by simp only [List.length_append, List.length_take, List.length_drop]; omega)]
    rw [this]; exact hy
  · rw [List.getElem?_set_ne hkj] at hk
    have hne : k * sz + sz ≤ j * sz ∨ j * sz + sz ≤ k * sz := by
      rcases Nat.lt_or_gt_of_ne hkj with h1 | h1
      · right; rw [← Nat.succ_mul]; exact Nat.mul_le_mul_right _ h1
      · left; rw [← Nat.succ_mul]; exact Nat.mul_le_mul_right _ h1
    have : (List.drop (k * sz) (cells.take (j * sz + off) ++ us ++ cells.drop (j * sz + off + us.length))).take sz = (cells.drop (k * sz)).take sz := by
      apply List.ext_getElem?
      intro i
      by_cases hi : i < sz
      · rw [key i hi, List.getElem?_take_of_lt hi, List.getElem?_drop]
        rcases hne with h1 | h1
        · rw [if_pos (by omega)]
        · rw [if_neg (by omega), if_neg (by omega)]
      · rw [List.getElem?_eq_none (by rw [List.length_take]; omega), List.getElem?_eq_none (by rw [List.length_take]; omega)]
    rw [this]; exact h.2 k p hk
theorem evStore_sound (hT : TabOK P T) {M : Nat → Prop} {w0 w : World} {lk : List Value} {σ : St} {a : Act} {t : TypeId} {p x : V} {Q : St → Prop} {vp vx : Value} (h : evStore T t p x σ Q) (hr : Rel X w lk σ a) (hi : Inv X M w0 w lk)
    (hp : VRep w (Imm X w lk) lk p vp) (hx : VRep w (Imm X w lk) lk x vx) :
    ∃ σ' w' lk', (Instr.storeAt t vp vx).run P w = .ok () w' ∧ Q σ' ∧ Rel X w' lk' σ' a ∧ Inv X M w0 w' lk' := by
  unfold evStore at h
  split at h
  · rename_i ti cs hti hcs
    obtain ⟨inf, z, hinf, hsz, _⟩ := hT.info t ti hti
    have ha := cells_rep hx hcs
    split at h
    · rename_i hlen
      rw [len_length] at hlen
      have hul : vx.cells.toList.length = inf.size := by rw [← ha.length, hlen, hsz]
      have h1 : ∀ u ∈ vx.cells.toList, u.oneCell' = true := fun u hu => by obtain ⟨c, _, hc⟩ := ha.mem hu; exact hc.2
      split at h
      · rename_i i off
        rw [nth_get] at h
        split at h
        · rename_i e l ho
          split at h
          · rename_i l' hov
            rw [mkL_iff, setOb_iff] at h
            obtain ⟨b, hb, rfl⟩ := hp
            obtain ⟨b', cur, hv, hh, hab⟩ := hr.ob i _ _ ho hb
            simp only [Value.pointer.injEq, Option.some.injEq, Addr.mk.injEq] at hv
            obtain ⟨rfl, _, _⟩ := hv
            obtain ⟨hov1, hov2⟩ := over_all hab ha hov
            rw [Array.length_toList] at hov2
            have hrun := storeAt_run hinf hh (o := off) rfl hul h1 hov2 (by simp)
            obtain ⟨cur', hh', hsz', htl'⟩ := setCells_rowF vx.cells.toList off w cur hh hov2
            have hk := setCells_keep w b off vx.cells.toList
            have hset : lk.set i (.pointer (some ⟨b, 0, none⟩)) = lk := by
              apply List.ext_getElem?; intro j
              by_cases hij : i = j
              · subst hij; rw [List.getElem?_set_self (List.getElem?_eq_some_iff.1 hb).1, hb]
              · rw [List.getElem?_set_ne hij]
            have hgo : Goes w (Imm X w lk) (w.setCells b off vx.cells.toList) (Imm X (w.setCells b off vx.cells.toList) lk) := by
              have := Goes.upd (X := X) (w' := w.setCells b off vx.cells.toList) (v' := .pointer (some ⟨b, 0, none⟩)) hb (fun k hk1 hk2 => hk.block k hk1 (fun e => hk2 e)) hk.size (fun b hb => .inl hb)
              rwa [hset] at this
            refine ⟨_, _, lk, hrun, h, ?_, ?_⟩
            · have := hr.upd (w' := w.setCells b off vx.cells.toList) (σ' := ⟨σ.tmps, σ.objs.set i (.box e l')⟩) (o' := .box e l') (v' := .pointer (some ⟨b, 0, none⟩)) hb (fun k hk1 hk2 => hk.block k hk1 (fun e => hk2 e)) hk.size (fun b hb => .inl hb) hi.lx (fun _ => ⟨rfl, fun o ho' => by rw [ho] at ho'; simp at ho'; subst ho'; rfl⟩) rfl (by simp)
                (fun t x' hx' => ⟨x', hx', fun u hu => by rw [hset]; exact hu.goes hgo (Keeps.refl _ _)⟩)
                (List.getElem?_set_self (List.getElem?_eq_some_iff.1 ho).1)
                (by rw [hset]; exact ⟨b, cur', rfl, hh', by rw [htl']; exact Cels.goes hgo (Keeps.refl _ _) hov1⟩)
                (fun j oj hji hj => ⟨oj, by rw [List.getElem?_set_ne (Ne.symm hji)] at hj; exact hj, rfl, fun u hub hu => by rw [hset]; exact hu.goes hgo (Keeps.refl _ _) hub⟩)
              rwa [hset] at this
            · have := hi.upd (w' := w.setCells b off vx.cells.toList) (v' := .pointer (some ⟨b, 0, none⟩)) hb ⟨hk.os, hk.tape, hk.output, hk.size, fun k hk1 hk2 => hk.block k hk1 (fun e => hk2 e)⟩ (fun b hb => .inl hb)
              rwa [hset] at this
          · exact h.elim
        · exact h.elim
      · rename_i t0 i j off
        obtain ⟨lk', σ', cs', h2, hr', hi', ha', hown⟩ := frzAll_sound _ h hr hi ha
        clear h
        have h := h2
        clear h2
        rw [nth_get] at h
        split at h
        · rename_i e te xs ap mv ho
          split at h
          · rename_i hte; subst hte
            split at h
            · rename_i l' hov
              obtain ⟨g, n, c, hb, hj, rfl⟩ := hp
              have hb' : lk'[i]? = some (.slice (some ⟨g, 0, none⟩) n c) := by rw [(hown i e te xs ap mv ho).1]; exact hb
              obtain ⟨cells, hreps, hv⟩ := hr'.ob i _ _ ho hb'
              rcases hv with ⟨hv, _⟩ | ⟨g', cap, cur, fr, hv, hh, hc1, hm, hszc, htk, hap, hfr⟩
              · cases hv
              · simp only [Value.slice.injEq, Option.some.injEq, Addr.mk.injEq] at hv
                obtain ⟨⟨rfl, _, _⟩, rfl, rfl⟩ := hv
                have hx : xs[j]? = some (rdx xs j te.dflt) := by simp [rdx, List.getD, List.getElem?_eq_getElem hj]
                have hTj := hreps.2 j _ hx
                obtain ⟨hov1, hov2⟩ := over_all (Ty.cs_rep lk' hTj) ha' hov
                obtain ⟨y, r, u1, u2, hq, hu, hTy, hr2⟩ := Ty.rd_sound h hov1
                split at hq
                · obtain rfl := hr2.nil_inv
                  rw [List.append_nil] at hu
                  rw [setOb_iff] at hq
                  rw [hTj.len] at hov2
                  have hjs : j * te.sz + te.sz ≤ xs.length * te.sz := by rw [← Nat.succ_mul]; exact Nat.mul_le_mul_right _ hj
                  have hcs : xs.length * te.sz ≤ cur.size := by rw [hszc]; exact Nat.mul_le_mul_right _ hc1
                  have hrun := storeAt_run hinf hh (o := j * te.sz + off) rfl hul h1 (by omega) (fun hlt => by have := hfr hlt; omega)
                  obtain ⟨cur', hh', hsz', htl'⟩ := setCells_rowF vx.cells.toList (j * te.sz + off) w cur hh (by omega)
                  have hk := setCells_keep w g (j * te.sz + off) vx.cells.toList
                  have hset : lk'.set i (.slice (some ⟨g, 0, none⟩) xs.length c) = lk' := by
                    apply List.ext_getElem?; intro j'
                    by_cases hij : i = j'
                    · subst hij; rw [List.getElem?_set_self (List.getElem?_eq_some_iff.1 hb').1, hb']
                    · rw [List.getElem?_set_ne hij]
                  have hgo : Goes w (Imm X w lk') (w.setCells g (j * te.sz + off) vx.cells.toList) (Imm X (w.setCells g (j * te.sz + off) vx.cells.toList) lk') := by
                    have := Goes.upd (X := X) (w' := w.setCells g (j * te.sz + off) vx.cells.toList) (v' := .slice (some ⟨g, 0, none⟩) xs.length c) hb' (fun k hk1 hk2 => hk.block k hk1 (fun e => hk2 e)) hk.size (fun b hb => .inl hb)
                    rwa [hset] at this
                  have hnew : ORep (w.setCells g (j * te.sz + off) vx.cells.toList) (Imm X (w.setCells g (j * te.sz + off) vx.cells.toList) lk') lk' (.own e te (xs.set j y) ap mv) (.slice (some ⟨g, 0, none⟩) xs.length c) := by
                    refine ⟨cells.take (j * te.sz + off) ++ vx.cells.toList ++ cells.drop (j * te.sz + off + vx.cells.toList.length), Reps.imp2 (Reps.splice hreps hj hov2 ?_) (fun p c hp => hp.goes hgo), .inr ⟨g, c, cur', fr, by simp, hh', by simpa using hc1, hm, by rw [hsz']; exact hszc, ?_, hap, fun hlt => by simpa using hfr hlt⟩⟩
                    · rw [← hu] at hTy; exact hTy
                    · rw [List.length_set, htl']
                      have hcl : cells.length = xs.length * te.sz := hreps.1
                      apply List.ext_getElem?
                      intro i'
                      by_cases hi' : i' < xs.length * te.sz
                      · rw [List.getElem?_take_of_lt hi', splice_get (by have h1 := Array.length_toList (xs := cur); omega), splice_get (by omega), ← htk, List.getElem?_take_of_lt hi']
                      · rw [List.getElem?_eq_none (by rw [List.length_take]; omega), List.getElem?_eq_none (by simp only [List.length_append, List.length_take, List.length_drop]; omega)]
                  refine ⟨_, _, lk', hrun, hq, ?_, ?_⟩
                  · have := hr'.upd (w' := w.setCells g (j * te.sz + off) vx.cells.toList) (σ' := ⟨σ'.tmps, σ'.objs.set i (.own e te (xs.set j y) ap mv)⟩) (o' := .own e te (xs.set j y) ap mv) (v' := .slice (some ⟨g, 0, none⟩) xs.length c) hb' (fun k hk1 hk2 => hk.block k hk1 (fun e => hk2 e)) hk.size (fun b hb => .inl hb) hi.lx (fun hk0 => ⟨rfl, fun o ho' => by rw [ho] at ho'; simp at ho'; subst ho'; exact hk0⟩) rfl (by simp)
                      (fun t x' hx' => ⟨x', hx', fun u hu => by rw [hset]; exact hu.goes hgo (Keeps.refl _ _)⟩)
                      (List.getElem?_set_self (List.getElem?_eq_some_iff.1 ho).1)
                      (by rw [hset]; exact hnew)
                      (fun j' oj hji hj' => ⟨oj, by rw [List.getElem?_set_ne (Ne.symm hji)] at hj'; exact hj', rfl, fun u hub hu => by rw [hset]; exact hu.goes hgo (Keeps.refl _ _) hub⟩)
                    rwa [hset] at this
                  · have := hi'.upd (w' := w.setCells g (j * te.sz + off) vx.cells.toList) (v' := .slice (some ⟨g, 0, none⟩) xs.length c) hb' ⟨hk.os, hk.tape, hk.output, hk.size, fun k hk1 hk2 => hk.block k hk1 (fun e => hk2 e)⟩ (fun b hb => .inl hb)
                    rwa [hset] at this
                · exact hq.elim
            · exact h.elim
          · exact h.elim
        · exact h.elim
      · exact h.elim
    · exact h.elim
  · exact h.elim
end Go.Proofs.YtilagaapfbfkkaaGreatDoor.Ab
namespace Go.Proofs.YtilagaapfbfkkaaGreatDoor.Ab
open Go Go.RowKit Go.Proofs.YtilagaapfbfkkaaGreatDoorW.PrintWords
variable {X : Cx} {P : Program} {T : Tab}
theorem SR.news {w : World} {I : Nat → Prop} {t : Ty} {R : t.den → List Value → Prop} {A : Option Addr} {xs : List t.den} (h : SR w I t.sz R A xs) (hp : 0 < xs.length) :
    ∃ ad news, A = some ad ∧ Reps R t.sz xs news ∧ ∀ (j : Nat) (u : Value), news[j]? = some u → w.cell? (ad.add j) = some u := by
  obtain ⟨ad, rfl, _, hc⟩ := h.2 hp
  suffices ∀ k, k ≤ xs.length → ∃ news, Reps R t.sz (xs.take k) news ∧ ∀ (j : Nat) (u : Value), news[j]? = some u → w.cell? (ad.add j) = some u by
    obtain ⟨news, h1, h2⟩ := this xs.length (Nat.le_refl _)
    rw [List.take_length] at h1
    exact ⟨ad, news, rfl, h1, h2⟩
  intro k
  induction k with
  | zero => exact fun _ => ⟨[], by simpa using Reps.none _ _, fun j u h => by simp at h⟩
  | succ k ih =>
    intro hk
    obtain ⟨news, h1, h2⟩ := ih (by omega)
    obtain ⟨cs, hl, hr, hu⟩ := hc k _ (List.getElem?_eq_getElem (by omega))
    refine ⟨news ++ cs, ?_, fun j u hj => ?_⟩
    · rw [List.take_succ_eq_append_getElem (by omega)]
      exact Reps.snoc h1 hr hl
    · rcases Nat.lt_or_ge j news.length with hjl | hjl
      · rw [List.getElem?_append_left hjl] at hj; exact h2 j u hj
      · rw [List.getElem?_append_right hjl] at hj
        have hnl : news.length = k * t.sz := by have := h1.1; rw [List.length_take] at this; rw [this]; congr 1; omega
        have := hu (j - news.length) u hj
        rwa [hnl, show k * t.sz + (j - k * t.sz) = j by omega] at this
theorem Reps.ones {w : World} {I : Nat → Prop} {t : Ty} {xs : List t.den} {news : List Value} (h : Reps (TRep w I t) t.sz xs news) : ∀ u ∈ news, u.oneCell' = true := by
  intro u hu
  obtain ⟨j, hj, rfl⟩ := List.getElem_of_mem hu
  have hs := t.sz_pos
  have hq : j / t.sz < xs.length := by
    rw [h.1] at hj
    exact (Nat.div_lt_iff_lt_mul hs).2 hj
  have hT := h.2 (j / t.sz) _ (List.getElem?_eq_getElem hq)
  refine hT.one _ (List.mem_of_getElem? (i := j % t.sz) ?_)
  rw [List.getElem?_take_of_lt (Nat.mod_lt _ hs), List.getElem?_drop, Nat.div_add_mod' j t.sz, List.getElem?_eq_getElem hj]
theorem run_append_zero {w : World} (base : Nat) (t ty e : TypeId) (i : TypeInfo) (size : Nat) (ht : P.underlying t = some (.slice e)) (hi : P.info? e = some i)
    (v : Value) (n : Nat) (xs : List Value) (hown : w.ownsRow base e size v n xs) (A : Option Addr) (c : Nat) :
    (Builtin.append_ #[t, t] ty #[v, .slice A 0 c]).run P w = .ok v w := by
  have hl : ∀ (x : Addr), (loadCells x 0).run P w = .ok #[] w := fun x => by simpa using run_loadCells_list (P := P) w x [] (by simp)
  rcases hown.2 with ⟨rfl, rfl⟩ | ⟨g, cap, cur, rfl, _, _, hnc, _⟩
  · cases A <;> simp [Builtin.append_, run_underlying ht, sizeOf, typeInfo, hi, Builtin.lenOf, Builtin.firstCells, hl]
  · cases A <;> simp [Builtin.append_, run_underlying ht, sizeOf, typeInfo, hi, Builtin.lenOf, Builtin.firstCells, hnc, storeCells, hl]
theorem own_ownsRow {w : World} {I : Nat → Prop} {lk : List Value} {e : TypeId} {t : Ty} {xs : List t.den} {mv : Bool} {v : Value} (h : ORep w I lk (.own e t xs true mv) v) :
    ∃ cells, Reps (TRep w I t) t.sz xs cells ∧ w.ownsRow 0 e t.sz v xs.length cells := by
  obtain ⟨cells, hr, hv⟩ := h
  refine ⟨cells, hr, hr.1, ?_⟩
  rcases hv with ⟨rfl, rfl⟩ | ⟨g, cap, cur, fr, rfl, hh, h1, h2, h3, h4, h5, _⟩
  · exact .inl ⟨rfl, rfl⟩
  · rw [h5 rfl] at hh
    exact .inr ⟨g, cap, cur, rfl, Nat.zero_le _, hh, h1, h2, h3, h4⟩
theorem blk_own (v : Value) (h : ∃ A n c, v = .slice A n c) : blk v = v.ownBlock := by
  obtain ⟨A, n, c, rfl⟩ := h
  cases A <;> rfl
theorem CRep.kill {w w' : World} {I I' : Nat → Prop} {lk : List Value} {i : Nat} {v' : Value} (hg : Goes w I w' I') (hs : ∃ A n c, lk[i]? = some (.slice A n c)) (c : C) (u : Value) (h : CRep w I lk c u) : CRep w' I' (lk.set i v') (C.kill i c) u := by
  have key : ∀ c : C, i ∉ c.id → CRep w I lk c u → CRep w' I' (lk.set i v') c u := fun c hc h => h.goes hg (fun j hj x hx => by
    rw [List.getElem?_set_ne (fun e => hc (by rw [e]; exact hj))]; exact hx)
  cases c with
  | own j =>
    simp only [C.kill]
    cases hij : Nat.beq i j with
    | true => trivial
    | false => exact key _ (by simp [C.id]; exact fun e => by rw [e] at hij; simp at hij) h
  | elt t' j k o =>
    simp only [C.kill]
    cases hij : Nat.beq i j with
    | true => trivial
    | false => exact key _ (by simp [C.id]; exact fun e => by rw [e] at hij; simp at hij) h
  | ref j o =>
    simp only [C.kill]
    by_cases hij : i = j
    · subst hij
      obtain ⟨b, hb', rfl⟩ := h
      obtain ⟨A, n, c, hs⟩ := hs
      rw [hs] at hb'
      cases hb'
    · exact key _ (by simp [C.id]; exact hij) h
  | mp j =>
    simp only [C.kill]
    by_cases hij : i = j
    · subst hij
      obtain ⟨h1, r, rfl⟩ := h
      obtain ⟨A, n, c, hs⟩ := hs
      rw [hs] at h1
      cases h1
    · exact key _ (by simp [C.id]; exact hij) h
  | fn f l =>
    simp only [C.kill]
    refine key _ (fun hm => ?_) h
    obtain ⟨us, rfl, ha⟩ := h
    obtain ⟨A, n, c, hs⟩ := hs
    obtain ⟨p, hp⟩ := List.mem_iff_getElem?.1 hm
    obtain ⟨u, _, h1, b, rfl⟩ := ha.get hp
    rw [hs] at h1; cases h1
  | _ => simp only [C.kill]; exact key _ (by simp [C.id]) h
theorem evAppend_sound (hT : TabOK P T) {M : Nat → Prop} {w0 w : World} {lk : List Value} {σ : St} {a : Act} {tys : List TypeId} {s x : V} {Q : V → St → Prop} {vs vx : Value} (ty0 : TypeId)
    (h : evAppend T tys s x σ Q) (hr : Rel X w lk σ a) (hi : Inv X M w0 w lk) (hs : VRep w (Imm X w lk) lk s vs) (hx : VRep w (Imm X w lk) lk x vx) :
    Yl X M w0 a Q ((Builtin.append_ tys.toArray ty0 #[vs, vx]).run P w) := by
  unfold evAppend at h
  split at h
  · rename_i ty ty'
    split at h
    · rename_i e t sz0 by0 z0 hty
      obtain ⟨hu, _, ti', hte', hsz', _⟩ := hT.slice ty e t _ _ _ hty
      dsimp only at h
      split at h
      · rename_i te hte
        rw [hte] at hte'
        simp only [Option.some.injEq] at hte'
        subst hte'
        obtain ⟨inf, z, hinf, hisz, hiby, hiz, hzsz, _⟩ := hT.info e te hte
        obtain ⟨hby, hszp⟩ := hT.pos e te hte
        split at h
        · rename_i c hty'
          split at h
          · rename_i htt
            subst htt
            obtain ⟨ys, A, n, hK, rfl, hn, hsr⟩ := slK_sound hr h hx
            clear h
            have hnews : ys = [] ∨ ∃ ad news, A = some ad ∧ Reps (TRep w (Imm X w lk) t) t.sz ys news ∧ ∀ (j : Nat) (u : Value), news[j]? = some u → w.cell? (ad.add j) = some u := by
              rcases Nat.eq_zero_or_pos ys.length with h0 | h0
              · exact .inl (List.length_eq_zero_iff.1 h0)
              · exact .inr (hsr.news h0)
            split at hK
            ·
              obtain ⟨hb, hQ⟩ := hK
              have hvs : vs = .slice none 0 0 := hs
              subst hvs
              have hown : w.ownsRow 0 e t.sz (.slice none 0 0) 0 [] := ⟨by simp, .inl ⟨rfl, rfl⟩⟩
              rcases hnews with rfl | ⟨ad, news, rfl, hreps, hread⟩
              · rw [show ([] : List t.den).length = 0 from rfl, show [ty, ty].toArray = #[ty, ty] from rfl, run_append_zero 0 ty ty0 e inf t.sz hu hinf _ _ _ hown]
                exact newOwn_sound hQ hr hi (Keep.refl _ _) (.inl ⟨rfl, rfl⟩)
              · by_cases h0 : ys.length = 0
                · rw [h0, show [ty, ty].toArray = #[ty, ty] from rfl, run_append_zero 0 ty ty0 e inf t.sz hu hinf _ _ _ hown]
                  exact newOwn_sound hQ hr hi (Keep.refl _ _) (.inl ⟨rfl, List.length_eq_zero_iff.1 h0⟩)
                · have hmx : ys.length ≤ maxLen := by
                    have : ys.length ≤ ys.length * te.by_ := Nat.le_mul_of_pos_right _ hby
                    simp only [maxLen]; omega
                  obtain ⟨v', w', hrun, hown', hgr, hnil, hat⟩ := run_append_own_at (P := P) w 0 ty ty0 e inf z t.sz te.by_ hu hinf hiz (by rw [hisz, hsz']) hiby (by rw [hzsz, hsz']) t.sz_pos _ 0 [] hown ad ys.length n news hreps.1 hread (Reps.ones hreps) (by simpa using hmx) (by simpa using hb) (Nat.zero_le _)
                  rw [show [ty, ty].toArray = #[ty, ty] from rfl, hrun]
                  have hk : Keep (fun _ => False) w w' := ⟨hgr.os, hgr.tape, hgr.output, hgr.size, fun k hk1 _ => hgr.block k hk1 (by simp [Value.ownBlock])⟩
                  refine newOwn_sound hQ hr hi hk (.inr ?_)
                  rcases hown'.2 with ⟨_, h1⟩ | ⟨g, cap, cur, rfl, _, hh, h1, h2, h3, h4⟩
                  · omega
                  · have hg : g = w.heap.size := by
                      rcases hat with hat | hat <;> simp [Value.ownBlock] at hat <;> exact hat
                    subst hg
                    exact ⟨cap, cur, (0, 0), _, by simp, (Array.getElem?_eq_some_iff.1 hh).1, hh, by simpa using h1, h2, h3, by simpa using h4, by simpa using hreps, fun _ => rfl, by simp⟩
            ·
              rename_i i
              rw [nth_get] at hK
              split at hK
              · rename_i e' t' xs mv ho
                split at hK
                · rename_i het
                  obtain ⟨rfl, rfl⟩ := het
                  obtain ⟨hb, hQ⟩ := hK
                  rw [St.mkAll_iff] at hQ
                  dsimp only at hQ
                  have hiv : lk[i]? = some vs := hs.1
                  obtain ⟨cells, hreps0, hown⟩ := own_ownsRow (hr.ob i _ _ ho hiv)
                  have hres : ∃ v' w', (Builtin.append_ #[ty, ty] ty0 #[vs, .slice A ys.length n]).run P w = .ok v' w' ∧ w.grownBy w' vs.ownBlock ∧ (v'.ownBlock = vs.ownBlock ∨ v'.ownBlock = some w.heap.size) ∧
                      ∃ cells', Reps (TRep w (Imm X w lk) t') t'.sz (xs ++ ys) cells' ∧ w'.ownsRow 0 e' t'.sz v' (xs ++ ys).length cells' := by
                    rcases hnews with rfl | ⟨ad, news, rfl, hreps, hread⟩
                    · exact ⟨vs, w, run_append_zero 0 ty ty0 e' inf t'.sz hu hinf _ _ _ hown _ _, ⟨rfl, rfl, rfl, Nat.le_refl _, fun _ _ _ => rfl⟩, .inl rfl, cells, by simpa using hreps0, by simpa using hown⟩
                    · have hmx : xs.length + ys.length ≤ maxLen := by
                        have : xs.length + ys.length ≤ (xs.length + ys.length) * te.by_ := Nat.le_mul_of_pos_right _ hby
                        simp only [maxLen]; omega
                      obtain ⟨v', w', hrun, hown', hgr, hnil, hat⟩ := run_append_own_at (P := P) w 0 ty ty0 e' inf z t'.sz te.by_ hu hinf hiz (by rw [hisz, hsz']) hiby (by rw [hzsz, hsz']) t'.sz_pos _ _ _ hown ad ys.length n news hreps.1 hread (Reps.ones hreps) hmx hb (Nat.zero_le _)
                      exact ⟨v', w', hrun, hgr, hat, cells ++ news, Kd.reps_append hreps0 hreps, by rw [List.length_append]; exact hown'⟩
                  obtain ⟨v', w', hrun, hgr, hat, cells', hreps', hown'⟩ := hres
                  rw [show [ty, ty].toArray = #[ty, ty] from rfl, hrun]
                  have hslv : ∃ A n c, vs = .slice A n c := hs.2
                  have hslv' : ∃ A n c, v' = .slice A n c := by
                    rcases hown'.2 with ⟨rfl, _⟩ | ⟨g, cap, cur, rfl, _⟩ <;> exact ⟨_, _, _, rfl⟩
                  have hbv := blk_own vs hslv
                  have hbv' := blk_own v' hslv'
                  have hv' : ∀ b, blk v' = some b → blk vs = some b ∨ (w.heap.size ≤ b ∧ b < w'.heap.size) := by
                    intro b hb'
                    rw [hbv'] at hb'
                    rcases hat with hat | hat
                    · left; rw [hbv, ← hat]; exact hb'
                    · right
                      rw [hat] at hb'
                      simp at hb'; subst hb'
                      refine ⟨Nat.le_refl _, ?_⟩
                      rcases hown'.2 with ⟨rfl, _⟩ | ⟨g, cap, cur, rfl, _, hh, _⟩
                      · simp [Value.ownBlock] at hat
                      · simp [Value.ownBlock] at hat; subst hat; exact (Array.getElem?_eq_some_iff.1 hh).1
                  have hblk : ∀ k, k < w.heap.size → blk vs ≠ some k → w'.heap[k]? = w.heap[k]? := fun k hk hne => hgr.block k hk (fun e => hne (by rw [hbv, e]))
                  have hgo : Goes w (Imm X w lk) w' (Imm X w' (lk.set i v')) := Goes.upd hiv hblk hgr.size (fun b hb' => (hv' b hb').imp id (fun h => h.1))
                  have hsl2 : ∃ A n c, lk[i]? = some (.slice A n c) := by obtain ⟨A', n', c', he⟩ := hslv; exact ⟨A', n', c', by rw [hiv, he]⟩
                  have hf := fun c u (hc : CRep w (Imm X w lk) lk c u) => CRep.kill (v' := v') hgo hsl2 c u hc
                  have hil : i < σ.objs.length := (List.getElem?_eq_some_iff.1 ho).1
                  refine ⟨_, _, v', w', lk.set i v', rfl, hQ, ?_, hi.upd hiv ⟨hgr.os, hgr.tape, hgr.output, hgr.size, fun k hk1 hk2 => hblk k hk1 hk2⟩ (fun b hb' => (hv' b hb').imp id (fun h => h.1)), ?_⟩
                  · refine hr.upd (o' := .own e' t' (xs ++ ys) true true) hiv hblk hgr.size hv' hi.lx (by simp [keepsO]) (by simp [killOwn, St.map]) (by simp [killOwn, St.map, setL_eq]) (fun t0 x' hx' => ?_) ?_ ?_ (fun j oj hji hj => ?_)
                    · obtain ⟨x0, hx0, rfl⟩ := get_map hx'
                      exact ⟨x0, hx0, fun u hu => V.map_rep hf hu⟩
                    · simp only [killOwn, St.map, setL_eq, List.getElem?_map, List.getElem?_set_self hil, Option.map_some]
                      rfl
                    · refine ⟨cells', Reps.imp2 hreps' (fun p c hp => hp.goes hgo), ?_⟩
                      rcases hown'.2 with ⟨rfl, h1⟩ | ⟨g, cap, cur, rfl, _, hh, h1, h2, h3, h4⟩
                      · exact .inl ⟨rfl, List.length_eq_zero_iff.1 h1⟩
                      · exact .inr ⟨g, cap, cur, (0, 0), rfl, hh, h1, h2, h3, h4, fun _ => rfl, by simp⟩
                    · obtain ⟨o, hoj, rfl⟩ := get_map hj
                      simp only [setL_eq] at hoj
                      rw [List.getElem?_set_ne (Ne.symm hji)] at hoj
                      exact ⟨o, hoj, by cases o <;> rfl, fun u hb' hu => Ob.map_rep hgo hf hb' hu⟩
                  · exact ⟨by rw [List.getElem?_set_self (by rw [hr.lsz]; exact hil)], hslv'⟩
                · exact hK.elim
              · exact hK.elim
            · exact hK.elim
          · exact h.elim
        · exact h.elim
      · exact h.elim
    · exact h.elim
  · exact h.elim
theorem ownGrown_sound {M : Nat → Prop} {w0 w w' : World} {lk : List Value} {σ : St} {a : Act} {i : Nat} {e : TypeId} {t : Ty} {xs ys : List t.den} {mv : Bool} {Q : V → St → Prop} {vs v' : Value} {cells' : List Value}
    (ho : σ.objs[i]? = some (.own e t xs true mv)) (hs : VRep w (Imm X w lk) lk (.one (.own i)) vs) (hQ : Q (.one (.own i)) (killOwn i ⟨σ.tmps, setL σ.objs i (.own e t ys true true)⟩)) (hr : Rel X w lk σ a) (hi : Inv X M w0 w lk)
    (hgr : w.grownBy w' vs.ownBlock) (hat : v'.ownBlock = vs.ownBlock ∨ v'.ownBlock = some w.heap.size) (hreps' : Reps (TRep w (Imm X w lk) t) t.sz ys cells') (hown' : w'.ownsRow 0 e t.sz v' ys.length cells') :
    Yl X M w0 a Q (.ok v' w') := by
  have hiv : lk[i]? = some vs := hs.1
  have hslv : ∃ A n c, vs = .slice A n c := hs.2
  have hslv' : ∃ A n c, v' = .slice A n c := by
    rcases hown'.2 with ⟨rfl, _⟩ | ⟨g, cap, cur, rfl, _⟩ <;> exact ⟨_, _, _, rfl⟩
  have hbv := blk_own vs hslv
  have hbv' := blk_own v' hslv'
  have hv' : ∀ b, blk v' = some b → blk vs = some b ∨ (w.heap.size ≤ b ∧ b < w'.heap.size) := by
    intro b hb'
    rw [hbv'] at hb'
    rcases hat with hat | hat
    · left; rw [hbv, ← hat]; exact hb'
    · right
      rw [hat] at hb'
      simp at hb'; subst hb'
      refine ⟨Nat.le_refl _, ?_⟩
      rcases hown'.2 with ⟨rfl, _⟩ | ⟨g, cap, cur, rfl, _, hh, _⟩
      · simp [Value.ownBlock] at hat
      · simp [Value.ownBlock] at hat; subst hat; exact (Array.getElem?_eq_some_iff.1 hh).1
  have hblk : ∀ k, k < w.heap.size → blk vs ≠ some k → w'.heap[k]? = w.heap[k]? := fun k hk hne => hgr.block k hk (fun e => hne (by rw [hbv, e]))
  have hgo : Goes w (Imm X w lk) w' (Imm X w' (lk.set i v')) := Goes.upd hiv hblk hgr.size (fun b hb' => (hv' b hb').imp id (fun h => h.1))
  have hsl2 : ∃ A n c, lk[i]? = some (.slice A n c) := by obtain ⟨A', n', c', he⟩ := hslv; exact ⟨A', n', c', by rw [hiv, he]⟩
  have hf := fun c u (hc : CRep w (Imm X w lk) lk c u) => CRep.kill (v' := v') hgo hsl2 c u hc
  have hil : i < σ.objs.length := (List.getElem?_eq_some_iff.1 ho).1
  refine ⟨_, _, v', w', lk.set i v', rfl, hQ, ?_, hi.upd hiv ⟨hgr.os, hgr.tape, hgr.output, hgr.size, fun k hk1 hk2 => hblk k hk1 hk2⟩ (fun b hb' => (hv' b hb').imp id (fun h => h.1)), ?_⟩
  · refine hr.upd (o' := .own e t ys true true) hiv hblk hgr.size hv' hi.lx (by simp [keepsO]) (by simp [killOwn, St.map]) (by simp [killOwn, St.map, setL_eq]) (fun t0 x' hx' => ?_) ?_ ?_ (fun j oj hji hj => ?_)
    · obtain ⟨x0, hx0, rfl⟩ := get_map hx'
      exact ⟨x0, hx0, fun u hu => V.map_rep hf hu⟩
    · simp only [killOwn, St.map, setL_eq, List.getElem?_map, List.getElem?_set_self hil, Option.map_some]
      rfl
    · refine ⟨cells', Reps.imp2 hreps' (fun p c hp => hp.goes hgo), ?_⟩
      rcases hown'.2 with ⟨rfl, h1⟩ | ⟨g, cap, cur, rfl, _, hh, h1, h2, h3, h4⟩
      · exact .inl ⟨rfl, List.length_eq_zero_iff.1 h1⟩
      · exact .inr ⟨g, cap, cur, (0, 0), rfl, hh, h1, h2, h3, h4, fun _ => rfl, by simp⟩
    · obtain ⟨o, hoj, rfl⟩ := get_map hj
      simp only [setL_eq] at hoj
      rw [List.getElem?_set_ne (Ne.symm hji)] at hoj
      exact ⟨o, hoj, by cases o <;> rfl, fun u hb' hu => Ob.map_rep hgo hf hb' hu⟩
  · exact ⟨by rw [List.getElem?_set_self (by rw [hr.lsz]; exact hil)], hslv'⟩
theorem appStr_at {w : World} {t u ty e : TypeId} {i : TypeInfo} (ht : P.underlying t = some (.slice e)) (hu : P.underlying u = some .string) (hi : P.info? e = some i) (hz : i.zero = some (.int .u8 0)) (hsize : i.size = 1) (hby : i.bytes = 1)
    {v : Value} {n : Nat} {xs : List Value} (hown : w.ownsRow 0 e 1 v n xs) (s : ByteArray) (hb : n + s.size ≤ 140737488355328) :
    ∃ v' w', (Builtin.append_ #[t, u] ty #[v, .string s]).run P w = .ok v' w' ∧ w'.ownsRow 0 e 1 v' (n + s.size) (xs ++ Lib.strCells s) ∧ w.grownBy w' v.ownBlock ∧ (v'.ownBlock = v.ownBlock ∨ v'.ownBlock = some w.heap.size) ∧ (v' = .slice none 0 0 ↔ v = .slice none 0 0 ∧ s.size = 0) := by
  obtain ⟨v', w', h1, h2, h3, h4⟩ := Lib.run_append_own_string (P := P) w 0 t u ty e i ht hu hi hz hsize hby v n xs hown s (by simp only [maxLen]; omega) hb (Nat.zero_le _)
  refine ⟨v', w', h1, h2, h3, ?_, h4⟩
  have hxl : xs.length = n := by simpa using hown.1
  have det : ∀ {a b : Value} {x y : World}, (Builtin.append_ #[t, u] ty #[v, .string s]).run P w = .ok a x → (Builtin.append_ #[t, u] ty #[v, .string s]).run P w = .ok b y → a = b := by
    intro a b x y ha hb
    rw [ha] at hb
    cases hb; rfl
  rcases hown.2 with ⟨rfl, rfl⟩ | ⟨g, cap, cur, rfl, _, hg, hnc, hcm, hcs, _⟩
  · by_cases hm : s.size = 0
    · left; rw [h4.2 ⟨rfl, hm⟩]
    · right
      rw [det h1 (run_append_nil_string (P := P) w t u ty e i (.int .u8 0) ht hu hi hz s (by omega) (by omega) (by rw [hby]; omega))]
      rfl
  · by_cases hroom : n + s.size ≤ cap
    · left
      have hcs' : cur.size = cap := by simpa using hcs
      rw [det h1 (Lib.run_append_room_string (P := P) w t u ty e i ht hu hi hsize g n cap cur hg s hroom (by omega))]
      rfl
    · right
      have holds : ∀ j x, xs[j]? = some x → w.cell? ((⟨g, 0, none⟩ : Addr).add j) = some x := hown.cells (g := g) rfl
      rw [det h1 (Lib.run_append_grow_string (P := P) w t u ty e i (.int .u8 0) ht hu hi hz ⟨g, 0, none⟩ n cap xs (by rw [hsize]; simpa using hxl) holds s (by omega) (by omega) (by rw [hby]; exact growslice_fits (by omega) (by omega)))]
      rfl
theorem strCells_reps {w : World} {I : Nat → Prop} (s : ByteArray) : Reps (TRep w I (.int .u8)) 1 (bytesOf s) (Lib.strCells s) := by
  refine ⟨by simp [bytesOf, Lib.strCells], fun j p hj => ?_⟩
  simp only [bytesOf, List.getElem?_map, Option.map_eq_some_iff] at hj
  obtain ⟨b, hb, rfl⟩ := hj
  have hlt := (List.getElem?_eq_some_iff.1 hb).1
  show ((Lib.strCells s).drop (j * 1)).take 1 = [.int .u8 b.toNat]
  have : (Lib.strCells s)[j]? = some (.int .u8 b.toNat) := by simp [Lib.strCells, hb]
  have hlt' := (List.getElem?_eq_some_iff.1 this).1
  rw [Nat.mul_one, List.drop_eq_getElem_cons hlt']
  simp only [List.take_succ_cons, List.take_zero, List.cons.injEq, and_true]
  rw [List.getElem?_eq_getElem hlt'] at this
  exact Option.some.inj this
theorem evAppendS_sound (hT : TabOK P T) {M : Nat → Prop} {w0 w : World} {lk : List Value} {σ : St} {a : Act} {tys : List TypeId} {s : V} {y : ByteArray} {Q : V → St → Prop} {vs : Value} (ty0 : TypeId)
    (h : evAppendS T tys s y σ Q) (hr : Rel X w lk σ a) (hi : Inv X M w0 w lk) (hs : VRep w (Imm X w lk) lk s vs) :
    Yl X M w0 a Q ((Builtin.append_ tys.toArray ty0 #[vs, .string y]).run P w) := by
  unfold evAppendS at h
  split at h
  · rename_i ty ty'
    split at h
    · rename_i e s0 b0 z0 s1 b1 z1 hty hty'
      obtain ⟨hu, _, ti', hte', hsz', hzr⟩ := hT.slice ty e _ _ _ _ hty
      have hus := (hT.str _ _ _ _ hty').1
      split at h
      · rename_i te hte
        rw [hte] at hte'
        simp only [Option.some.injEq] at hte'
        subst hte'
        obtain ⟨inf, z, hinf, hisz, hiby, hiz, hzsz, _⟩ := hT.info e te hte
        have hsz1 : te.sz = 1 := hsz'
        have hz8 : inf.zero = some (.int .u8 0) := by
          obtain ⟨i, hi1, hi2⟩ := hT.u8z _ _ _ _ _ _ hty
          rw [hinf] at hi1; cases hi1; exact hi2
        split at h
        · obtain ⟨⟨hb1, hb⟩, hQ⟩ := h
          have hvs : vs = .slice none 0 0 := hs
          subst hvs
          have hown : w.ownsRow 0 e 1 (.slice none 0 0) 0 [] := ⟨by simp, .inl ⟨rfl, rfl⟩⟩
          obtain ⟨v', w', hrun, hown', hgr, hat, hnil⟩ := appStr_at (P := P) (ty := ty0) hu hus hinf hz8 (by rw [hisz, hsz1]) (by rw [hiby, hb1]) hown y (by omega)
          rw [show [ty, ty'].toArray = #[ty, ty'] from rfl, hrun]
          have hk : Keep (fun _ => False) w w' := ⟨hgr.os, hgr.tape, hgr.output, hgr.size, fun k hk1 _ => hgr.block k hk1 (by simp [Value.ownBlock])⟩
          refine newOwn_sound hQ hr hi hk ?_
          rcases hown'.2 with ⟨h0, h1⟩ | ⟨g, cap, cur, rfl, _, hh, h1, h2, h3, h4⟩
          · exact .inl ⟨h0, List.length_eq_zero_iff.1 (by rw [bytesOf_length]; omega)⟩
          · refine .inr ?_
            have hg : g = w.heap.size := by
              rcases hat with hat | hat <;> simp [Value.ownBlock] at hat <;> exact hat
            subst hg
            exact ⟨cap, cur, (0, 0), Lib.strCells y, by simp [bytesOf_length], (Array.getElem?_eq_some_iff.1 hh).1, hh, by rw [bytesOf_length]; simpa using h1, h2, h3, by rw [bytesOf_length]; simpa [Ty.sz] using h4, strCells_reps y, fun _ => rfl, by simp⟩
        · rename_i i
          rw [nth_get] at h
          split at h
          · rename_i e' xs mv ho
            split at h
            · rename_i het
              subst het
              obtain ⟨⟨hb1, hb⟩, hQ⟩ := h
              rw [St.mkAll_iff] at hQ
              obtain ⟨cells, hreps0, hown⟩ := own_ownsRow (hr.ob i _ _ ho hs.1)
              obtain ⟨v', w', hrun, hown', hgr, hat, hnil⟩ := appStr_at (P := P) (ty := ty0) hu hus hinf hz8 (by rw [hisz, hsz1]) (by rw [hiby, hb1]) hown y (by omega)
              rw [show [ty, ty'].toArray = #[ty, ty'] from rfl, hrun]
              refine ownGrown_sound ho hs hQ hr hi hgr hat (Kd.reps_append hreps0 (strCells_reps y)) ?_
              rw [List.length_append, bytesOf_length]; exact hown'
            · exact h.elim
          · exact h.elim
        · exact h.elim
      · exact h.elim
    · exact h.elim
  · exact h.elim
end Go.Proofs.YtilagaapfbfkkaaGreatDoor.Ab
namespace Go.Proofs.YtilagaapfbfkkaaGreatDoor.Ab
open Go Go.RowKit Go.Proofs.YtilagaapfbfkkaaGreatDoorW.PrintWords
variable {X : Cx} {P : Program} {T : Tab}
theorem Yl.pure {M : Nat → Prop} {w0 w : World} {lk : List Value} {σ : St} {a : Act} {Q : V → St → Prop} (hr : Rel X w lk σ a) (hi : Inv X M w0 w lk) {x : V} {v : Value} (hq : Q x σ) (hv : VRep w (Imm X w lk) lk x v) {r : Result Value} (h : r = .ok v w) : Yl X M w0 a Q r :=
  ⟨x, σ, v, w, lk, h, hq, hr, hi, hv⟩
theorem reps_nums {w : World} {I : Nat → Prop} {k : IntKind} {xs : List Int} {news : List Value} (h : Reps (TRep w I (.int k)) 1 xs news) : news = xs.map (Value.int k) := by
  have hl := h.1
  apply List.ext_getElem
  · simpa using hl
  · intro i h1 h2
    have hx : i < xs.length := by simpa using h2
    have := h.2 i _ (List.getElem?_eq_getElem hx)
    simp only [TRep, Nat.mul_one] at this
    have h3 := congrArg (fun l => l[0]?) this
    simp [List.getElem?_take, List.getElem?_drop, h1] at h3
    simpa using h3
theorem evConv_sound (hT : TabOK P T) {M : Nat → Prop} {w0 w : World} {lk : List Value} {σ : St} {a : Act} {src dst : TypeId} {x : V} {Q : V → St → Prop} {vx : Value}
    (h : evConv T src dst x σ Q) (hr : Rel X w lk σ a) (hi : Inv X M w0 w lk) (hx : VRep w (Imm X w lk) lk x vx) : Yl X M w0 a Q ((convert src dst vx).run P w) := by
  unfold evConv at h
  split at h
  · rename_i k s b z _ k' s' b' z' n h1 h2
    have hu := (hT.int _ _ _ _ _ h1).1
    have hu' := (hT.int _ _ _ _ _ h2).1
    have : vx = .int _ n := hx
    subst this
    exact Yl.pure hr hi h rfl (by simp [convert, run_underlying hu, run_underlying hu', Conv.intToInt])
  · rename_i s b z s' b' z' n h1 h2
    have hu := (hT.str _ _ _ _ h1).1
    have hu' := (hT.str _ _ _ _ h2).1
    have : vx = .string n := hx
    subst this
    exact Yl.pure hr hi h rfl (by simp [convert, run_underlying hu, run_underlying hu'])
  · rename_i s b z e s' b' z' n h1 h2
    have hu := (hT.str _ _ _ _ h1).1
    obtain ⟨hu', _⟩ := hT.slice _ _ _ _ _ _ h2
    have hu8 := hT.u8 _ _ _ _ _ _ h2
    have : vx = .string n := hx
    subst this
    obtain ⟨hsz, hq⟩ := h
    rw [Lib.run_convert_string_bytes w src dst e n hu hu' hu8]
    refine newOwn_sound (w' := Lib.bytesWorld w e n) hq hr hi ⟨rfl, rfl, rfl, by rw [Lib.bytesWorld_size]; omega, fun k hk _ => Lib.bytesWorld_at_old w e n k hk⟩ (.inr ⟨_, _, _, _, by rw [bytesOf_length], by rw [Lib.bytesWorld_size]; omega, Lib.bytesWorld_at_new w e n, ?_, ?_, ?_, rfl, ?_, by simp, ?_⟩)
    · rw [bytesOf_length]; exact grownCap_ge w n.size 0 e
    · exact grownCap_le_maxLen w n.size 0 e (by simp only [maxLen]; omega)
    · have := grownCap_ge w n.size 0 e
      have hn : n.data.size = n.size := rfl
      simp [Lib.bytesCells, Ty.sz, hn]; omega
    · have hl : (Lib.bytesCells w e n).toList.take ((bytesOf n).length * Ty.sz (.int .u8)) = (bytesOf n).map (Value.int .u8) := by
        have hn : n.data.toList.length = n.size := data_length n
        simp only [Lib.bytesCells, Array.toList_append, Array.toList_map, Ty.sz, Nat.mul_one, bytesOf_length]
        rw [List.take_append_of_le_length (by rw [List.length_map, hn]; exact Nat.le_refl _), List.take_of_length_le (by rw [List.length_map, hn]; exact Nat.le_refl _)]
        simp [bytesOf]
      rw [hl]
      refine ⟨by simp [Ty.sz], fun j p hj => ?_⟩
      have hjl := (List.getElem?_eq_some_iff.1 hj).1
      simp only [TRep, Ty.sz, Nat.mul_one]
      apply List.ext_getElem?
      intro i
      cases i with
      | zero => simp [List.getElem?_take, List.getElem?_drop, hj]
      | succ i => simp [List.getElem?_take]
    · intro _
      have := grownCap_ge w n.size 0 e
      have hn : n.data.size = n.size := rfl
      simp only [Lib.bytesCells, Ty.sz, bytesOf_length, Array.size_append, Array.size_map, Array.size_replicate, hn]; omega
  · rename_i e s b z s' b' z' c h1 h2
    obtain ⟨hu, _⟩ := hT.slice _ _ _ _ _ _ h1
    have hu8 := hT.u8 _ _ _ _ _ _ h1
    have hu' := (hT.str _ _ _ _ h2).1
    obtain ⟨xs, A, n, hq, rfl, hn, hsr⟩ := slK_sound hr h hx
    refine Yl.pure hr hi hq rfl ?_
    rcases Nat.eq_zero_or_pos xs.length with h0 | h0
    · have : xs = [] := List.length_eq_zero_iff.1 h0
      subst this
      cases A with
      | none => exact run_convert_bytes_nil w src e hu hu8 _ _ dst hu'
      | some ad =>
        have hl : (loadCells ad ([] : List Int).length).run P w = .ok (([] : List Int).map (Value.int .u8)).toArray w := by
          simpa using run_loadCells_list (P := P) w ad [] (by simp)
        rw [run_convert_bytes_string w src dst e _ _ _ hu hu8 hu', run_bytesToString w ad _ n [] hl]
        rfl
    · obtain ⟨ad, news, rfl, hreps, hread⟩ := hsr.news h0
      have hnews := reps_nums hreps
      subst hnews
      have hl : (loadCells ad xs.length).run P w = .ok (xs.map (Value.int .u8)).toArray w := by
        have := run_loadCells_list (P := P) w ad (xs.map (Value.int .u8)) hread
        simpa using this
      rw [run_convert_bytes_string w src dst e _ _ _ hu hu8 hu', run_bytesToString w ad _ n xs hl, foldl_push_bytes]
      simp [strOfNums, ByteArray.empty, ByteArray.emptyWithCapacity]
      rfl
  · rename_i e s1 b1 z1 e2 t2 s2 b2 z2 i h1 h2
    split at h
    · rename_i hsd
      subst hsd
      obtain ⟨hu, _⟩ := hT.slice _ _ _ _ _ _ h1
      have hu8 := hT.u8 _ _ _ _ _ _ h1
      rw [nth_get] at h
      split at h
      · rename_i e' y l mv ho
        rw [setOb_iff] at h
        have hlk : lk[i]? = some vx := hx.1
        obtain ⟨cells, hreps, hv⟩ := hr.ob i _ _ ho hlk
        rcases hv with ⟨_, hnil⟩ | ⟨g, cap, cur, fr, rfl, hh, hc1, hm, hszc, htk, hap, hfr⟩
        · cases hnil
        · obtain rfl := hap rfl
          have hg : g < w.heap.size := (Array.getElem?_eq_some_iff.1 hh).1
          have hh' : (w.freeze ⟨g, cur.size, none⟩ 1).heap[g]? = some (.cells cur e' (cur.size, cur.size + 1)) := by
            simp [World.freeze, Array.getElem?_modify, hh]
          have hot : ∀ k, k ≠ g → (w.freeze ⟨g, cur.size, none⟩ 1).heap[k]? = w.heap[k]? := fun k hk => by
            simp [World.freeze, Array.getElem?_modify, Ne.symm hk]
          have hsz' : (w.freeze ⟨g, cur.size, none⟩ 1).heap.size = w.heap.size := by simp [World.freeze]
          have hk : Keep (fun b => b = g) w (w.freeze ⟨g, cur.size, none⟩ 1) := ⟨rfl, rfl, rfl, by rw [hsz']; exact Nat.le_refl _, fun k _ hn => hot k hn⟩
          have hrun : (convert src src (.slice (some ⟨g, 0, none⟩) (y :: l).length cap)).run P w = .ok (.slice (some ⟨g, 0, none⟩) (y :: l).length cap) (w.freeze ⟨g, cur.size, none⟩ 1) := by
            simp [convert, run_underlying hu, run_underlying hu8, markStringish, World.shape?, hh]
          have hset : lk.set i (.slice (some ⟨g, 0, none⟩) (y :: l).length cap) = lk := by
            apply List.ext_getElem?; intro j
            by_cases hij : i = j
            · subst hij; rw [List.getElem?_set_self (List.getElem?_eq_some_iff.1 hlk).1, hlk]
            · rw [List.getElem?_set_ne hij]
          have hgo : Goes w (Imm X w lk) (w.freeze ⟨g, cur.size, none⟩ 1) (Imm X (w.freeze ⟨g, cur.size, none⟩ 1) lk) := by
            have := Goes.upd (X := X) (w' := w.freeze ⟨g, cur.size, none⟩ 1) (v' := .slice (some ⟨g, 0, none⟩) (y :: l).length cap) hlk (fun k hk1 hk2 => hk.block k hk1 (fun e => hk2 (by rw [e]; rfl))) hk.size (fun b hb => .inl hb)
            rwa [hset] at this
          have hnew : ORep (w.freeze ⟨g, cur.size, none⟩ 1) (Imm X (w.freeze ⟨g, cur.size, none⟩ 1) lk) lk (.own e' (.int .u8) (y :: l) false mv) (.slice (some ⟨g, 0, none⟩) (y :: l).length cap) :=
            ⟨cells, Reps.imp2 hreps (fun p c hp => hp.goes hgo), .inr ⟨g, cap, cur, (cur.size, cur.size + 1), rfl, hh', hc1, hm, hszc, htk, fun h => (by cases h), fun _ => by
              show _ ≤ cur.size
              rw [hszc]; exact Nat.mul_le_mul_right _ hc1⟩⟩
          refine ⟨.one (.own i), _, _, _, lk, hrun, h, ?_, ?_, ⟨hlk, hx.2⟩⟩
          · have := hr.upd (w' := w.freeze ⟨g, cur.size, none⟩ 1) (σ' := ⟨σ.tmps, σ.objs.set i (.own e' (.int .u8) (y :: l) false mv)⟩) (o' := .own e' (.int .u8) (y :: l) false mv) (v' := .slice (some ⟨g, 0, none⟩) (y :: l).length cap) hlk (fun k hk1 hk2 => hk.block k hk1 (fun e => hk2 (by rw [e]; rfl))) hk.size (fun b hb => .inl hb) hi.lx (fun hk0 => ⟨rfl, fun o ho' => by rw [ho] at ho'; simp at ho'; subst ho'; exact hk0⟩) rfl (by simp)
              (fun t x' hx' => ⟨x', hx', fun u hu => by rw [hset]; exact hu.goes hgo (Keeps.refl _ _)⟩)
              (List.getElem?_set_self (List.getElem?_eq_some_iff.1 ho).1)
              (by rw [hset]; exact hnew)
              (fun j oj hji hj => ⟨oj, by rw [List.getElem?_set_ne (Ne.symm hji)] at hj; exact hj, rfl, fun u hub hu => by rw [hset]; exact hu.goes hgo (Keeps.refl _ _) hub⟩)
            rwa [hset] at this
          · have := hi.upd (w' := w.freeze ⟨g, cur.size, none⟩ 1) (v' := .slice (some ⟨g, 0, none⟩) (y :: l).length cap) hlk ⟨hk.os, hk.tape, hk.output, hk.size, fun k hk1 hk2 => hk.block k hk1 (fun e => hk2 (by rw [e]; rfl))⟩ (fun b hb => .inl hb)
            rwa [hset] at this
      · exact h.elim
    · exact h.elim
  · exact h.elim
theorem fold_set : ∀ (us : List Value) (k off : Nat) (cells : Array Value), off + k + us.length ≤ cells.size →
    ((us.zipIdx k).foldl (fun cs (p : Value × Nat) => cs.setIfInBounds (off + p.2) p.1) cells).size = cells.size ∧
    ((us.zipIdx k).foldl (fun cs (p : Value × Nat) => cs.setIfInBounds (off + p.2) p.1) cells).toList = cells.toList.take (off + k) ++ us ++ cells.toList.drop (off + k + us.length)
  | [], k, off, cells, _ => by simp
  | u :: us, k, off, cells, h => by
    simp only [List.length_cons] at h
    simp only [List.zipIdx_cons, List.foldl_cons]
    obtain ⟨h1, h2⟩ := fold_set us (k + 1) off (cells.setIfInBounds (off + k) u) (by simp; omega)
    refine ⟨by rw [h1]; simp, ?_⟩
    rw [h2, Array.toList_setIfInBounds]
    have ho : off + k < cells.toList.length := by rw [Array.length_toList]; omega
    rw [List.take_set, List.drop_set_of_lt (by omega)]
    simp only [List.length_cons]
    rw [show off + (k + 1) + us.length = off + k + (us.length + 1) by omega, show off + (k + 1) = off + k + 1 by omega]
    congr 1
    rw [List.take_succ_eq_append_getElem ho, List.set_append_right _ _ (by rw [List.length_take]; omega)]
    have ho' : off + k < cells.size := by omega
    simp [Nat.min_eq_left (Nat.le_of_lt ho')]
theorem fold_set' (us : Array Value) (off : Nat) (cells : Array Value) (h : off + us.size ≤ cells.size) :
    (us.zipIdx.foldl (fun cs (c, j) => cs.setIfInBounds (off + j) c) cells).size = cells.size ∧
    (us.zipIdx.foldl (fun cs (c, j) => cs.setIfInBounds (off + j) c) cells).toList = cells.toList.take off ++ us.toList ++ cells.toList.drop (off + us.size) := by
  have := fold_set us.toList 0 off cells (by simpa using h)
  simp only [Nat.add_zero, Array.length_toList] at this
  rw [← Array.foldl_toList, Array.toList_zipIdx]
  exact this
theorem fill_upto (sz : Nat) : ∀ (ps : List (Nat × Value)) (k : Nat) (cells : Array Value), (∀ (j : Nat) (p : Nat × Value), ps[j]? = some p → p.1 = k + j) → (∀ p ∈ ps, p.2.cells.size = sz) → cells.size = (k + ps.length) * sz →
    ∃ r, Instr.fill (fun i => some (i * sz, sz)) cells ps = some r ∧ r.size = cells.size ∧ r.toList = cells.toList.take (k * sz) ++ ps.flatMap fun p => p.2.cells.toList
  | [], k, cells, _, _, hs => by
    simp only [List.length_nil, Nat.add_zero] at hs
    refine ⟨cells, rfl, rfl, ?_⟩
    rw [← hs, List.flatMap_nil, List.append_nil, List.take_of_length_le (by simp)]
  | (i, v) :: ps, k, cells, hi, hv, hs => by
    have hik : i = k := by simpa using hi 0 (i, v) rfl
    subst hik
    have hvs : v.cells.size = sz := hv (i, v) (by simp)
    simp only [List.length_cons] at hs
    have hle : i * sz + sz ≤ cells.size := by rw [hs, ← Nat.succ_mul]; exact Nat.mul_le_mul_right _ (by omega)
    obtain ⟨h1, h2⟩ := fold_set' v.cells (i * sz) cells (by omega)
    obtain ⟨r, hr1, hr2, hr3⟩ := fill_upto sz ps (i + 1) (v.cells.zipIdx.foldl (fun cs (c, j) => cs.setIfInBounds (i * sz + j) c) cells)
      (fun j p hp => by have := hi (j + 1) p (by simpa using hp); omega) (fun p hp => hv p (by simp [hp])) (by rw [h1, hs]; congr 1; omega)
    refine ⟨r, ?_, by rw [hr2, h1], ?_⟩
    · simp only [Instr.fill]
      rw [if_neg (by simp [hvs]; omega)]
      exact hr1
    · rw [hr3, h2, List.flatMap_cons, ← List.append_assoc]
      congr 1
      rw [List.take_append_of_le_length (by rw [List.length_append, List.length_take, Array.length_toList, Array.length_toList, hvs, Nat.succ_mul]; omega), List.take_of_length_le (by rw [List.length_append, List.length_take, Array.length_toList, Array.length_toList, hvs, Nat.succ_mul]; omega)]
theorem elems_sound {w : World} {I : Nat → Prop} {lk : List Value} {t : Ty} : ∀ {l : List V} {Q : List t.den → Prop} {vs : List Value}, elems t l Q → All2 (VRep w I lk) l vs →
    ∃ xs, Q xs ∧ Reps (TRep w I t) t.sz xs (vs.flatMap fun v => v.cells.toList) ∧ (∀ v ∈ vs, v.cells.size = t.sz) ∧ xs.length = vs.length
  | [], Q, vs, h, ha => by
    obtain rfl := ha.nil_inv
    exact ⟨[], h, by simpa using Reps.none _ _, by simp, rfl⟩
  | x :: l, Q, vs, h, ha => by
    obtain ⟨v, vs', rfl, hv, hl⟩ := ha.cons_inv
    simp only [elems] at h
    split at h
    · rename_i cs hcs
      obtain ⟨y, r, u1, u2, hq, hu, ht, hr⟩ := Ty.rd_sound h (cells_rep hv hcs)
      split at hq
      · obtain rfl := hr.nil_inv
        rw [List.append_nil] at hu
        obtain ⟨xs, h1, h2, h3, h4⟩ := elems_sound hq hl
        have hlen : v.cells.toList.length = t.sz := by rw [hu]; exact ht.len
        refine ⟨y :: xs, h1, ?_, ?_, by simp [h4]⟩
        · rw [List.flatMap_cons]
          have := Kd.reps_append (Reps.snoc (Reps.none (TRep w I t) t.sz) (by rw [hu]; exact ht) hlen) h2
          simpa using this
        · intro u hu'
          rcases List.mem_cons.1 hu' with rfl | hu'
          · simpa using hlen
          · exact h3 u hu'
      · exact hq.elim
    · exact h.elim
theorem isUpto_spec : ∀ (ps : List (Nat × Operand)) (k : Nat), isUpto k ps = true → ∀ (j : Nat) (p : Nat × Operand), ps[j]? = some p → p.1 = k + j
  | [], _, _, j, p, h => by simp at h
  | (i, o) :: ps, k, h, j, p, hp => by
    simp only [isUpto] at h
    cases hb : Nat.beq k i with
    | false => rw [hb] at h; simp at h
    | true =>
      rw [hb] at h
      have := Nat.eq_of_beq_eq_true hb
      subst this
      cases j with
      | zero => simp at hp; subst hp; rfl
      | succ j => have := isUpto_spec ps (k + 1) h j p (by simpa using hp); omega
theorem opds_rep {w : World} {lk : List Value} {σ : St} {a : Act} (h : Rel X w lk σ a) : ∀ (l : List Operand), All2 (VRep w (Imm X w lk) lk) (l.map (opd σ)) (l.map a.eval)
  | [] => trivial
  | x :: l => ⟨opd_rep h x, opds_rep h l⟩
theorem buildSlice_sound (hT : TabOK P T) {M : Nat → Prop} {w0 w : World} {lk : List Value} {σ' : St} {a : Act} {t e : TypeId} {te : Ty} {s b n : Nat} {z : List C} {ps : Array (Nat × Operand)} {Q : V → St → Prop}
    (ht : T t = some ⟨.slice e te, s, b, z⟩) (hup : isUpto 0 ps.toList = true) (hn : len ps.toList = n) (hbig : n * te.sz ≤ 16777216)
    (h : elems te (partsV σ' ps.toList) fun xs => newOb σ' (.own e te xs true false) (fun i => .one (.own i)) Q) (hr : Rel X w lk σ' a) (hi : Inv X M w0 w lk) :
    Yl X M w0 a Q ((Instr.buildSlice t n (ps.map fun (i, x) => (i, a.eval x))).run P w) := by
  obtain ⟨hu, _, ti, hte, hsz, hz⟩ := hT.slice _ _ _ _ _ _ ht
  obtain ⟨inf, zv, hinf, hisz, hiby, hiz, hzsz, _⟩ := hT.info e ti hte
  rw [len_length] at hn
  have ha : All2 (VRep w (Imm X w lk) lk) (partsV σ' ps.toList) (ps.toList.map fun p => a.eval p.2) := by
    have := opds_rep hr (ps.toList.map (·.2))
    simpa [partsV, List.map_map, Function.comp_def] using this
  obtain ⟨xs, hq, hreps, hcs, hlen⟩ := elems_sound h ha
  have hpl : (ps.map fun (i, x) => (i, a.eval x)).toList = ps.toList.map fun p => (p.1, a.eval p.2) := by simp
  have hxl : xs.length = n := by rw [hlen, List.length_map, hn]
  have hfm : ((ps.toList.map fun p => (p.1, a.eval p.2)).flatMap fun p => p.2.cells.toList) = (ps.toList.map fun p => a.eval p.2).flatMap fun v => v.cells.toList := by
    simp [List.flatMap_map]
  have main : ∀ cells0 : Array Value, cells0.size = n * te.sz → ∃ r, Instr.fill (fun i => some (i * te.sz, te.sz)) cells0 (ps.map fun (i, x) => (i, a.eval x)).toList = some r ∧ r.size = n * te.sz ∧ r.toList = (ps.toList.map fun p => a.eval p.2).flatMap fun v => v.cells.toList := by
    intro cells0 hc0
    rw [hpl]
    obtain ⟨r, h1, h2, h3⟩ := fill_upto te.sz (ps.toList.map fun p => (p.1, a.eval p.2)) 0 cells0
      (fun j p hp => by
        obtain ⟨q, hq1, rfl⟩ := get_map hp
        exact isUpto_spec _ 0 hup j q hq1)
      (fun p hp => by
        obtain ⟨q, hq1, rfl⟩ := List.mem_map.1 hp
        exact hcs _ (List.mem_map.2 ⟨q, hq1, rfl⟩))
      (by rw [hc0, List.length_map, hn, Nat.zero_add])
    refine ⟨r, h1, by rw [h2, hc0], ?_⟩
    rw [h3, hfm]; simp
  have hrun : ∃ r : Array Value, (Instr.buildSlice t n (ps.map fun (i, x) => (i, a.eval x))).run P w = .ok (.slice (some ⟨w.heap.size, 0, none⟩) n n) (w.alloc (.cells r e)) ∧ r.size = n * te.sz ∧ r.toList = (ps.toList.map fun p => a.eval p.2).flatMap fun v => v.cells.toList := by
    have hng : ¬ 16777216 < n * te.sz := by omega
    have hss : inf.size = te.sz := by rw [hisz, hsz]
    by_cases h0 : n * te.sz = 0
    · obtain ⟨r, h1, h2, h3⟩ := main #[] (by simp [h0])
      refine ⟨r, ?_, h2, h3⟩
      have hrg : Array.range 0 = #[] := rfl
      simp [Instr.buildSlice, run_underlying hu, sizeOf, typeInfo, hinf, hss, h0, newRow, hrg, -Array.toList_map]
      simp [h1, newRow, -Array.toList_map]
    · obtain ⟨r, h1, h2, h3⟩ := main ((Array.range (n * te.sz)).map (zv.cells[· % zv.cells.size]!)) (by simp)
      refine ⟨r, ?_, h2, h3⟩
      simp [Instr.buildSlice, run_underlying hu, sizeOf, typeInfo, hinf, hss, h0, hng, zeroValue, hiz, newRow, -Array.toList_map]
      simp [h1, newRow, -Array.toList_map]
  obtain ⟨r, hr1, hr2, hr3⟩ := hrun
  rw [hr1]
  have hmx : n ≤ 16777216 := by
    have : n ≤ n * te.sz := Nat.le_mul_of_pos_right _ te.sz_pos
    omega
  refine newOwn_sound hq hr hi (alloc_keep _ _) (.inr ⟨n, r, (0, 0), _, by rw [hxl], by simp, alloc_new w _, by rw [hxl]; exact Nat.le_refl _, by simp only [maxLen]; omega, hr2, rfl, ?_, fun _ => rfl, by simp⟩)
  rw [hxl, List.take_of_length_le (by rw [Array.length_toList, hr2]; exact Nat.le_refl _), hr3]
  exact hreps
theorem make_sound (hT : TabOK P T) {M : Nat → Prop} {w0 w : World} {lk : List Value} {σ : St} {a : Act} {t e : TypeId} {te : Ty} {s b : Nat} {z : List C} {ti : TI} {m : Int} {Q : V → St → Prop}
    (ht : T t = some ⟨.slice e te, s, b, z⟩) (he : T e = some ti) (h0 : 0 ≤ m) (hb : m * ti.by_ ≤ 140737488355328)
    (h : newOb σ (.own e te (List.replicate m.toNat te.dflt) true false) (fun i => .one (.own i)) Q) (hr : Rel X w lk σ a) (hi : Inv X M w0 w lk) :
    Yl X M w0 a Q ((Instr.makeSlice t (.int .i64 m) (.int .i64 m)).run P w) := by
  obtain ⟨hu, _, ti', hte, hsz, hz⟩ := hT.slice _ _ _ _ _ _ ht
  rw [he] at hte
  simp only [Option.some.injEq] at hte; subst hte
  obtain ⟨inf, zv, hinf, hisz, hiby, hiz, hzsz, _⟩ := hT.info e ti he
  obtain ⟨hby, _⟩ := hT.pos e ti he
  have hmb : m.toNat ≤ 140737488355328 := by
    have h1 : m ≤ m * ti.by_ := by
      have : m * 1 ≤ m * ti.by_ := Int.mul_le_mul_of_nonneg_left (by omega) h0
      omega
    omega
  have hrun := run_make (P := P) w t e inf zv hu hinf hiz .i64 .i64 m m h0 (Int.le_refl _) (by rw [hiby, Int.mul_comm]; omega) (by omega)
  rw [hrun]
  refine newOwn_sound h hr hi (alloc_keep _ _) (.inr ⟨m.toNat, _, (0, 0), _, by simp, by simp, alloc_new w _, by simp, by simp only [maxLen]; omega, by rw [size_madeCells, hisz, hsz], rfl, ?_, fun _ => rfl, by simp⟩)
  have hzz : zv.cells.size = te.sz := by rw [hzsz, hsz]
  have := madeCells_reps (hz inf zv hinf hiz w (Imm X w lk)) m.toNat
  rw [hisz, hsz, List.length_replicate, List.take_of_length_le (by rw [Array.length_toList, size_madeCells]; exact Nat.le_refl _)]
  exact this
end Go.Proofs.YtilagaapfbfkkaaGreatDoor.Ab
namespace Go.Proofs.YtilagaapfbfkkaaGreatDoor.Ab
open Go Go.RowKit Go.Proofs.YtilagaapfbfkkaaGreatDoorW.PrintWords
variable {X : Cx} {P : Program} {T : Tab} {Γ : Sems}
theorem places_some : ∀ (l : List Field), (∀ f ∈ l, ∃ i, P.info? f.type = some i ∧ i.size ≠ 0) → ∃ places, l.mapM (fun f => (P.info? f.type).map fun i => (f.offset, i.size)) = some places ∧
    ∀ (k : Nat) (f : Field) (i : TypeInfo), l[k]? = some f → P.info? f.type = some i → places[k]? = some (f.offset, i.size)
  | [], _ => ⟨[], by simp, by simp⟩
  | f :: l, h => by
    obtain ⟨i, hi, _⟩ := h f (by simp)
    obtain ⟨ps, h1, h2⟩ := places_some l (fun g hg => h g (by simp [hg]))
    refine ⟨(f.offset, i.size) :: ps, by simp [List.mapM_cons, hi, h1], fun k g j hk hj => ?_⟩
    cases k with
    | zero => simp at hk; subst hk; rw [hi] at hj; simp at hj; subst hj; rfl
    | succ k => simpa using h2 k g j (by simpa using hk) hj
theorem fillK_sound (hT : TabOK P T) {w : World} {lk : List Value} {σ : St} {a : Act} (hr : Rel X w lk σ a) {F : List Field} {fs : List (Nat × TypeId)} (hfs : F.map (fun f => (f.offset, f.type)) = fs) {places : List (Nat × Nat)}
    (hp : ∀ (k : Nat) (f : Field) (i : TypeInfo), F[k]? = some f → P.info? f.type = some i → places[k]? = some (f.offset, i.size)) :
    ∀ (ps : List (Nat × Operand)) (z : List C) (cells : Array Value) (cs : List C), fillK T fs (ps.map fun p => (p.1, opd σ p.2)) z = some cs → All2 (Cel w (Imm X w lk) lk) z cells.toList →
      ∃ r, Instr.fill (places.toArray[·]?) cells (ps.map fun p => (p.1, a.eval p.2)) = some r ∧ All2 (Cel w (Imm X w lk) lk) cs r.toList
  | [], z, cells, cs, h, ha => by
    simp only [List.map_nil, fillK, Option.some.injEq] at h
    subst h
    exact ⟨cells, rfl, ha⟩
  | (i, x) :: ps, z, cells, cs, h, ha => by
    simp only [List.map_cons, fillK, nth_get] at h
    split at h
    · rename_i off ft us hf hus
      split at h
      · rename_i ti hti
        split at h
        · rename_i hlen
          rw [len_length] at hlen
          obtain ⟨l', hov, hcs⟩ := Option.bind_eq_some_iff.1 h
          clear h
          obtain ⟨inf, zv, hinf, hsz, _⟩ := hT.info ft ti hti
          have hau := cells_rep (opd_rep hr x) hus
          obtain ⟨h1, h2⟩ := over_all ha hau hov
          subst hfs
          obtain ⟨f, hff, hfe⟩ := get_map hf
          simp only [Prod.mk.injEq] at hfe
          obtain ⟨rfl, rfl⟩ := hfe
          have hpl := hp i f inf hff hinf
          have hvs : (a.eval x).cells.size = ti.sz := by rw [← hlen, hau.length]; simp
          have hle : f.offset + (a.eval x).cells.size ≤ cells.size := by simpa using h2
          obtain ⟨h3, h4⟩ := fold_set' (a.eval x).cells f.offset cells hle
          obtain ⟨r, hr1, hr2⟩ := fillK_sound hT hr rfl hp ps l' _ cs hcs (by rw [h4]; simpa using h1)
          refine ⟨r, ?_, hr2⟩
          simp only [List.map_cons, Instr.fill]
          have : places.toArray[i]? = some (f.offset, inf.size) := by simpa using hpl
          rw [this]
          simp only
          rw [if_neg (by rw [hvs, hsz]; simp; rw [← hvs]; omega)]
          exact hr1
        · cases h
      · cases h
    · cases h
theorem build_sound (hT : TabOK P T) {w : World} {lk : List Value} {σ : St} {a : Act} {t : TypeId} {fs : List (Nat × TypeId)} {s b : Nat} {z cs : List C} {ps : Array (Nat × Operand)}
    (ht : T t = some ⟨.struct fs, s, b, z⟩) (hr : Rel X w lk σ a) (h : fillK T fs (ps.toList.map fun p => (p.1, opd σ p.2)) z = some cs) :
    ∃ v, (∀ w', (Instr.build t (ps.map fun (i, x) => (i, a.eval x))).run P w' = .ok v w') ∧ VRep w (Imm X w lk) lk (.agg cs) v := by
  obtain ⟨F, hu, hF, hsz⟩ := hT.struct _ _ _ _ _ ht
  obtain ⟨inf, zv, hinf, _, _, hz, _, hzr⟩ := hT.info _ _ ht
  obtain ⟨places, hp1, hp2⟩ := places_some (P := P) F.toList hsz
  obtain ⟨r, h1, h2⟩ := fillK_sound hT hr hF hp2 ps.toList z zv.cells cs h (hzr w (Imm X w lk) lk)
  refine ⟨.agg r, fun w' => run_build w' t _ r ?_, r.toList, by simp, h2⟩
  unfold Program.built
  simp only [hinf, hu, hz, hp1]
  have : (ps.map fun (i, x) => (i, a.eval x)).toList = ps.toList.map fun p => (p.1, a.eval p.2) := by simp
  rw [this]; exact h1
theorem slice_str_run {t : TypeId} {s : ByteArray} {w : World} {lo hi : Option Value} (hu : P.underlying t = some .string) {l h : Nat}
    (hb : (Instr.sliceBounds false s.size s.size lo hi none).run P w = .ok (l, h, s.size) w) : (Instr.sliceAt t (.string s) lo hi none).run P w = .ok (.string (s.extract l h)) w := by
  rw [run_sliceAt_string _ _ _ _ _ _ hu]
  simp [Instr.slice, run_underlying hu, hb]
theorem evSlice_sound (hT : TabOK P T) {M : Nat → Prop} {w0 w : World} {lk : List Value} {σ : St} {a : Act} {t : TypeId} {ti : TI} {x : V} {lo hi mx : Option Operand} {Q : V → St → Prop} {vx : Value}
    (ht : T t = some ti) (h : evSlice ti.d x (lo.map (opd σ)) (hi.map (opd σ)) (mx.map (opd σ)) σ Q) (hr : Rel X w lk σ a) (hi' : Inv X M w0 w lk) (hx : VRep w (Imm X w lk) lk x vx) :
    Yl X M w0 a Q ((Instr.sliceAt t vx (lo.map a.eval) (hi.map a.eval) (mx.map a.eval)).run P w) := by
  obtain ⟨d, sz, by_, z⟩ := ti
  have ho : ∀ (o : Option Operand) (k : IntKind) (n : Int), o.map (opd σ) = some (.one (.int k n)) → o.map a.eval = some (.int k n) := by
    intro o k n he
    cases o with
    | none => cases he
    | some y =>
      simp only [Option.map_some, Option.some.injEq] at he
      have := opd_rep hr y
      rw [he] at this
      simp only [Option.map_some, Option.some.injEq]
      exact this
  unfold evSlice at h
  split at h
  · rename_i s hd hm
    simp only at hd
    subst hd
    have hu := (hT.str _ _ _ _ ht).1
    have hvx : vx = .string s := hx
    subst hvx
    have hmx : mx.map a.eval = none := by cases mx <;> simp_all
    rw [hmx]
    split at h
    · rename_i hh
      have hhi : hi.map a.eval = none := by cases hi <;> simp_all
      rw [hhi]
      split at h
      · rename_i hl
        have hlo : lo.map a.eval = none := by cases lo <;> simp_all
        rw [hlo]
        exact Yl.pure hr hi' h rfl (slice_str_run hu (by simp [Instr.sliceBounds]))
      · rename_i k l hl
        rw [ho _ _ _ hl]
        obtain ⟨⟨h0, h1⟩, hq⟩ := h
        exact Yl.pure hr hi' hq rfl (slice_str_run hu (by simp [Instr.sliceBounds, run_sliceBound, h0, h1]))
      · exact h.elim
    · rename_i k hb hh
      rw [ho _ _ _ hh]
      split at h
      · rename_i hl
        have hlo : lo.map a.eval = none := by cases lo <;> simp_all
        rw [hlo]
        obtain ⟨⟨h0, h1⟩, hq⟩ := h
        exact Yl.pure hr hi' hq rfl (slice_str_run hu (by simp [Instr.sliceBounds, run_sliceBound, h0, h1]))
      · rename_i k' l hl
        rw [ho _ _ _ hl]
        obtain ⟨⟨h0, h1, h2⟩, hq⟩ := h
        have e1 : (hb.toNat : Int) = hb := Int.toNat_of_nonneg (by omega)
        exact Yl.pure hr hi' hq rfl (slice_str_run hu (by simp [Instr.sliceBounds, run_sliceBound, h0, h1, h2, show 0 ≤ hb by omega, e1]))
      · exact h.elim
    · exact h.elim
  · rename_i e te t' xs hd hm
    simp only at hd
    subst hd
    split at h
    · rename_i hte
      subst hte
      obtain ⟨hu, _, tie, hte, hsz, _⟩ := hT.slice _ _ _ _ _ _ ht
      obtain ⟨inf, zv, hinf, hisz, _⟩ := hT.info _ _ hte
      obtain ⟨A, c, rfl, hc, hsr⟩ := hx
      have he : P.elem t = e := by simp [Program.elem, hu]
      have hu' : P.underlying t = some (.slice (P.elem t)) := by rw [he]; exact hu
      have hsize : (sizeOf (P.elem t)).run P w = .ok te.sz w := by rw [he]; simp [sizeOf, typeInfo, hinf, hisz, hsz]
      have hmx : mx.map a.eval = none := by cases mx <;> simp_all
      rw [hmx, run_sliceAt_slice _ _ _ _ _ _ hu']
      have key : ∀ (l h : Nat), l ≤ h → h ≤ xs.length → CRep w (Imm X w lk) lk (.sl te ((xs.take h).drop l)) (sliced A l h c te.sz) := by
        intro l h hlh hhl
        have hlen : ((xs.take h).drop l).length = h - l := by rw [List.length_drop, List.length_take]; omega
        refine ⟨if c = l then A else A.map (·.add (l * te.sz)), c - l, by rw [hlen]; rfl, by rw [hlen]; omega, by rw [hlen]; have := hsr.1; omega, fun hp => ?_⟩
        rw [hlen] at hp
        obtain ⟨ad, rfl, hI, hcell⟩ := hsr.2 (by omega)
        rw [if_neg (by omega)]
        obtain ⟨cs0, hl0, _, hu0⟩ := hcell 0 _ (List.getElem?_eq_getElem (by omega))
        have hsp : ad.spot = none := by
          have hpos := te.sz_pos
          have := hu0 0 _ (List.getElem?_eq_getElem (by omega))
          simp only [Nat.zero_mul, Nat.zero_add] at this
          have := cell_spot this
          simpa [Addr.add] using this
        refine ⟨_, rfl, by rw [add_block']; exact hI, fun j x hj => ?_⟩
        rw [List.getElem?_drop, List.getElem?_take] at hj
        split at hj
        · obtain ⟨cs, h1, h2, h3⟩ := hcell (l + j) x hj
          refine ⟨cs, h1, h2, fun i u hiu => ?_⟩
          rw [add_add hsp]
          have := h3 i u hiu
          rwa [show (l + j) * te.sz + i = l * te.sz + (j * te.sz + i) by rw [Nat.add_mul]; omega] at this
        · cases hj
      split at h
      · rename_i hh
        have hhi : hi.map a.eval = none := by cases hi <;> simp_all
        rw [hhi]
        split at h
        · rename_i k l hl
          rw [ho _ _ _ hl]
          obtain ⟨⟨h0, h1⟩, hq⟩ := h
          refine Yl.pure hr hi' hq ?_ (by rw [run_slice_l _ _ _ _ _ hu' _ _ h0 h1, hsize]; rfl)
          have := key l.toNat xs.length (by omega) (Nat.le_refl _)
          rwa [List.take_length] at this
        · exact h.elim
      · rename_i k hb hh
        rw [ho _ _ _ hh]
        split at h
        · rename_i hl
          have hlo : lo.map a.eval = none := by cases lo <;> simp_all
          rw [hlo]
          obtain ⟨⟨h0, h1⟩, hq⟩ := h
          refine Yl.pure hr hi' hq ?_ (by rw [run_slice_h _ _ _ _ _ hu' _ _ h0 (by omega), hsize]; rfl)
          have := key 0 hb.toNat (by omega) (by omega)
          rwa [List.drop_zero] at this
        · rename_i k' l hl
          rw [ho _ _ _ hl]
          obtain ⟨⟨h0, h1, h2⟩, hq⟩ := h
          refine Yl.pure hr hi' hq ?_ (by rw [run_slice_lh _ _ _ _ _ hu' _ _ _ _ h0 h1 (by omega), hsize]; rfl)
          exact key l.toNat hb.toNat (by omega) (by omega)
        · exact h.elim
      · exact h.elim
    · exact h.elim
  · exact h.elim
end Go.Proofs.YtilagaapfbfkkaaGreatDoor.Ab
namespace Go.Proofs.YtilagaapfbfkkaaGreatDoor.Ab
open Go Go.RowKit Go.Proofs.YtilagaapfbfkkaaGreatDoorW.PrintWords
variable {X : Cx} {P : Program} {T : Tab} {Γ : Sems}
structure ORel (X : Cx) (w : World) (lk : List Value) (os : List Ob) : Prop where
  lsz : lk.length = os.length
  ob : ∀ (i : Nat) (o : Ob) (v : Value), os[i]? = some o → lk[i]? = some v → ORep w (Imm X w lk) lk o v
  dj : ∀ (i j : Nat) (v v' : Value) (b : Nat), i ≠ j → lk[i]? = some v → lk[j]? = some v' → blk v = some b → blk v' ≠ some b
  lt : ∀ (i : Nat) (v : Value) (b : Nat), lk[i]? = some v → blk v = some b → b < w.heap.size
  nx : ∀ (i : Nat) (v : Value) (b : Nat), lk[i]? = some v → blk v = some b → ¬ X.hid b
  ll : X.l0.length ≤ lk.length
  kp : ∀ (p : Nat) (v0 : Value) (o : Ob), X.l0[p]? = some v0 → os[p]? = some o → keepsO o = true → lk[p]? = some v0
theorem Rel.toO {w : World} {lk : List Value} {σ : St} {a : Act} (h : Rel X w lk σ a) : ORel X w lk σ.objs := ⟨h.lsz, h.ob, h.dj, h.lt, h.nx, h.ll, h.kp⟩
theorem ORel.toR {w : World} {lk : List Value} {σ : St} {a : Act} (h : ORel X w lk σ.objs) (h1 : a.tmps.size = σ.tmps.length) (h2 : ∀ (t : Nat) (x : V), σ.tmps[t]? = some x → VRep w (Imm X w lk) lk x (a.tmps.getD t undef)) (h3 : a.defers = X.df) : Rel X w lk σ a :=
  ⟨h1, h2, h.lsz, h.ob, h.dj, h.lt, h.nx, h.ll, h.kp, h3⟩
def panE (t : TypeId) (k : IntKind) (n : Int) : List PanicEntry := [{ v := .iface t (.agg #[.int k n]), recovered := false }]
def OutRep (w : World) (I : Nat → Prop) (lk : List Value) : Out → Ending → Prop
  | .ret x, e => ∃ v, e = .returned v ∧ VRep w I lk x v
  | .pan (.ifa t k n), e => e = .panicked (panE t k n)
  | _, _ => False
def Post (X : Cx) (w : World) (lk : List Value) (ro : Bool) (K : List Ob → Out → Prop) (e : Ending) (w' : World) : Prop :=
  ∃ os' lk' out, K os' out ∧ ORel X w' lk' os' ∧ Keep (fun b => ro = false ∧ ∃ v ∈ lk, blk v = some b) w w' ∧ (∀ v ∈ lk', ∀ b, blk v = some b → (∃ u ∈ lk, blk u = some b) ∨ w.heap.size ≤ b) ∧ OutRep w' (Imm X w' lk') lk' out e
def SenseOK (G : World → Prop) (P : Program) (f : FuncId) (s : Sense) : Prop :=
  ∀ (X : Cx) (w : World) (lk : List Value) (os : List Ob) (as_ : List V) (vs : List Value) (K : List Ob → Out → Prop), ORel X w lk os → X.l0 = lk → (∀ b, X.hid b → b < w.heap.size) → X.gr = G → Gnd X w →
    All2 (VRep w (Imm X w lk) lk) as_ vs → s.f os as_ K → Calls P f vs.toArray w (Post X w lk s.ro K)
def SemsOK (G : World → Prop) (P : Program) (Γ : Sems) : Prop := ∀ f s, Γ f = some s → (∃ fn, P.funcs[f]? = some fn ∧ fn.body.isSome = true ∧ fn.name ≠ "runtime.NumGoroutine") ∧ SenseOK G P f s
theorem memN_mem : ∀ {l : List Nat} {i : Nat}, memN i l = true ↔ i ∈ l
  | [], i => by simp [memN]
  | j :: l, i => by
    simp only [memN]
    cases h : Nat.beq i j with
    | true => simp [Nat.eq_of_beq_eq_true h]
    | false =>
      have : i ≠ j := fun e => by subst e; simp at h
      simp [memN_mem, this]
theorem posN_get : ∀ {l : List Nat} {i : Nat}, i ∈ l → l[posN i l]? = some i
  | [], i, h => by simp at h
  | j :: l, i, h => by
    simp only [posN]
    cases hb : Nat.beq i j with
    | true => simp [Nat.eq_of_beq_eq_true hb]
    | false =>
      have : i ≠ j := fun e => by subst e; simp at hb
      have hm : i ∈ l := by simpa [this] using h
      simpa using posN_get hm
theorem addN_nodup : ∀ (l acc : List Nat), acc.Nodup → (addN acc l).Nodup
  | [], acc, h => by simpa [addN] using h
  | i :: l, acc, h => by
    simp only [addN]
    cases hm : memN i acc with
    | true => exact addN_nodup l acc h
    | false =>
      refine addN_nodup l _ ?_
      have : i ∉ acc := fun hi => by rw [memN_mem.2 hi] at hm; cases hm
      exact List.nodup_append.2 ⟨h, by simp, fun a ha b hb => by simp at hb; subst hb; exact fun e => this (e ▸ ha)⟩
theorem reach_nodup (os : List Ob) : ∀ (n : Nat) (ids : List Nat), ids.Nodup → (reach os n ids).Nodup
  | 0, ids, h => h
  | n + 1, ids, h => reach_nodup os n _ (addN_nodup _ _ h)
theorem idsOf_nodup (σ : St) (args : List V) : (idsOf σ args).Nodup := reach_nodup _ _ _ (addN_nodup _ _ (by simp))
theorem nodup_get {l : List Nat} (h : l.Nodup) {i j k : Nat} (hi : l[i]? = some k) (hj : l[j]? = some k) : i = j := by
  obtain ⟨h1, h2⟩ := List.getElem?_eq_some_iff.1 hi
  obtain ⟨h3, h4⟩ := List.getElem?_eq_some_iff.1 hj
  rcases Nat.lt_trichotomy i j with hlt | hlt | hlt
  · exact absurd (h2.trans h4.symm) (List.pairwise_iff_getElem.1 h i j h1 h3 hlt)
  · exact hlt
  · exact absurd (h4.trans h2.symm) (List.pairwise_iff_getElem.1 h j i h3 h1 hlt)
theorem anyP_false {p : Nat → Bool} : ∀ {l : List Nat}, anyP p l = false → ∀ i ∈ l, p i = false
  | [], _, i, hi => by cases hi
  | j :: l, h, i, hi => by
    simp only [anyP] at h
    cases hj : p j with
    | true => rw [hj] at h; cases h
    | false =>
      rw [hj] at h
      rcases List.mem_cons.1 hi with rfl | hi
      · exact hj
      · exact anyP_false h i hi
theorem CRep.ren {w w' : World} {I I' : Nat → Prop} {lk lk' : List Value} {ρ : Nat → Nat} (hg : Goes w I w' I') {c : C} {u : Value} (hk : ∀ i ∈ c.id, ∀ v, lk[i]? = some v → lk'[ρ i]? = some v) (h : CRep w I lk c u) : CRep w' I' lk' (c.ren ρ) u := by
  cases c with
  | ref i o => obtain ⟨b, hb, rfl⟩ := h; exact ⟨b, hk i (by simp [C.id]) _ hb, rfl⟩
  | own i => exact ⟨hk i (by simp [C.id]) _ h.1, h.2⟩
  | elt t i j o => obtain ⟨g, n, c, hb, hj, rfl⟩ := h; exact ⟨g, n, c, hk i (by simp [C.id]) _ hb, hj, rfl⟩
  | mp i => exact ⟨hk i (by simp [C.id]) _ h.1, h.2⟩
  | fn f l =>
    obtain ⟨us, rfl, ha⟩ := h
    refine ⟨us, rfl, ?_⟩
    exact All2.map (ha.imp fun i hi u hu => ⟨hk i hi _ hu.1, hu.2⟩)
  | _ => simp only [C.ren]; exact h.goes hg (fun i hi => by simp [C.id] at hi)
theorem E.ren_map (e : E) (ρ : Nat → Nat) : e.ren ρ = e.map (C.ren ρ) := by cases e <;> rfl
theorem V.ren_map (v : V) (ρ : Nat → Nat) : v.ren ρ = v.map (C.ren ρ) := by
  cases v <;> simp [V.ren, V.map, E.ren_map]
theorem Ob.ren_map (o : Ob) (ρ : Nat → Nat) : o.ren ρ = o.map (C.ren ρ) := by cases o <;> rfl
theorem CRep.go {w : World} {I I' : Nat → Prop} {lk lk' : List Value} {ids : List Nat} (hg : Goes w I w I') (hl : ∀ (p i : Nat), ids[p]? = some i → ∀ v, lk[i]? = some v → lk'[p]? = some v) (c : C) (u : Value) (h : CRep w I lk c u) :
    CRep w I' lk' ((c.drop fun i => !memN i ids).ren fun i => posN i ids) u := by
  have key : ∀ i, memN i ids = true → ∀ v, lk[i]? = some v → lk'[posN i ids]? = some v := fun i hi v hv => hl _ i (posN_get (memN_mem.1 hi)) v hv
  cases c with
  | ref i o =>
    simp only [C.drop]
    cases hm : memN i ids with
    | false => trivial
    | true => simp only [Bool.not_true, cond_false]; exact CRep.ren hg (fun j hj v hv => by simp [C.id] at hj; subst hj; exact key _ hm v hv) h
  | own i =>
    simp only [C.drop]
    cases hm : memN i ids with
    | false => trivial
    | true => simp only [Bool.not_true, cond_false]; exact CRep.ren hg (fun j hj v hv => by simp [C.id] at hj; subst hj; exact key _ hm v hv) h
  | elt t i k o =>
    simp only [C.drop]
    cases hm : memN i ids with
    | false => trivial
    | true => simp only [Bool.not_true, cond_false]; exact CRep.ren hg (fun j hj v hv => by simp [C.id] at hj; subst hj; exact key _ hm v hv) h
  | mp i =>
    simp only [C.drop]
    cases hm : memN i ids with
    | false => trivial
    | true => simp only [Bool.not_true, cond_false]; exact CRep.ren hg (fun j hj v hv => by simp [C.id] at hj; subst hj; exact key _ hm v hv) h
  | fn f l =>
    simp only [C.drop]
    cases hm : anyP (fun i => !memN i ids) l with
    | true => trivial
    | false => simp only [cond_false]; exact CRep.ren hg (fun j hj v hv => key _ (by have := anyP_false hm j hj; simpa using this) v hv) h
  | _ => simp only [C.drop]; exact CRep.ren hg (fun j hj => by simp [C.id] at hj) h
theorem V.map_map (v : V) (f g : C → C) : (v.map f).map g = v.map fun c => g (f c) := by
  have he : ∀ e : E, (e.map f).map g = e.map fun c => g (f c) := fun e => by cases e <;> simp [E.map]
  cases v <;> simp [V.map, he]
theorem Ob.map_map (o : Ob) (f g : C → C) : (o.map f).map g = o.map fun c => g (f c) := by cases o <;> simp [Ob.map]
theorem ORep.unmv {w : World} {I : Nat → Prop} {lk : List Value} {o : Ob} {u : Value} (h : ORep w I lk o u) : ORep w I lk (Ab.unmv o) u := by cases o <;> exact h
theorem ORep.merge {w : World} {I : Nat → Prop} {lk : List Value} {o o' : Ob} {u : Value} (h : ORep w I lk o' u) (hne : o ≠ .gone) : ORep w I lk (mergeO o o') u := by
  cases o with
  | gone => exact absurd rfl hne
  | box e l => cases o' <;> exact h
  | mset kt ks => cases o' <;> exact h
  | own e t xs a m => cases o' <;> exact h
def lkOf (lk : List Value) (ids : List Nat) : List Value := ids.map fun i => lk.getD i (.bool false)
def putLk : List Nat → List Value → List Value → List Value
  | [], new, lk => lk ++ new
  | _ :: _, [], lk => lk
  | i :: ids, v :: new, lk => putLk ids new (lk.set i v)
theorem live_spec {os : List Ob} : ∀ {ids : List Nat}, live os ids = true → ∀ i ∈ ids, ∃ o, os[i]? = some o ∧ o ≠ .gone
  | [], _, i, hi => by simp at hi
  | j :: l, h, i, hi => by
    simp only [live, nth_get] at h
    split at h
    · cases h
    · cases h
    · rename_i h1 h2
      rcases List.mem_cons.1 hi with rfl | hi
      · cases ho : os[i]? with
        | none => exact absurd ho h2
        | some o => exact ⟨o, rfl, fun e => h1 (by rw [ho, e])⟩
      · exact live_spec h i hi
theorem putLk_get : ∀ (ids : List Nat) (new lk : List Value), ids.Nodup → (∀ i ∈ ids, i < lk.length) → ids.length ≤ new.length → ∀ k,
    (putLk ids new lk)[k]? = if k < lk.length then (if k ∈ ids then new[posN k ids]? else lk[k]?) else new[ids.length + (k - lk.length)]?
  | [], new, lk, _, _, _, k => by
    simp only [putLk, List.not_mem_nil, if_false, List.length_nil, Nat.zero_add]
    split
    · rename_i h; rw [List.getElem?_append_left h]
    · rename_i h; rw [List.getElem?_append_right (by omega)]
  | i :: ids, [], lk, _, _, hl, k => by simp at hl
  | i :: ids, v :: new, lk, hn, hi, hl, k => by
    obtain ⟨hni, hn'⟩ := List.nodup_cons.1 hn
    simp only [List.length_cons] at hl
    simp only [putLk]
    rw [putLk_get ids new (lk.set i v) hn' (fun j hj => by rw [List.length_set]; exact hi j (by simp [hj])) (by omega) k, List.length_set]
    have hil := hi i (by simp)
    split
    · rename_i hk
      by_cases hki : k = i
      · subst hki
        simp [hni, posN, List.getElem?_set_self hil]
      · by_cases hm : k ∈ ids
        · have hb : Nat.beq k i = false := by
            cases hb : Nat.beq k i with
            | true => exact absurd (Nat.eq_of_beq_eq_true hb) hki
            | false => rfl
          simp [hm, hki, posN, hb]
        · simp [hm, hki, List.getElem?_set_ne (Ne.symm hki)]
    · simp only [List.length_cons]
      rw [show ids.length + 1 + (k - lk.length) = ids.length + (k - lk.length) + 1 by omega, List.getElem?_cons_succ]
theorem putObs_get : ∀ (ids : List Nat) (new os : List Ob), ids.Nodup → (∀ i ∈ ids, i < os.length) → ids.length ≤ new.length → ∀ k,
    (putObs ids new os)[k]? = if k < os.length then (if k ∈ ids then (new[posN k ids]?).map (mergeO ((os[k]?).getD .gone)) else os[k]?) else new[ids.length + (k - os.length)]?
  | [], new, os, _, _, _, k => by
    simp only [putObs, List.not_mem_nil, if_false, List.length_nil, Nat.zero_add]
    split
    · rename_i h; rw [List.getElem?_append_left h]
    · rename_i h; rw [List.getElem?_append_right (by omega)]
  | i :: ids, [], os, _, _, hl, k => by simp at hl
  | i :: ids, v :: new, os, hn, hi, hl, k => by
    obtain ⟨hni, hn'⟩ := List.nodup_cons.1 hn
    simp only [List.length_cons] at hl
    simp only [putObs, setL_eq, nth_get]
    rw [putObs_get ids new _ hn' (fun j hj => by rw [List.length_set]; exact hi j (by simp [hj])) (by omega) k, List.length_set]
    have hil := hi i (by simp)
    split
    · rename_i hk
      by_cases hki : k = i
      · subst hki
        simp [hni, posN, List.getElem?_set_self hil]
      · have hb : Nat.beq k i = false := by
          cases hb : Nat.beq k i with
          | true => exact absurd (Nat.eq_of_beq_eq_true hb) hki
          | false => rfl
        by_cases hm : k ∈ ids
        · simp [hm, hki, posN, hb, List.getElem?_set_ne (Ne.symm hki)]
        · simp [hm, hki, List.getElem?_set_ne (Ne.symm hki)]
    · simp only [List.length_cons]
      rw [show ids.length + 1 + (k - os.length) = ids.length + (k - os.length) + 1 by omega, List.getElem?_cons_succ]
theorem putObs_length : ∀ (ids : List Nat) (new os : List Ob), ids.length ≤ new.length → (putObs ids new os).length = os.length + (new.length - ids.length)
  | [], new, os, _ => by simp [putObs]
  | _ :: _, [], os, h => by simp at h
  | i :: ids, v :: new, os, h => by
    simp only [List.length_cons] at h
    simp only [putObs, setL_eq]
    rw [putObs_length ids new _ (by omega), List.length_set]
    simp
theorem putLk_length : ∀ (ids : List Nat) (new lk : List Value), ids.length ≤ new.length → (putLk ids new lk).length = lk.length + (new.length - ids.length)
  | [], new, os, _ => by simp [putLk]
  | _ :: _, [], os, h => by simp at h
  | i :: ids, v :: new, os, h => by
    simp only [List.length_cons] at h
    simp only [putLk]
    rw [putLk_length ids new _ (by omega), List.length_set]
    simp
theorem lost_spec : ∀ {ids : List Nat} {os : List Ob}, ids.Nodup → ∀ {p i : Nat} {o : Ob}, ids[p]? = some i → os[p]? = some o → i ∉ lost ids os → keepsO o = true
  | [], _, _, _, _, _, h, _, _ => by simp at h
  | _ :: _, [], _, _, _, _, _, h, _ => by simp at h
  | j :: ids, o' :: os, hn, p, i, o, hp, ho, hl => by
    obtain ⟨hni, hn'⟩ := List.nodup_cons.1 hn
    simp only [lost] at hl
    cases p with
    | zero =>
      simp at hp ho
      subst hp ho
      cases hk : keepsO o' with
      | true => rfl
      | false => rw [hk] at hl; simp at hl
    | succ p =>
      refine lost_spec hn' (p := p) (by simpa using hp) (by simpa using ho) (fun hm => hl ?_)
      cases keepsO o' <;> simp [hm]
end Go.Proofs.YtilagaapfbfkkaaGreatDoor.Ab
namespace Go.Proofs.YtilagaapfbfkkaaGreatDoor.Ab
open Go Go.RowKit Go.Proofs.YtilagaapfbfkkaaGreatDoorW.PrintWords
variable {X : Cx} {P : Program} {T : Tab} {Γ : Sems}
def isBx : Ob → Bool
  | .box _ _ => true | .mset _ _ => true | _ => false
theorem kinds_spec {os : List Ob} : ∀ {ids : List Nat} {new : List Ob}, kindsO ids new os = true → ∀ {p i : Nat} {o : Ob}, ids[p]? = some i → new[p]? = some o → ∀ e t xs a, isBx o = true → os[i]? ≠ some (.own e t xs a true)
  | [], _, _, p, i, o, h, _ => by simp at h
  | _ :: _, [], _, p, i, o, _, h => by simp at h
  | j :: ids, o' :: new, h, p, i, o, hp, ho => by
    cases p with
    | zero =>
      simp at hp ho
      subst hp ho
      intro e t xs a he hos
      cases o' with
      | box => simp [kindsO, nth_get, hos, movedO] at h
      | mset => simp [kindsO, nth_get, hos, movedO] at h
      | own => cases he
      | gone => cases he
    | succ p =>
      refine kinds_spec (ids := ids) (new := new) ?_ (by simpa using hp) (by simpa using ho)
      cases o' with
      | box l0 l =>
        simp only [kindsO] at h
        cases hm : movedO (nth os j) with
        | true => rw [hm] at h; cases h
        | false => rw [hm] at h; exact h
      | mset l0 l =>
        simp only [kindsO] at h
        cases hm : movedO (nth os j) with
        | true => rw [hm] at h; cases h
        | false => rw [hm] at h; exact h
      | own e t xs a m => exact h
      | gone => exact h
theorem merge_keeps {a b : Ob} (h : keepsO (mergeO a b) = true) (hk : isBx b = true → ∀ e t xs ap, a ≠ .own e t xs ap true) (hg : a ≠ .gone) : keepsO a = true ∧ keepsO b = true := by
  cases a with
  | gone => exact absurd rfl hg
  | box l0 l => cases b <;> exact ⟨rfl, h⟩
  | mset l0 l => cases b <;> exact ⟨rfl, h⟩
  | own e t xs ap m =>
    cases b with
    | gone => simp [mergeO, keepsO] at h
    | box l0 l =>
      refine ⟨?_, rfl⟩
      cases m with
      | true => exact absurd rfl (hk rfl e t xs ap)
      | false => rfl
    | mset l0 l =>
      refine ⟨?_, rfl⟩
      cases m with
      | true => exact absurd rfl (hk rfl e t xs ap)
      | false => rfl
    | own e' t' xs' ap' m' => simp [mergeO, keepsO] at h ⊢; exact h
theorem evFrame_sound {R : (Ending → World → Prop) → Prop} (hR : ∀ {K K' : Ending → World → Prop}, R K → (∀ e w', K e w' → K' e w') → R K') {M : Nat → Prop} {w0 w : World} {lk : List Value} {σ : St} {a : Act} {ro : Bool} {f : List Ob → List V → (List Ob → Out → Prop) → Prop} {K0 : List Ob → List Ob → Prop} {args : List V} {vs : List Value} {Q : Out → St → Prop}
    (hok : ∀ (X' : Cx) (lk' : List Value) (os : List Ob) (as_ : List V) (K : List Ob → Out → Prop), ORel X' w lk' os → X'.l0 = lk' → (∀ b, X'.hid b → b < w.heap.size) → X'.gr = X.gr → Gnd X' w → All2 (VRep w (Imm X' w lk') lk') as_ vs → f os as_ K → R (Post X' w lk' ro fun os' out => K os' out ∧ K0 os os'))
    (h : evFrame f args σ Q) (hr : Rel X w lk σ a) (hi : Inv X M w0 w lk) (hv : All2 (VRep w (Imm X w lk) lk) args vs) :
    R fun e w' => ∃ σ' lk' out, Q out σ' ∧ Rel X w' lk' σ' a ∧ Inv X M w0 w' lk' ∧ OutRep w' (Imm X w' lk') lk' out e ∧
      (∀ k, k < lk.length → k ∉ idsOf σ args → lk'[k]? = lk[k]?) ∧ Keep (fun b => ∃ i v, i ∈ idsOf σ args ∧ lk[i]? = some v ∧ blk v = some b) w w' ∧ lk.length ≤ lk'.length ∧
      (∀ k v b, lk'[k]? = some v → blk v = some b → (k < lk.length ∧ k ∉ idsOf σ args ∧ lk[k]? = some v) ∨ (∃ i u, i ∈ idsOf σ args ∧ lk[i]? = some u ∧ blk u = some b) ∨ w.heap.size ≤ b) ∧ (∃ f, σ'.tmps = σ.tmps.map (V.map (C.drop f)) ∧ ∀ k, k < σ.objs.length → k ∉ idsOf σ args → σ'.objs[k]? = (σ.objs[k]?).map (Ob.map (C.drop f))) ∧ (ro = true → Keep (fun _ => False) w w') ∧ ∃ os0 os' : List Ob, K0 os0 os' ∧ os0.length = (idsOf σ args).length ∧ ∀ (p i : Nat) (o : Ob), (idsOf σ args)[p]? = some i → os'[p]? = some o → keepsO o = true → lk'[i]? = lk[i]? := by
  unfold evFrame at h
  rw [mkVs_iff, mkNs_iff, mkNs_iff, reachK_iff] at h
  generalize hids0 : reach σ.objs (len σ.objs) (addN [] (args.flatMap V.ids)) = ids0 at h
  obtain rfl : ids0 = idsOf σ args := hids0.symm
  clear hids0
  cases hlive : live σ.objs (idsOf σ args) with
  | false => rw [hlive] at h; exact h.elim
  | true =>
  rw [hlive] at h
  simp only [cond_true] at h
  rw [mkObs_iff, mkObs_iff, mkVs_iff, List.map_map] at h
  have hnd := idsOf_nodup σ args
  have hliv := live_spec hlive
  clear hlive
  generalize idsOf σ args = ids at h hnd hliv
  have hidl : ∀ i ∈ ids, i < lk.length := fun i hi' => by
    obtain ⟨o, ho, _⟩ := hliv i hi'
    rw [hr.lsz]; exact (List.getElem?_eq_some_iff.1 ho).1
  have hlks : ∀ (p i : Nat), ids[p]? = some i → (lkOf lk ids)[p]? = lk[i]? := fun p i hp => by
    have hil := hidl i (List.mem_of_getElem? hp)
    simp only [lkOf, List.getElem?_map, hp, Option.map_some]
    rw [List.getElem?_eq_getElem hil]
    simp [List.getD, List.getElem?_eq_getElem hil]
  have hlks2 : ∀ (p : Nat) (v : Value), (lkOf lk ids)[p]? = some v → ∃ i, ids[p]? = some i ∧ lk[i]? = some v := fun p v hp => by
    obtain ⟨i, hi', _⟩ := get_map hp
    exact ⟨i, hi', by rw [← hlks p i hi']; exact hp⟩
  have hsubl : ∀ v ∈ lkOf lk ids, v ∈ lk := fun v hv' => by
    obtain ⟨p, hp⟩ := List.mem_iff_getElem?.1 hv'
    obtain ⟨i, _, hi'⟩ := hlks2 p v hp
    exact List.mem_of_getElem? hi'
  have hlkl : (lkOf lk ids).length = ids.length := by simp [lkOf]
  let X' : Cx := ⟨fun b => X.hid b ∨ ∃ j v, j ∉ ids ∧ lk[j]? = some v ∧ blk v = some b, lkOf lk ids, X.gr, [], X.pub, fun b h => .inl (X.ph b h)⟩
  have hgo : Goes w (Imm X w lk) w (Imm X' w (lkOf lk ids)) := fun b hb => ⟨rfl, hb.1, fun v hv' => hb.2.1 v (hsubl v hv'), fun hx => by
    rcases hx with hx | ⟨j, v, _, hj, hbv⟩
    · exact hb.2.2 hx
    · exact absurd hbv (hb.2.1 v (List.mem_of_getElem? hj))⟩
  have hcg := fun c u (hc : CRep w (Imm X w lk) lk c u) => CRep.go (ids := ids) hgo (fun p i hp v hv' => by rw [hlks p i hp]; exact hv') c u hc
  have has : All2 (VRep w (Imm X' w (lkOf lk ids)) (lkOf lk ids)) (args.map (goV ids)) vs := All2.map (hv.imp fun x _ v hx => by
    unfold goV
    rw [V.ren_map, V.map_map]
    exact V.map_rep hcg hx)
  have hor : ORel X' w (lkOf lk ids) (ids.map fun i => goO ids ((nth σ.objs i).getD .gone)) := by
    refine ⟨by simp [lkOf], fun p o v ho hp => ?_, fun p q v v' b hpq hp hq hb => ?_, fun p v b hp hb => ?_, fun p v b hp hb => ?_, Nat.le_refl _, fun p v0 o hp _ _ => hp⟩
    · obtain ⟨i, hi', rfl⟩ := get_map ho
      obtain ⟨o', ho', _⟩ := hliv i (List.mem_of_getElem? hi')
      rw [nth_get, ho']
      rw [hlks p i hi'] at hp
      have := hr.ob i o' v ho' hp
      unfold goO
      rw [Ob.ren_map, Option.getD_some, Ob.map_map]
      exact ORep.unmv (Ob.map_rep hgo hcg (fun _ _ => rfl) this)
    · obtain ⟨i, hi', hvi⟩ := hlks2 p v hp
      obtain ⟨j, hj, hvj⟩ := hlks2 q v' hq
      exact hr.dj i j v v' b (fun e => hpq (by subst e; exact nodup_get hnd hi' hj)) hvi hvj hb
    · obtain ⟨i, hi', hvi⟩ := hlks2 p v hp
      exact hr.lt i v b hvi hb
    · obtain ⟨i, hi', hvi⟩ := hlks2 p v hp
      rintro (hx | ⟨j, u, hj, hu, hbu⟩)
      · exact hr.nx i v b hvi hb hx
      · exact hr.dj i j v u b (fun e => hj (e ▸ List.mem_of_getElem? hi')) hvi hu hb hbu
  have hX' : ∀ b, X'.hid b → b < w.heap.size := by
    rintro b (hx | ⟨j, u, hj, hu, hbu⟩)
    · exact hi.lx b hx
    · exact hr.lt j u b hu hbu
  have hgr : Gnd X' w := fun w' hw' => hi.gr w' fun b hb => (hw' b (.inl hb)).trans (hi.keep.block b (hi.xl b hb) (hi.xm b hb))
  refine hR (hok X' _ _ _ _ hor rfl hX' rfl hgr has h) ?_
  rintro e w' ⟨os', lk1, out, ⟨hK, hK0⟩, hO, hkeep, hnews, hout⟩
  cases hkind : kindsO ids os' σ.objs with
  | false => rw [hkind] at hK; exact hK.elim
  | true =>
  rw [hkind] at hK
  simp only [cond_true, backK_iff] at hK
  have hkd := fun {p i o} => kinds_spec (p := p) (i := i) (o := o) hkind
  have hll : ids.length ≤ lk1.length := by have := hO.ll; rw [show X'.l0 = lkOf lk ids from rfl, hlkl] at this; exact this
  have hllo : ids.length ≤ os'.length := by rw [← hO.lsz]; exact hll
  have hget := putLk_get ids lk1 lk hnd hidl hll
  have hlen : len σ.objs = lk.length := by rw [len_length, hr.lsz]
  have hmem : ∀ (k : Nat) (v : Value), (putLk ids lk1 lk)[k]? = some v → (k < lk.length ∧ k ∉ ids ∧ lk[k]? = some v) ∨ ∃ p, lk1[p]? = some v ∧ (k < lk.length ∧ ids[p]? = some k ∨ lk.length ≤ k ∧ p = ids.length + (k - lk.length)) := by
    intro k v hk
    rw [hget k] at hk
    split at hk
    · rename_i hkl
      split at hk
      · rename_i hki
        exact .inr ⟨_, hk, .inl ⟨hkl, posN_get hki⟩⟩
      · rename_i hki
        exact .inl ⟨hkl, hki, hk⟩
    · rename_i hkl
      exact .inr ⟨_, hk, .inr ⟨by omega, rfl⟩⟩
  have hρ : ∀ (p : Nat) (v : Value), lk1[p]? = some v → (putLk ids lk1 lk)[posOf ids (len σ.objs) p]? = some v := by
    intro p v hp
    unfold posOf
    rw [nth_get]
    cases hip : ids[p]? with
    | some i =>
      have him := List.mem_of_getElem? hip
      simp only
      rw [hget i, if_pos (hidl i him), if_pos him, nodup_get hnd (posN_get him) hip]
      exact hp
    | none =>
      have : ids.length ≤ p := List.getElem?_eq_none_iff.1 hip
      simp only [len_length]
      rw [hget, if_neg (by rw [← len_length, hlen]; omega)]
      rw [show ids.length + (σ.objs.length + (p - ids.length) - lk.length) = p by rw [hr.lsz]; omega]
      exact hp
  have hblk1 : ∀ (v : Value) (b : Nat), v ∈ lk1 → blk v = some b → b < w.heap.size → ∃ u ∈ lk, blk u = some b := by
    intro v b hv1 hb hlt
    rcases hnews v hv1 b hb with ⟨u, hu, hub⟩ | hge
    · exact ⟨u, hsubl u hu, hub⟩
    · omega
  have hgoC : Goes w (Imm X w lk) w' (Imm X w' (putLk ids lk1 lk)) := by
    rintro b ⟨hlt, hnl, hnx⟩
    refine ⟨hkeep.block b hlt (fun ⟨_, v, hv', hb⟩ => hnl v (hsubl v hv') hb), Nat.lt_of_lt_of_le hlt hkeep.size, fun v hv' hb => ?_, hnx⟩
    obtain ⟨k, hk⟩ := List.mem_iff_getElem?.1 hv'
    rcases hmem k v hk with ⟨_, _, h1⟩ | ⟨p, h1, _⟩
    · exact hnl v (List.mem_of_getElem? h1) hb
    · obtain ⟨u, hu, hub⟩ := hblk1 v b (List.mem_of_getElem? h1) hb hlt
      exact hnl u hu hub
  have hgoR : Goes w' (Imm X' w' lk1) w' (Imm X w' (putLk ids lk1 lk)) := by
    rintro b ⟨hlt, hnl, hnx⟩
    refine ⟨rfl, hlt, fun v hv' hb => ?_, fun hx => hnx (.inl hx)⟩
    obtain ⟨k, hk⟩ := List.mem_iff_getElem?.1 hv'
    rcases hmem k v hk with ⟨_, h0, h1⟩ | ⟨p, h1, _⟩
    · exact hr.nx k v b h1 hb (X.ph b (hnx (.inr ⟨k, v, h0, h1, hb⟩)))
    · exact hnl v (List.mem_of_getElem? h1) hb
  have hf : ∀ c u, CRep w (Imm X w lk) lk c u → CRep w' (Imm X w' (putLk ids lk1 lk)) (putLk ids lk1 lk) (c.drop fun i => memN i (lost ids os')) u := by
    have key : ∀ i, memN i (lost ids os') = false → ∀ v, lk[i]? = some v → (putLk ids lk1 lk)[i]? = some v := by
      intro i hni v hv'
      have hil := (List.getElem?_eq_some_iff.1 hv').1
      rw [hget i, if_pos hil]
      by_cases him : i ∈ ids
      · rw [if_pos him]
        have hp := posN_get him
        have hpl : posN i ids < os'.length := Nat.lt_of_lt_of_le (List.getElem?_eq_some_iff.1 hp).1 hllo
        have hko := lost_spec hnd hp (List.getElem?_eq_getElem hpl) (fun hm => by rw [memN_mem.2 hm] at hni; cases hni)
        exact hO.kp _ v _ (by rw [show X'.l0 = lkOf lk ids from rfl, hlks _ i hp]; exact hv') (List.getElem?_eq_getElem hpl) hko
      · rw [if_neg him]; exact hv'
    intro c u hc
    cases c with
    | ref i o =>
      simp only [C.drop]
      cases hm : memN i (lost ids os') with
      | true => trivial
      | false => simp only [cond_false]; exact hc.goes hgoC (fun j hj v hv' => by simp [C.id] at hj; subst hj; exact key _ hm v hv')
    | own i =>
      simp only [C.drop]
      cases hm : memN i (lost ids os') with
      | true => trivial
      | false => simp only [cond_false]; exact hc.goes hgoC (fun j hj v hv' => by simp [C.id] at hj; subst hj; exact key _ hm v hv')
    | elt t i k o =>
      simp only [C.drop]
      cases hm : memN i (lost ids os') with
      | true => trivial
      | false => simp only [cond_false]; exact hc.goes hgoC (fun j hj v hv' => by simp [C.id] at hj; subst hj; exact key _ hm v hv')
    | mp i =>
      simp only [C.drop]
      cases hm : memN i (lost ids os') with
      | true => trivial
      | false => simp only [cond_false]; exact hc.goes hgoC (fun j hj v hv' => by simp [C.id] at hj; subst hj; exact key _ hm v hv')
    | fn f l =>
      simp only [C.drop]
      cases hm : anyP (fun i => memN i (lost ids os')) l with
      | true => trivial
      | false => simp only [cond_false]; exact hc.goes hgoC (fun j hj v hv' => key _ (anyP_false hm j hj) v hv')
    | _ => simp only [C.drop]; exact hc.goes hgoC (fun j hj => by simp [C.id] at hj)
  have hcr := fun c u (hc : CRep w' (Imm X' w' lk1) lk1 c u) => CRep.ren (ρ := posOf ids (len σ.objs)) hgoR (fun p _ v hp => hρ p v hp) hc
  have hobl : (σ.objs.map (Ob.map (C.drop fun i => memN i (lost ids os')))).length = σ.objs.length := by simp
  have hidl' : ∀ i ∈ ids, i < (σ.objs.map (Ob.map (C.drop fun i => memN i (lost ids os')))).length := fun i hi' => by rw [hobl, ← hr.lsz]; exact hidl i hi'
  have hpo := putObs_get ids (os'.map (Ob.ren (posOf ids (len σ.objs)))) (σ.objs.map (Ob.map (C.drop fun i => memN i (lost ids os')))) hnd hidl' (by simpa using hllo)
  rw [hobl] at hpo
  have hnew : ∀ (p : Nat) (o : Ob) (v : Value), os'[p]? = some o → lk1[p]? = some v → ORep w' (Imm X w' (putLk ids lk1 lk)) (putLk ids lk1 lk) (o.ren (posOf ids (len σ.objs))) v := fun p o v ho hp => by
    rw [Ob.ren_map]
    exact Ob.map_rep hgoR hcr (fun _ _ => rfl) (hO.ob p o v ho hp)
  have hblkk : ∀ (k : Nat) (v : Value) (b : Nat), k ∉ ids → lk[k]? = some v → blk v = some b → w'.heap[b]? = w.heap[b]? := fun k v b hk hkv hb =>
    hkeep.block b (hr.lt k v b hkv hb) (fun ⟨_, u, hu, hub⟩ => by
      obtain ⟨p, hp⟩ := List.mem_iff_getElem?.1 hu
      obtain ⟨i, hi', hvi⟩ := hlks2 p u hp
      exact hr.dj k i v u b (fun e => hk (e ▸ List.mem_of_getElem? hi')) hkv hvi hb hub)
  have hORel : ORel X w' (putLk ids lk1 lk) (putObs ids (os'.map (Ob.ren (posOf ids (len σ.objs)))) (σ.objs.map (Ob.map (C.drop fun i => memN i (lost ids os'))))) := by
    refine ⟨?_, fun k o v ho hk => ?_, fun k j v v' b hkj hk hj hb => ?_, fun k v b hk hb => ?_, fun k v b hk hb => ?_, ?_, fun k v0 o hk0 ho hko => ?_⟩
    · rw [putLk_length _ _ _ hll, putObs_length _ _ _ (by simpa using hllo), hobl, hr.lsz, List.length_map, hO.lsz]
    · rw [hpo k] at ho
      rw [hget k, hr.lsz] at hk
      split at ho
      · rename_i hkl
        rw [if_pos hkl] at hk
        split at ho
        · rename_i hki
          rw [if_pos hki] at hk
          obtain ⟨o1, ho1, rfl⟩ := Option.map_eq_some_iff.1 ho
          obtain ⟨o2, ho2, rfl⟩ := get_map ho1
          refine ORep.merge (hnew _ o2 v ho2 hk) ?_
          obtain ⟨o3, ho3, hg3⟩ := hliv k hki
          simp only [List.getElem?_map, ho3, Option.map_some, Option.getD_some]
          cases o3 <;> simp_all [Ob.map]
        · rename_i hki
          rw [if_neg hki] at hk
          obtain ⟨o1, ho1, rfl⟩ := get_map ho
          exact Ob.map_rep hgoC hf (fun b hb => hblkk k v b hki hk hb) (hr.ob k o1 v ho1 hk)
      · rename_i hkl
        rw [if_neg hkl] at hk
        obtain ⟨o2, ho2, rfl⟩ := get_map ho
        exact hnew _ o2 v ho2 hk
    · rcases hmem k v hk with ⟨h1, h2, h3⟩ | ⟨p, h3, h4⟩ <;> rcases hmem j v' hj with ⟨g1, g2, g3⟩ | ⟨q, g3, g4⟩
      · exact hr.dj k j v v' b hkj h3 g3 hb
      · intro he; exact hO.nx q v' b g3 he (.inr ⟨k, v, h2, h3, hb⟩)
      · intro he; exact hO.nx p v b h3 hb (.inr ⟨j, v', g2, g3, he⟩)
      · refine hO.dj p q v v' b (fun e => ?_) h3 g3 hb
        subst e
        rcases h4 with ⟨a1, a2⟩ | ⟨a1, a2⟩ <;> rcases g4 with ⟨b1, b2⟩ | ⟨b1, b2⟩
        · rw [a2] at b2; simp at b2; exact hkj b2
        · have := (List.getElem?_eq_some_iff.1 a2).1; omega
        · have := (List.getElem?_eq_some_iff.1 b2).1; omega
        · omega
    · rcases hmem k v hk with ⟨h1, h2, h3⟩ | ⟨p, h3, h4⟩
      · exact Nat.lt_of_lt_of_le (hr.lt k v b h3 hb) hkeep.size
      · exact hO.lt p v b h3 hb
    · rcases hmem k v hk with ⟨h1, h2, h3⟩ | ⟨p, h3, h4⟩
      · exact hr.nx k v b h3 hb
      · exact fun hx => hO.nx p v b h3 hb (.inl hx)
    · rw [putLk_length _ _ _ hll]; have := hr.ll; omega
    · have hkl : k < lk.length := Nat.lt_of_lt_of_le (List.getElem?_eq_some_iff.1 hk0).1 hr.ll
      rw [hpo k, if_pos (by rw [← hr.lsz]; exact hkl)] at ho
      rw [hget k, if_pos hkl]
      split at ho
      · rename_i hki
        rw [if_pos hki]
        obtain ⟨o1, ho1, rfl⟩ := Option.map_eq_some_iff.1 ho
        obtain ⟨o2, ho2, rfl⟩ := get_map ho1
        obtain ⟨o3, ho3, hg3⟩ := hliv k hki
        have hp := posN_get hki
        simp only [List.getElem?_map, ho3, Option.map_some, Option.getD_some] at hko
        have hk2 := merge_keeps hko (fun hb' e t xs ap ha' => by
            have hb2 : isBx o2 = true := by cases o2 <;> exact hb'
            refine hkd hp ho2 e t xs ap hb2 ?_
            rw [ho3]
            cases o3 with
            | own e3 t3 xs3 a3 m3 => simpa [Ob.map] using ha'
            | box => simp [Ob.map] at ha'
            | mset => simp [Ob.map] at ha'
            | gone => simp [Ob.map] at ha')
          (by cases o3 <;> simp_all [Ob.map])
        have h3k : keepsO o3 = true := by have := hk2.1; cases o3 <;> exact this
        have h2k : keepsO o2 = true := by have := hk2.2; cases o2 <;> exact this
        have hlk0 := hr.kp k v0 o3 hk0 ho3 h3k
        exact hO.kp _ v0 o2 (by rw [show X'.l0 = lkOf lk ids from rfl, hlks _ k hp]; exact hlk0) ho2 h2k
      · rename_i hki
        rw [if_neg hki]
        obtain ⟨o1, ho1, rfl⟩ := get_map ho
        exact hr.kp k v0 o1 hk0 ho1 (by cases o1 <;> exact hko)
  have hRel : Rel X w' (putLk ids lk1 lk) (backSt ids os' σ) a := by
    refine ORel.toR hORel (by simp only [backSt, St.map, List.length_map]; exact hr.tsz) (fun t x hx => ?_) hr.df
    simp only [backSt, St.map] at hx
    obtain ⟨x0, hx0, rfl⟩ := get_map hx
    exact V.map_rep hf (hr.tm t x0 hx0)
  have hInv : Inv X M w0 w' (putLk ids lk1 lk) := by
    refine ⟨⟨hkeep.os.trans hi.keep.os, hkeep.tape.trans hi.keep.tape, hkeep.output.trans hi.keep.output, Nat.le_trans hi.keep.size hkeep.size, fun k hk hM => ?_⟩, fun v hv' b hb => ?_, hi.xl, hi.xm, hi.gr⟩
    · refine (hkeep.block k (Nat.lt_of_lt_of_le hk hi.keep.size) (fun ⟨_, v, hv', hb⟩ => ?_)).trans (hi.keep.block k hk hM)
      rcases hi.news v (hsubl v hv') k hb with h1 | h1
      · exact hM h1
      · omega
    · obtain ⟨k, hk⟩ := List.mem_iff_getElem?.1 hv'
      rcases hmem k v hk with ⟨h1, h2, h3⟩ | ⟨p, h3, h4⟩
      · exact hi.news v (List.mem_of_getElem? h3) b hb
      · rcases hnews v (List.mem_of_getElem? h3) b hb with ⟨u, hu, hub⟩ | h5
        · exact hi.news u (hsubl u hu) b hub
        · right; have := hi.keep.size; omega
  have hk1 : ∀ k, k < lk.length → k ∉ ids → (putLk ids lk1 lk)[k]? = lk[k]? := fun k hk hki => by rw [hget k, if_pos hk, if_neg hki]
  have hk2 : Keep (fun b => ∃ i v, i ∈ ids ∧ lk[i]? = some v ∧ blk v = some b) w w' := ⟨hkeep.os, hkeep.tape, hkeep.output, hkeep.size, fun k hk hM => hkeep.block k hk fun ⟨_, v, hv', hb⟩ => by
    obtain ⟨p, hp⟩ := List.mem_iff_getElem?.1 hv'
    obtain ⟨i, hi', hvi⟩ := hlks2 p v hp
    exact hM ⟨i, v, List.mem_of_getElem? hi', hvi, hb⟩⟩
  have hk3 : lk.length ≤ (putLk ids lk1 lk).length := by rw [putLk_length _ _ _ hll]; omega
  have hk4 : ∀ k v b, (putLk ids lk1 lk)[k]? = some v → blk v = some b → (k < lk.length ∧ k ∉ ids ∧ lk[k]? = some v) ∨ (∃ i u, i ∈ ids ∧ lk[i]? = some u ∧ blk u = some b) ∨ w.heap.size ≤ b := fun k v b hk hb => by
    rcases hmem k v hk with h1 | ⟨p, h3, _⟩
    · exact .inl h1
    · rcases hnews v (List.mem_of_getElem? h3) b hb with ⟨u, hu, hub⟩ | h5
      · obtain ⟨q, hq⟩ := List.mem_iff_getElem?.1 hu
        obtain ⟨i, hi', hvi⟩ := hlks2 q u hq
        exact .inr (.inl ⟨i, u, List.mem_of_getElem? hi', hvi, hub⟩)
      · exact .inr (.inr h5)
  have hk5 : ro = true → Keep (fun _ => False) w w' := fun hro => ⟨hkeep.os, hkeep.tape, hkeep.output, hkeep.size, fun k hk _ => hkeep.block k hk fun h => by rw [hro] at h; cases h.1⟩
  have hk6 : ∃ os0 os1 : List Ob, K0 os0 os1 ∧ os0.length = ids.length ∧ ∀ (p i : Nat) (o : Ob), ids[p]? = some i → os1[p]? = some o → keepsO o = true → (putLk ids lk1 lk)[i]? = lk[i]? := by
    refine ⟨_, os', hK0, by simp, fun p i o hp ho hko => ?_⟩
    have him := List.mem_of_getElem? hp
    have hkl := hidl i him
    rw [hget i, if_pos hkl, if_pos him, nodup_get hnd (posN_get him) hp]
    rw [List.getElem?_eq_getElem hkl]
    exact hO.kp p _ o (by rw [show X'.l0 = lkOf lk ids from rfl, hlks p i hp]; exact List.getElem?_eq_getElem hkl) ho hko
  have hk7 : ∀ k, k < σ.objs.length → k ∉ ids → (backSt ids os' σ).objs[k]? = (σ.objs[k]?).map (Ob.map (C.drop fun i => memN i (lost ids os'))) := fun k hk hki => by
    show (putObs ids (os'.map (Ob.ren (posOf ids (len σ.objs)))) (σ.objs.map (Ob.map (C.drop fun i => memN i (lost ids os')))))[k]? = _
    rw [hpo k, if_pos hk, if_neg hki, List.getElem?_map]
  cases out with
  | ret x =>
    obtain ⟨v, rfl, hx⟩ := hout
    simp only [V.mk_iff] at hK
    refine ⟨_, _, _, hK, hRel, hInv, ⟨v, rfl, ?_⟩, hk1, hk2, hk3, hk4, ⟨_, rfl, hk7⟩, hk5, hk6⟩
    rw [V.ren_map]
    exact V.map_rep hcr hx
  | pan c =>
    cases c with
    | ifa t k n => exact ⟨_, _, _, hK, hRel, hInv, hout, hk1, hk2, hk3, hk4, ⟨_, rfl, hk7⟩, hk5, hk6⟩
    | _ => exact hout.elim
theorem evCall_sound (hΓ : SemsOK X.gr P Γ) {M : Nat → Prop} {w0 w : World} {lk : List Value} {σ : St} {a : Act} {f : FuncId} {args : List V} {vs : List Value} {Q : Out → St → Prop}
    (h : evCall Γ f args σ Q) (hr : Rel X w lk σ a) (hi : Inv X M w0 w lk) (hv : All2 (VRep w (Imm X w lk) lk) args vs) :
    (∃ fn, P.funcs[f]? = some fn ∧ fn.body.isSome = true ∧ fn.name ≠ "runtime.NumGoroutine") ∧
    Calls P f vs.toArray w fun e w' => ∃ σ' lk' out, Q out σ' ∧ Rel X w' lk' σ' a ∧ Inv X M w0 w' lk' ∧ OutRep w' (Imm X w' lk') lk' out e ∧
      (∀ k, k < lk.length → k ∉ idsOf σ args → lk'[k]? = lk[k]?) ∧ Keep (fun b => ∃ i v, i ∈ idsOf σ args ∧ lk[i]? = some v ∧ blk v = some b) w w' ∧ lk.length ≤ lk'.length ∧
      (∀ k v b, lk'[k]? = some v → blk v = some b → (k < lk.length ∧ k ∉ idsOf σ args ∧ lk[k]? = some v) ∨ (∃ i u, i ∈ idsOf σ args ∧ lk[i]? = some u ∧ blk u = some b) ∨ w.heap.size ≤ b) ∧ (∃ f, σ'.tmps = σ.tmps.map (V.map (C.drop f)) ∧ ∀ k, k < σ.objs.length → k ∉ idsOf σ args → σ'.objs[k]? = (σ.objs[k]?).map (Ob.map (C.drop f))) := by
  unfold evCall at h
  split at h
  · exact h.elim
  rename_i sem hsem
  obtain ⟨hfn, hok⟩ := hΓ f sem hsem
  refine ⟨hfn, (evFrame_sound (R := Calls P f vs.toArray w) (ro := sem.ro) (K0 := fun _ _ => True) (fun h1 h2 => h1.mono h2) (fun X' lk' os as_ K h1 h2 h3 h4 h5 h6 h7 => (hok X' w lk' os as_ vs K h1 h2 h3 h4 h5 h6 h7).mono fun e w' => ?_) h hr hi hv).mono ?_⟩
  · rintro ⟨os', lk1, out, h1, h2⟩
    exact ⟨os', lk1, out, ⟨h1, trivial⟩, h2⟩
  · rintro e w' ⟨σ', lk', out, h1, h2, h3, h4, h5, h6, h7, h8, h9, _⟩
    exact ⟨σ', lk', out, h1, h2, h3, h4, h5, h6, h7, h8, h9⟩
theorem keepN_spec : ∀ {n : Nat} {os : List Ob}, keepN n os = true → ∀ p, p < n → ∃ o, os[p]? = some o ∧ keepsO o = true
  | 0, _, _, p, hp => by omega
  | _ + 1, [], h, _, _ => by cases h
  | n + 1, o :: l, h, p, hp => by
    simp only [keepN] at h
    cases hk : keepsO o with
    | false => rw [hk] at h; cases h
    | true =>
      rw [hk] at h
      cases p with
      | zero => exact ⟨o, rfl, hk⟩
      | succ p => simpa using keepN_spec (n := n) (os := l) h p (by omega)
theorem evCallK_sound (hΓ : SemsOK X.gr P Γ) {M : Nat → Prop} {w0 w : World} {lk : List Value} {σ : St} {a : Act} {f : FuncId} {args : List V} {vs : List Value} {Q : Out → St → Prop}
    (h : evCallK Γ f args σ Q) (hf : roF Γ f = true) (hr : Rel X w lk σ a) (hi : Inv X M w0 w lk) (hv : All2 (VRep w (Imm X w lk) lk) args vs) :
    (∃ fn, P.funcs[f]? = some fn ∧ fn.body.isSome = true ∧ fn.name ≠ "runtime.NumGoroutine") ∧
    Calls P f vs.toArray w fun e w' => ∃ σ' lk' out, Q out σ' ∧ Rel X w' lk' σ' a ∧ Inv X M w0 w' lk' ∧ OutRep w' (Imm X w' lk') lk' out e ∧
      (∀ k, k < lk.length → lk'[k]? = lk[k]?) ∧ Keep (fun _ => False) w w' ∧ lk.length ≤ lk'.length ∧
      (∀ k v b, lk'[k]? = some v → blk v = some b → (k < lk.length ∧ k ∉ idsOf σ args ∧ lk[k]? = some v) ∨ (∃ i u, i ∈ idsOf σ args ∧ lk[i]? = some u ∧ blk u = some b) ∨ w.heap.size ≤ b) ∧ (∃ f, σ'.tmps = σ.tmps.map (V.map (C.drop f)) ∧ ∀ k, k < σ.objs.length → k ∉ idsOf σ args → σ'.objs[k]? = (σ.objs[k]?).map (Ob.map (C.drop f))) := by
  unfold evCallK at h
  split at h
  · exact h.elim
  rename_i sem hsem
  obtain ⟨hfn, hok⟩ := hΓ f sem hsem
  have hro : roF Γ f = sem.ro := by unfold roF; rw [hsem]
  rw [hro] at hf
  refine ⟨hfn, (evFrame_sound (R := Calls P f vs.toArray w) (ro := sem.ro) (K0 := fun os os' => keepN (len os) os' = true) (fun h1 h2 => h1.mono h2) (fun X' lk' os as_ K h1 h2 h3 h4 h5 h6 h7 => (hok X' w lk' os as_ vs _ h1 h2 h3 h4 h5 h6 h7).mono fun e w' => ?_) h hr hi hv).mono ?_⟩
  · rintro ⟨os', lk1, out, h1, h2⟩
    cases hk : keepN (len os) os' with
    | false => rw [hk] at h1; exact h1.elim
    | true => rw [hk] at h1; exact ⟨os', lk1, out, ⟨h1, hk⟩, h2⟩
  · rintro e w' ⟨σ', lk', out, h1, h2, h3, h4, h5, h6, h7, h8, h9, h10, os0, os1, hk0, hl0, h11⟩
    refine ⟨σ', lk', out, h1, h2, h3, h4, fun k hk => ?_, h10 hf, h7, h8, h9⟩
    by_cases hm : k ∈ idsOf σ args
    · have hp := posN_get hm
      obtain ⟨o, ho, hko⟩ := keepN_spec hk0 (posN k (idsOf σ args)) (by rw [len_length, hl0]; exact (List.getElem?_eq_some_iff.1 hp).1)
      exact h11 _ k o hp ho hko
    · exact h5 k hk hm
end Go.Proofs.YtilagaapfbfkkaaGreatDoor.Ab
namespace Go.Proofs.YtilagaapfbfkkaaGreatDoorW.PrintWords
open Go.RowKit
section
variable {P : Program} {d : Nat} {xs ys : Array Value} {f : Field} {fs : List Field} {a b : Value} {r s : Bool} {w : World}
theorem eqf_cons (hn : (f.name == "_") = false) (ha : (part f.type xs f.offset).run P w = .ok a w) (hb : (part f.type ys f.offset).run P w = .ok b w) (he : (Op.equalIn d f.type a b).run P w = .ok r w) (hr : (Op.eqFields d xs ys fs).run P w = .ok s w) : (Op.eqFields d xs ys (f :: fs)).run P w = .ok (r && s) w := by
  have hn' : f.name ≠ "_" := by simpa using hn
  rw [Op.eqFields]
  simp only [if_pos hn', Sem.run_bind, ha, hb, he, Result.andThen_ok]
  cases r
  · simp
  · simpa using hr
theorem eqf_nil : (Op.eqFields d xs ys []).run P w = .ok true w := by simp [Op.eqFields]
theorem eqA_of {t : TypeId} {fs : Array Field} (hu : P.underlying t = some (.struct fs)) (hp : P.stoodInHeld t = false) (h : (Op.eqFields d xs ys fs.toList).run P w = .ok r w) : (Op.equalIn (d + 1) t (.agg xs) (.agg ys)).run P w = .ok r w := by
  have hf : P.fieldsOf t = fs := by simp [Program.fieldsOf, hu]
  rw [run_equalIn_struct (P := P) w d t xs ys (by rw [hf]; exact hu) hp, hf]
  exact h
end
end Go.Proofs.YtilagaapfbfkkaaGreatDoorW.PrintWords
