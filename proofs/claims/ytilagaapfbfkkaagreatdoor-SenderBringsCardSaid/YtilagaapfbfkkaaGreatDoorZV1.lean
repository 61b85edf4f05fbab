/- Part 1 of 10 of the texts that the sender's rows rest on, put together by a program; no condition. -/
import Derived.Below
import Derived.Deep.Draws
import Derived.Deep.AppendLies
import Derived.Maps.AppendAt
import Derived.OwnWalk
import Derived.Laws.BytesArg
import Derived.Laws.MakeOwn
import Derived.Laws.OwnMore
import Derived.Deep.OwnRows
import Derived.Tactics
import Derived.Lib.ConvBytes
import Derived.Laws.Slices
import Derived.WalkKit
import Derived.KernelRfl
import Derived.RowKit3
import Derived.Deep.LoopGhost
import Derived.Deep.QuietTactic
import Derived.BigQuiet
import Derived.WideLaws
import Derived.Deep.DeepCutAuto
import Derived.Deep.CutBlock
import Derived.Deep.RegionHeld3
import Derived.Laws.Rows
import Derived.Lib.AppendStr
import Derived.ArgAppend
import Derived.Laws.IdiomCopy
import Derived.RowKit
import Derived.StillTail
set_option maxHeartbeats 128000000
set_option linter.unusedSimpArgs false
set_option linter.unusedVariables false
section
namespace Go.Proofs.YtilagaapfbfkkaaGreatDoorW.PrintWords
open Go.RowKit
structure Aside0 (p : Prop) : Prop where mk :: (out : p)
structure Drawn0 (w w' : World) : Prop where mk :: (out : ∃ n, w' = w.drewN n)
theorem Drawn0.refl (w : World) : Drawn0 w w := ⟨⟨0, rfl⟩⟩
theorem Drawn0.step {w w' : World} (h : Drawn0 w w') (n : Nat) : Drawn0 w (w'.drewN n) := by
  obtain ⟨m, rfl⟩ := h
  exact ⟨⟨m + n, World.drewN_drewN ..⟩⟩
theorem Drawn0.grown {w w' : World} (h : Drawn0 w w') : Grown w w' := by
  obtain ⟨n, rfl⟩ := h
  induction n with
  | zero => exact Grown.refl _
  | succ n ih => rw [← World.drew_drewN]; exact Grown.drew ih
theorem Drawn0.below {w w' : World} (h : Drawn0 w w') : Below w.heap.size w w' := by
  obtain ⟨n, rfl⟩ := h
  induction n with
  | zero => exact Below.refl _ _
  | succ n ih => rw [← World.drew_drewN]; exact ih.drew
def rd (xs : List Int) (i : Int) : Int := xs.getD i.toNat 0
def bt (s : ByteArray) (i : Int) : Int := if h : i.toNat < s.size then ((s[i.toNat]'h).toNat : Int) else 0
def nums (k : IntKind) (xs : List Int) : List Value := xs.map fun x => .int k x
theorem pw_below_drewN {B : Nat} {w W : World} (h : Below B w W) (n : Nat) : Below B w (W.drewN n) := ⟨h.os, h.tape, h.output, h.size, h.block⟩
theorem below_then {B : Nat} {w w1 w2 : World} (h : Below B w w1) (hB : B ≤ w1.heap.size) (k : Below w1.heap.size w1 w2) : Below B w w2 :=
  h.trans ⟨k.os, k.tape, k.output, k.size, fun i hi => k.block i (Nat.lt_of_lt_of_le hi hB)⟩
theorem grown_of_below {w w1 : World} (h : Below w.heap.size w w1) (row : Option Nat) : w.grownBy w1 row := ⟨h.os, h.tape, h.output, h.size, fun i hi _ => h.block i hi⟩
theorem pw_cell_below {w w1 : World} (h : Below w.heap.size w w1) {a : Addr} {v : Value} (hc : w.cell? a = some v) : w1.cell? a = some v := (h.cell (World.block_lt_of_cell? w a hc)).trans hc
def ReadsInt (w : World) (k : IntKind) (A : Option Addr) (n : Nat) (xs : List Int) : Prop :=
  xs.length = n ∧ n ≤ 9223372036854775807 ∧ (0 < n → ∃ ad, A = some ad ∧ ∀ j, j < n → w.cell? (ad.add j) = some (.int k (xs.getD j 0)))
theorem ReadsInt.at_ {w : World} {k : IntKind} {A : Option Addr} {n : Nat} {xs : List Int} (h : ReadsInt w k A n xs) (i : Int) (h0 : 0 ≤ i) (h1 : i < n) : ∃ ad, A = some ad ∧ w.cell? (ad.add i.toNat) = some (.int k (rd xs i)) := by
  obtain ⟨ad, e, hc⟩ := h.2.2 (by omega)
  exact ⟨ad, e, hc _ (by omega)⟩
theorem ReadsInt.below {w w1 : World} {k : IntKind} {A : Option Addr} {n : Nat} {xs : List Int} (h : ReadsInt w k A n xs) (hb : Below w.heap.size w w1) : ReadsInt w1 k A n xs :=
  ⟨h.1, h.2.1, fun hn => by
    obtain ⟨ad, e, hc⟩ := h.2.2 hn
    exact ⟨ad, e, fun j hj => pw_cell_below hb (hc j hj)⟩⟩
theorem own_base {w : World} {base : Nat} {e : TypeId} {size n : Nat} {v : Value} {xs : List Value} (h : w.ownsRow base e size v n xs) (k : Nat) (hk : v.ownBlock = some k) : base ≤ k := by
  rcases h.2 with ⟨rfl, _⟩ | ⟨g, cap, cur, rfl, hb, _⟩
  · simp [Value.ownBlock] at hk
  · have : g = k := by simpa [Value.ownBlock] using hk
    omega
theorem own_lt {w : World} {base : Nat} {e : TypeId} {size n : Nat} {v : Value} {xs : List Value} (h : w.ownsRow base e size v n xs) (k : Nat) (hk : v.ownBlock = some k) : k < w.heap.size := by
  rcases h.2 with ⟨rfl, _⟩ | ⟨g, cap, cur, rfl, hb, hh, _⟩
  · simp [Value.ownBlock] at hk
  · have : g = k := by simpa [Value.ownBlock] using hk
    subst this
    exact (Array.getElem?_eq_some_iff.1 hh).1
theorem pw_own_below {w w1 : World} {base : Nat} {e : TypeId} {size n : Nat} {v : Value} {xs : List Value} (h : w.ownsRow base e size v n xs) (hb : Below w.heap.size w w1) : w1.ownsRow base e size v n xs :=
  h.kept (grown_of_below hb none) (by cases v.ownBlock <;> simp)
theorem own_other {w w1 : World} {base : Nat} {e : TypeId} {size n : Nat} {v : Value} {xs : List Value} (h : w.ownsRow base e size v n xs) {row : Option Nat} (hg : w.grownBy w1 row) (hne : v.ownBlock = none ∨ v.ownBlock ≠ row) : w1.ownsRow base e size v n xs := h.kept hg hne
section
variable {P : Program} {ops : Array Oper} {rest : List Oper} {o : Oper} {a : Act} {Q : Exit → Act → World → Prop}
end
section
variable {P : Program}
end
section
variable {P : Program} {ops : Array Oper} {rest : List Oper} {o : Oper} {a : Act} {Q : Exit → Act → World → Prop}
end
def bytesOf (s : ByteArray) : List Int := s.data.toList.map fun b => (b.toNat : Int)
theorem data_length (s : ByteArray) : s.data.toList.length = s.size := by rw [Array.length_toList]; rfl
theorem bytesOf_length (s : ByteArray) : (bytesOf s).length = s.size := by rw [bytesOf, List.length_map, data_length]
def LeO {α : Type} (a b : Option α) : Prop := ∀ r, a = some r → b = some r
theorem LeO.refl {α : Type} (a : Option α) : LeO a a := fun _ h => h
theorem LeO.none {α : Type} (b : Option α) : LeO Option.none b := fun _ h => by cases h
theorem LeO.trans {α : Type} {a b c : Option α} (h : LeO a b) (k : LeO b c) : LeO a c := fun r hr => k r (h r hr)
theorem LeO.bind {α β : Type} {a a' : Option α} {f f' : α → Option β} (h : LeO a a') (k : ∀ x, LeO (f x) (f' x)) : LeO (a.bind f) (a'.bind f') := by
  intro r hr
  obtain ⟨x, hx, hf⟩ := Option.bind_eq_some_iff.1 hr
  exact Option.bind_eq_some_iff.2 ⟨x, h x hx, k x r hf⟩
theorem LeO.map {α β : Type} {a a' : Option α} (f : α → β) (h : LeO a a') : LeO (a.map f) (a'.map f) := by
  intro r hr
  obtain ⟨x, hx, hf⟩ := Option.map_eq_some_iff.1 hr
  exact Option.map_eq_some_iff.2 ⟨x, h x hx, hf⟩
theorem more_rounds {α : Type} {g : Nat → Option α} (h : ∀ k, LeO (g k) (g (k + 1))) (k : Nat) : ∀ j, LeO (g k) (g (k + j))
  | 0 => LeO.refl _
  | j + 1 => (more_rounds h k j).trans (h (k + j))
theorem at_rounds {α : Type} {g : Nat → Option α} (h : ∀ k, LeO (g k) (g (k + 1))) {k k' : Nat} (hk : k ≤ k') {r : α} (hr : g k = some r) : g k' = some r := by
  have := more_rounds h k (k' - k) r hr
  rwa [Nat.add_sub_cancel' hk] at this
def Reps {α : Type} (R : α → List Value → Prop) (size : Nat) (ps : List α) (cs : List Value) : Prop :=
  cs.length = ps.length * size ∧ ∀ j p, ps[j]? = some p → R p ((cs.drop (j * size)).take size)
theorem Reps.none {α : Type} (R : α → List Value → Prop) (size : Nat) : Reps R size [] [] := ⟨by simp, fun j p h => by simp at h⟩
theorem Reps.snoc {α : Type} {R : α → List Value → Prop} {size : Nat} {ps : List α} {cs c : List Value} {p : α} (h : Reps R size ps cs) (hp : R p c) (hc : c.length = size) : Reps R size (ps ++ [p]) (cs ++ c) := by
  refine ⟨by rw [List.length_append, h.1, hc, List.length_append, List.length_singleton, Nat.add_mul, Nat.one_mul], fun j q hq => ?_⟩
  rcases Nat.lt_or_ge j ps.length with hj | hj
  · rw [List.getElem?_append_left hj] at hq
    have h1 : j * size + size ≤ cs.length := by rw [h.1, ← Nat.succ_mul]; exact Nat.mul_le_mul_right _ hj
    have h2 := h.2 j q hq
    rw [List.drop_append_of_le_length (by omega), List.take_append_of_le_length (by rw [List.length_drop]; omega)]
    exact h2
  · have hj' : j = ps.length := by
      have := (List.getElem?_eq_some_iff.1 hq).1
      rw [List.length_append, List.length_singleton] at this
      omega
    subst hj'
    have hq' : p = q := by simpa using hq
    subst hq'
    rw [← h.1, List.drop_left, ← hc, List.take_length]
    exact hp
theorem Reps.imp_ {α : Type} {R R' : α → List Value → Prop} {size : Nat} {ps : List α} {cs : List Value} (h : Reps R size ps cs) (hR : ∀ p c, R p c → R' p c) : Reps R' size ps cs := ⟨h.1, fun j p hj => hR _ _ (h.2 j p hj)⟩
def ReadsRow {α : Type} (R : α → List Value → Prop) (size : Nat) (w : World) (A : Option Addr) (n : Nat) (ps : List α) : Prop :=
  ps.length = n ∧ n ≤ 9223372036854775807 ∧ (0 < n → ∃ ad, A = some ad ∧ ∀ j p, ps[j]? = some p → ∃ c, c.length = size ∧ R p c ∧ ∀ i u, c[i]? = some u → w.cell? (ad.add (j * size + i)) = some u)
theorem ReadsRow.imp_ {α : Type} {R R' : α → List Value → Prop} {size : Nat} {w w1 : World} {A : Option Addr} {n : Nat} {ps : List α} (h : ReadsRow R size w A n ps) (hb : Below w.heap.size w w1) (hR : ∀ p c, R p c → R' p c) : ReadsRow R' size w1 A n ps :=
  ⟨h.1, h.2.1, fun hn => by
    obtain ⟨ad, e, hc⟩ := h.2.2 hn
    refine ⟨ad, e, fun j p hj => ?_⟩
    obtain ⟨c, hs, hr, hcell⟩ := hc j p hj
    exact ⟨c, hs, hR _ _ hr, fun i u hu => pw_cell_below hb (hcell i u hu)⟩⟩
theorem own_reads_row {α : Type} {R : α → List Value → Prop} {w : World} {base n size : Nat} {e : TypeId} {v : Value} {ps : List α} {cs : List Value} (h : w.ownsRow base e size v n cs) (hR : Reps R size ps cs) (hn : ps.length = n) :
    ∃ A c, v = .slice A n c ∧ ReadsRow R size w A n ps := by
  rcases Nat.eq_zero_or_pos n with h0 | h0
  · rcases h.2 with ⟨rfl, rfl⟩ | ⟨g, cap, cur, rfl, _⟩
    · exact ⟨none, 0, rfl, hn, by omega, fun hp => absurd hp (by omega)⟩
    · exact ⟨_, cap, rfl, hn, by omega, fun hp => absurd hp (by omega)⟩
  · obtain ⟨g, cap, rfl, _, _⟩ := h.form h0
    have hm : n ≤ 9223372036854775807 := by
      rcases h.2 with ⟨_, h1⟩ | ⟨g', cap', cur, he, _, _, h1, h2, _⟩
      · omega
      · simp only [maxLen] at h2
        omega
    refine ⟨_, cap, rfl, hn, hm, fun _ => ⟨_, rfl, fun j p hj => ⟨(cs.drop (j * size)).take size, ?_, hR.2 j p hj, fun i u hu => ?_⟩⟩⟩
    · have hjl := (List.getElem?_eq_some_iff.1 hj).1
      have h1 : j * size + size ≤ cs.length := by rw [hR.1, ← Nat.succ_mul]; exact Nat.mul_le_mul_right _ hjl
      rw [List.length_take, List.length_drop]
      omega
    · refine h.cells (g := g) rfl _ u ?_
      rw [List.getElem?_take] at hu
      split at hu
      · rw [List.getElem?_drop] at hu
        exact hu
      · cases hu
section
variable {P : Program} {ops : Array Oper} {rest : List Oper} {o : Oper} {a : Act} {Q : Exit → Act → World → Prop}
theorem print_append_cells {w0 W : World} (base : Nat) (hgd : o.guard = none) (s x : Operand) (t e : TypeId) (z : Value) (size bytes : Nat)
    (ho : o.op = .call { callee := .builtin .append, args := #[s, x], argTypes := #[t, t] })
    (ht : P.underlying t = some (.slice e)) (hinfo : (P.info? e).map (fun i => (i.zero, i.size, i.bytes)) = some (some z, size, bytes)) (hz : z.cells.size = size) (hs0 : 0 < size) (hb0 : 0 < bytes)
    (v : Value) (n : Nat) (xs ys : List Value) (hs : a.eval s = v) (hx : a.eval x = .slice (some ⟨W.heap.size, 0, none⟩) 1 1) (hys : ys.length = size) (h1 : ∀ u ∈ ys, u.oneCell' = true)
    (HO : W.ownsRow base e size v n xs) (HB : Below base w0 W) (hbase : base ≤ W.heap.size) (hl : (n + 1) * bytes ≤ 140737488355328)
    (h : ∀ v1 w1, w1.ownsRow base e size v1 (n + 1) (xs ++ ys) → Below base w0 w1 → W.grownBy w1 v.ownBlock → (v1.ownBlock = v.ownBlock ∨ ∃ b, v1.ownBlock = some b ∧ W.heap.size ≤ b) → wpList P ops Q rest (a.put o.dst v1) w1) :
    wpList P ops Q (o :: rest) a (W.alloc (.cells ys.toArray e)) := by
  obtain ⟨i0, hi, hzz⟩ := Option.map_eq_some_iff.1 hinfo
  simp only [Prod.mk.injEq] at hzz
  obtain ⟨hz0, hz1, hz2⟩ := hzz
  have hlen : n + 1 ≤ 140737488355328 := Nat.le_trans (Nat.le_mul_of_pos_right _ hb0) hl
  refine wpList_append_own_at (W.alloc (.cells ys.toArray e)) hgd s x t ho base e i0 z size bytes ht hi hz0 hz1 hz2 hz hs0 v n xs hs (HO.alloc _) ⟨W.heap.size, 0, none⟩ 1 1 ys hx (by rw [hys]; simp)
    (by simpa using World.news_of_block (cs := ys.toArray) (t := e) (fr := (0, 0)) (heap_alloc_new W (.cells ys.toArray e))) h1 (by simp only [maxLen]; omega) hl (by simp; omega) ?_
  intro v1 w1 hown hg _ hat
  refine h v1 w1 hown ((HB.alloc hbase _).grown hg (by simp; omega) (own_base HO)) (World.grownBy.trans (World.grownBy_alloc W _ _) hg) ?_
  rcases hat with hat | hat
  · exact .inl hat
  · exact .inr ⟨_, hat, by simp⟩
end
theorem own_ne {w : World} {base : Nat} {e t : TypeId} {size n g : Nat} {v : Value} {xs : List Value} {cs : Array Value} (h : w.ownsRow base e size v n xs) (hg : w.heap[g]? = some (.cells cs t (0, 0))) (hne : e ≠ t) : some g ≠ v.ownBlock := by
  rcases h.2 with ⟨rfl, _⟩ | ⟨g', cap, cur, rfl, _, hh, _⟩
  · simp [Value.ownBlock]
  · intro he
    have : g = g' := by simpa [Value.ownBlock] using he
    subst this
    rw [hg] at hh
    injection hh with hh
    injection hh with _ ht
    exact hne ht.symm
theorem blk_lt {w : World} {g : Nat} {o : Obj} (h : w.heap[g]? = some o) : g < w.heap.size := (Array.getElem?_eq_some_iff.1 h).1
def KeepBut (w w' : World) (g : Nat) (row : Option Nat) : Prop := w.heap.size ≤ w'.heap.size ∧ ∀ i, i < w.heap.size → i ≠ g → some i ≠ row → w'.heap[i]? = w.heap[i]?
theorem KeepBut.refl (w : World) (g : Nat) (row : Option Nat) : KeepBut w w g row := ⟨Nat.le_refl _, fun _ _ _ _ => rfl⟩
theorem KeepBut.trans {w w1 w2 : World} {g : Nat} {row row1 : Option Nat} (h : KeepBut w w1 g row) (k : KeepBut w1 w2 g row1) (hr : row1 = row ∨ ∃ b, row1 = some b ∧ w.heap.size ≤ b) : KeepBut w w2 g row :=
  ⟨Nat.le_trans h.1 k.1, fun i hi hg hn => by
    refine (k.2 i (Nat.lt_of_lt_of_le hi h.1) hg ?_).trans (h.2 i hi hg hn)
    rcases hr with rfl | ⟨b, rfl, hb⟩
    · exact hn
    · intro e
      injection e with e
      omega⟩
theorem KeepBut.blk {w w1 : World} {g g' : Nat} {row : Option Nat} {o : Obj} (h : KeepBut w w1 g row) (hb : w.heap[g']? = some o) (hg : g' ≠ g) (hr : some g' ≠ row) : w1.heap[g']? = some o := (h.2 g' (blk_lt hb) hg hr).trans hb
theorem KeepBut.own {w w1 : World} {g : Nat} {row : Option Nat} {base : Nat} {e : TypeId} {size n : Nat} {v : Value} {xs : List Value} (h : KeepBut w w1 g row) (ho : w.ownsRow base e size v n xs) (hg : v.ownBlock ≠ some g) (hr : v.ownBlock = none ∨ v.ownBlock ≠ row) : w1.ownsRow base e size v n xs := by
  obtain ⟨h1, h2⟩ := ho
  refine ⟨h1, ?_⟩
  rcases h2 with h2 | ⟨b, cap, cur, rfl, hb, hh, r⟩
  · exact .inl h2
  · refine .inr ⟨b, cap, cur, rfl, hb, h.blk hh ?_ ?_, r⟩
    · intro e
      exact hg (by rw [← e]; rfl)
    · rcases hr with hr | hr
      · simp [Value.ownBlock] at hr
      · exact hr
def Ev {α : Type} (g : Nat → Option α) (r : α) : Prop := ∃ K, ∀ k, K ≤ k → g k = some r
theorem Ev.of {α : Type} {g : Nat → Option α} {r : α} (hg : ∀ k, LeO (g k) (g (k + 1))) {k : Nat} (h : g k = some r) : Ev g r := ⟨k, fun _ hk => at_rounds hg hk h⟩
theorem Ev.bind {α β : Type} {g : Nat → Option α} {f : Nat → α → Option β} {a : α} {r : β} (h : Ev g a) (k : Ev (fun n => f n a) r) : Ev (fun n => (g n).bind (f n)) r := by
  obtain ⟨K, h⟩ := h
  obtain ⟨K', k⟩ := k
  refine ⟨max K K', fun n hn => ?_⟩
  have h1 := h n (by omega)
  have h2 := k n (by omega)
  simp only [h1, Option.bind_some]
  exact h2
theorem Ev.step {α : Type} {g f : Nat → Option α} {r : α} (h : ∀ k, g (k + 1) = f k) (k : Ev f r) : Ev g r := by
  obtain ⟨K, k⟩ := k
  refine ⟨K + 1, fun n hn => ?_⟩
  obtain ⟨m, rfl⟩ : ∃ m, n = m + 1 := ⟨n - 1, by omega⟩
  rw [h]
  exact k m (by omega)
theorem Ev.congr {α : Type} {g f : Nat → Option α} {r : α} (h : ∀ k, g k = f k) (k : Ev f r) : Ev g r := by
  obtain ⟨K, k⟩ := k
  exact ⟨K, fun n hn => (h n).trans (k n hn)⟩
section
variable {P : Program} {ops : Array Oper} {o : Oper} {a : Act} {Q : Exit → Act → World → Prop} {K : Act → World → Prop}
end
theorem own_weaken {w : World} {base base' : Nat} {e : TypeId} {size n : Nat} {v : Value} {xs : List Value} (h : w.ownsRow base e size v n xs) (hb : base' ≤ base) : w.ownsRow base' e size v n xs := by
  obtain ⟨h1, h2⟩ := h
  refine ⟨h1, ?_⟩
  rcases h2 with h2 | ⟨g, cap, cur, rfl, hg, r⟩
  · exact .inl h2
  · exact .inr ⟨g, cap, cur, rfl, Nat.le_trans hb hg, r⟩
section
variable {α : Type} {enc : α → Value} {d : α}
def rdOf (d : α) (xs : List α) (i : Int) : α := xs.getD i.toNat d
def ReadsOf (enc : α → Value) (d : α) (w : World) (A : Option Addr) (n : Nat) (xs : List α) : Prop :=
  xs.length = n ∧ n ≤ 9223372036854775807 ∧ (0 < n → ∃ ad, A = some ad ∧ ∀ j, j < n → w.cell? (ad.add j) = some (enc (xs.getD j d)))
theorem ReadsOf.at_ {w : World} {A : Option Addr} {n : Nat} {xs : List α} (h : ReadsOf enc d w A n xs) (i : Int) (h0 : 0 ≤ i) (h1 : i < n) : ∃ ad, A = some ad ∧ w.cell? (ad.add i.toNat) = some (enc (rdOf d xs i)) := by
  obtain ⟨ad, e, hc⟩ := h.2.2 (by omega)
  exact ⟨ad, e, hc _ (by omega)⟩
theorem ReadsOf.below {w w1 : World} {A : Option Addr} {n : Nat} {xs : List α} (h : ReadsOf enc d w A n xs) (hb : Below w.heap.size w w1) : ReadsOf enc d w1 A n xs :=
  ⟨h.1, h.2.1, fun hn => by
    obtain ⟨ad, e, hc⟩ := h.2.2 hn
    exact ⟨ad, e, fun j hj => pw_cell_below hb (hc j hj)⟩⟩
end
section
variable {α : Type} {P : Program} {ops : Array Oper} {rest : List Oper} {o : Oper} {a : Act} {Q : Exit → Act → World → Prop}
end
section
variable {P : Program}
end
theorem own_le {w : World} {base n m c size : Nat} {e : TypeId} {A : Option Addr} {xs : List Value} (h : w.ownsRow base e size (.slice A m c) n xs) : m ≤ c := by
  rcases h.2 with ⟨he, _⟩ | ⟨g, cap, cur, he, _, _, hnc, _⟩
  · injection he with _ h2 h3
    omega
  · injection he with _ h2 h3
    omega
def OwnRow {α : Type} (R : α → List Value → Prop) (e : TypeId) (size : Nat) (w : World) (base : Nat) (v : Value) (ps : List α) : Prop :=
  ∃ inner, w.ownsRow base e size v ps.length inner ∧ Reps R size ps inner
section
variable {α : Type} {R R' : α → List Value → Prop} {e : TypeId} {size : Nat} {w w1 : World} {base : Nat} {v : Value} {ps : List α}
theorem OwnRow.imp_ (h : OwnRow R e size w base v ps) (hR : ∀ p c, R p c → R' p c) : OwnRow R' e size w base v ps := by
  obtain ⟨inner, ho, hr⟩ := h
  exact ⟨inner, ho, hr.imp_ hR⟩
theorem OwnRow.below (h : OwnRow R e size w base v ps) (hb : Below w.heap.size w w1) : OwnRow R e size w1 base v ps := by
  obtain ⟨inner, ho, hr⟩ := h
  exact ⟨inner, pw_own_below ho hb, hr⟩
theorem OwnRow.other (h : OwnRow R e size w base v ps) {row : Option Nat} (hg : w.grownBy w1 row) (hne : v.ownBlock = none ∨ v.ownBlock ≠ row) : OwnRow R e size w1 base v ps := by
  obtain ⟨inner, ho, hr⟩ := h
  exact ⟨inner, own_other ho hg hne, hr⟩
theorem OwnRow.keep (h : OwnRow R e size w base v ps) {g : Nat} {t : TypeId} {cells : Array Value} (hb : w.heap[g]? = some (.cells cells t (0, 0))) (ht : e ≠ t) (hk : KeepBut w w1 g none) : OwnRow R e size w1 base v ps := by
  obtain ⟨inner, ho, hr⟩ := h
  exact ⟨inner, hk.own ho (Ne.symm (own_ne ho hb ht)) (by cases v.ownBlock <;> simp), hr⟩
theorem OwnRow.reads (h : OwnRow R e size w base v ps) : ∃ A c, v = .slice A ps.length c ∧ ps.length ≤ c ∧ ReadsRow R size w A ps.length ps := by
  obtain ⟨inner, ho, hr⟩ := h
  obtain ⟨A, c, rfl, hrow⟩ := own_reads_row ho hr rfl
  exact ⟨A, c, rfl, own_le ho, hrow⟩
theorem OwnRow.lit (W : World) (base : Nat) {inner : List Value} (hr : Reps R size ps inner) (hb : base ≤ W.heap.size) (hm : ps.length ≤ 9223372036854775807) :
    OwnRow R e size (W.alloc (.cells inner.toArray e)) base (.slice (some ⟨W.heap.size, 0, none⟩) ps.length ps.length) ps := by
  have h := World.ownsRow_lit (base := base) (e := e) (size := size) W inner.toArray ps.length hb (by simpa [maxLen] using hm) (by simpa using hr.1)
  exact ⟨inner, by simpa using h, hr⟩
end
section
variable {P : Program} {ops : Array Oper} {rest : List Oper} {o : Oper} {a : Act} {Q : Exit → Act → World → Prop} {α : Type} {R : α → List Value → Prop}
theorem OwnRow.append {w0 W : World} (base : Nat) (hgd : o.guard = none) (s x : Operand) (t e : TypeId) (z : Value) (size bytes : Nat)
    (ho : o.op = .call { callee := .builtin .append, args := #[s, x], argTypes := #[t, t] })
    (ht : P.underlying t = some (.slice e)) (hinfo : (P.info? e).map (fun i => (i.zero, i.size, i.bytes)) = some (some z, size, bytes)) (hz : z.cells.size = size) (hs0 : 0 < size) (hb0 : 0 < bytes)
    (v : Value) (ps : List α) (p : α) (cs : List Value) (hs : a.eval s = v) (hx : a.eval x = .slice (some ⟨W.heap.size, 0, none⟩) 1 1) (hp : R p cs) (hcs : cs.length = size) (h1 : ∀ u ∈ cs, u.oneCell' = true)
    (HO : OwnRow R e size W base v ps) (HB : Below base w0 W) (hbase : base ≤ W.heap.size) (hl : (ps.length + 1) * bytes ≤ 140737488355328)
    (h : ∀ v1 w1, OwnRow R e size w1 base v1 (ps ++ [p]) → Below base w0 w1 → W.grownBy w1 v.ownBlock → (v1.ownBlock = v.ownBlock ∨ ∃ b, v1.ownBlock = some b ∧ W.heap.size ≤ b) → wpList P ops Q rest (a.put o.dst v1) w1) :
    wpList P ops Q (o :: rest) a (W.alloc (.cells cs.toArray e)) := by
  obtain ⟨inner, hown, hr⟩ := HO
  refine print_append_cells base hgd s x t e z size bytes ho ht hinfo hz hs0 hb0 v ps.length inner cs hs hx hcs h1 hown HB hbase hl ?_
  intro v1 w1 hown1 hb1 hg1 hat1
  exact h v1 w1 ⟨inner ++ cs, by rw [List.length_append, List.length_singleton]; exact hown1, hr.snoc hp hcs⟩ hb1 hg1 hat1
end
section
variable {P : Program} {ops : Array Oper} {o : Oper} {a : Act} {Q : Exit → Act → World → Prop} {K : Act → World → Prop} {α : Type} {R : α → List Value → Prop}
end
section
variable {α : Type} {P : Program}
theorem ReadsOf.len_ {enc : α → Value} {d : α} {w : World} {A : Option Addr} {n : Nat} {xs : List α} (h : ReadsOf enc d w A n xs) : ReadsOf enc d w A xs.length xs := by rw [h.1]; exact h
end
section
variable {P : Program} {ops : Array Oper} {rest : List Oper} {o : Oper} {a : Act} {Q : Exit → Act → World → Prop}
end
structure Kd (α : Type) where
  sz : Nat
  E : List Nat
  K : World → α → List Value → Prop
  M : World → Nat → (Nat → Prop) → α → List Value → Prop
  K_len : ∀ {w x cs}, K w x cs → cs.length = sz
  K_one : ∀ {w x cs}, K w x cs → ∀ u ∈ cs, u.oneCell' = true
  K_below : ∀ {w w1 : World} {x cs}, Below w.heap.size w w1 → K w x cs → K w1 x cs
  K_of_M : ∀ {w base ok x cs}, M w base ok x cs → K w x cs
  M_mono : ∀ {w base ok ok' x cs}, (∀ k, ok k → ok' k) → M w base ok x cs → M w base ok' x cs
  M_bound : ∀ {w : World} {base ok x cs}, M w base ok x cs → M w base (fun k => ok k ∧ base ≤ k ∧ k < w.heap.size ∧ ∃ q, q ∈ E ∧ ∃ cells, w.heap[k]? = some (.cells cells q (0, 0))) x cs
  M_move : ∀ {w w1 : World} {base ok x cs}, (∀ k, ok k → w1.heap[k]? = w.heap[k]?) → M w base ok x cs → M w1 base ok x cs
  M_lower : ∀ {w base base' ok x cs}, base' ≤ base → M w base ok x cs → M w base' ok x cs
theorem own_move {w w1 : World} {base : Nat} {e : TypeId} {size n : Nat} {v : Value} {xs : List Value} (h : w.ownsRow base e size v n xs) (hm : ∀ k, v.ownBlock = some k → w1.heap[k]? = w.heap[k]?) : w1.ownsRow base e size v n xs := by
  obtain ⟨h1, h2⟩ := h
  refine ⟨h1, ?_⟩
  rcases h2 with h2 | ⟨g, cap, cur, rfl, hg, hh, r⟩
  · exact .inl h2
  · exact .inr ⟨g, cap, cur, rfl, hg, (hm g (by simp [Value.ownBlock])).trans hh, r⟩
theorem own_typed {w : World} {base : Nat} {e : TypeId} {size n : Nat} {v : Value} {xs : List Value} (h : w.ownsRow base e size v n xs) (k : Nat) (hk : v.ownBlock = some k) : ∃ cells, w.heap[k]? = some (.cells cells e (0, 0)) := by
  rcases h.2 with ⟨rfl, _⟩ | ⟨g, cap, cur, rfl, hg, hh, r⟩
  · simp [Value.ownBlock] at hk
  · have : g = k := by simpa [Value.ownBlock] using hk
    subst this
    exact ⟨cur, hh⟩
namespace Kd
def C {α : Type} (d : Kd α) (w : World) (A : Option Addr) (n : Nat) (xs : List α) : Prop := ReadsRow (d.K w) d.sz w A n xs
def R {α : Type} (d : Kd α) (e : Nat) (w : World) (base : Nat) (ok : Nat → Prop) (v : Value) (xs : List α) : Prop :=
  (∀ k, v.ownBlock = some k → ok k) ∧ OwnRow (d.M w base (fun k => ok k ∧ some k ≠ v.ownBlock)) e d.sz w base v xs
section
variable {α : Type} {d : Kd α} {e : Nat} {w w1 : World} {base : Nat} {ok ok' : Nat → Prop} {v : Value} {xs : List α}
theorem C_below {A : Option Addr} {n : Nat} (h : d.C w A n xs) (hb : Below w.heap.size w w1) : d.C w1 A n xs := ReadsRow.imp_ h hb (fun _ _ hp => d.K_below hb hp)
theorem R_mono (h : d.R e w base ok v xs) (hok : ∀ k, ok k → ok' k) : d.R e w base ok' v xs := ⟨fun k hk => hok k (h.1 k hk), h.2.imp_ (fun _ _ hp => d.M_mono (fun k hk => ⟨hok k hk.1, hk.2⟩) hp)⟩
theorem R_bound (h : d.R e w base ok v xs) : d.R e w base (fun k => ok k ∧ base ≤ k ∧ k < w.heap.size ∧ ∃ q, q ∈ e :: d.E ∧ ∃ cells, w.heap[k]? = some (.cells cells q (0, 0))) v xs := by
  obtain ⟨h0, inner, ho, hr⟩ := h
  refine ⟨fun k hk => ?_, inner, ho, hr.imp_ (fun _ _ hp => d.M_mono (fun k hk => ?_) (d.M_bound hp))⟩
  · obtain ⟨cells, hc⟩ := own_typed ho k hk
    exact ⟨h0 k hk, own_base ho k hk, own_lt ho k hk, e, List.mem_cons_self, cells, hc⟩
  · obtain ⟨⟨h1, h2⟩, h3, h4, q, hq, hc⟩ := hk
    exact ⟨⟨h1, h3, h4, q, List.mem_cons_of_mem _ hq, hc⟩, h2⟩
theorem R_move (h : d.R e w base ok v xs) (hm : ∀ k, ok k → w1.heap[k]? = w.heap[k]?) : d.R e w1 base ok v xs := by
  obtain ⟨h0, inner, ho, hr⟩ := h
  exact ⟨h0, inner, own_move ho (fun k hk => hm k (h0 k hk)), hr.imp_ (fun _ _ hp => d.M_move (fun k hk => hm k hk.1) hp)⟩
theorem R_lower {base' : Nat} (h : d.R e w base ok v xs) (hb : base' ≤ base) : d.R e w base' ok v xs := by
  obtain ⟨h0, inner, ho, hr⟩ := h
  exact ⟨h0, inner, own_weaken ho hb, hr.imp_ (fun _ _ hp => d.M_lower hb hp)⟩
theorem R_reads (h : d.R e w base ok v xs) : ∃ A c, v = .slice A xs.length c ∧ xs.length ≤ c ∧ d.C w A xs.length xs := by
  obtain ⟨A, c, he, hl, hr⟩ := OwnRow.reads h.2
  exact ⟨A, c, he, hl, hr.imp_ (Below.refl _ _) (fun _ _ hp => d.K_of_M hp)⟩
end
def scalar {α : Type} (enc : α → Value) (h1 : ∀ x, (enc x).oneCell' = true) : Kd α where
  sz := 1
  E := []
  K := fun _ x cs => cs = [enc x]
  M := fun _ _ _ x cs => cs = [enc x]
  K_len := fun h => by rw [h]; rfl
  K_one := fun h u hu => by
    rw [h] at hu
    rw [List.mem_singleton.1 hu]
    exact h1 _
  K_below := fun _ h => h
  K_of_M := fun h => h
  M_mono := fun _ h => h
  M_bound := fun h => h
  M_move := fun _ h => h
  M_lower := fun _ h => h
def int (k : IntKind) : Kd Int := scalar (Value.int k) (fun _ => rfl)
def bool : Kd Bool := scalar Value.bool (fun _ => rfl)
def string : Kd ByteArray := scalar Value.string (fun _ => rfl)
def slice {α : Type} (e : Nat) (d : Kd α) : Kd (List α) where
  sz := 1
  E := e :: d.E
  K := fun w xs cs => ∃ A c, cs = [.slice A xs.length c] ∧ xs.length ≤ c ∧ d.C w A xs.length xs
  M := fun w base ok xs cs => ∃ v, cs = [v] ∧ d.R e w base ok v xs
  K_len := by
    rintro w x cs ⟨A, c, rfl, _⟩
    rfl
  K_one := by
    rintro w x cs ⟨A, c, rfl, _⟩ u hu
    rw [List.mem_singleton.1 hu]
    rfl
  K_below := by
    rintro w w1 x cs hb ⟨A, c, rfl, hl, hr⟩
    exact ⟨A, c, rfl, hl, C_below hr hb⟩
  K_of_M := by
    rintro w base ok x cs ⟨v, rfl, h⟩
    obtain ⟨A, c, rfl, hl, hr⟩ := R_reads h
    exact ⟨A, c, rfl, hl, hr⟩
  M_mono := by
    rintro w base ok ok' x cs hok ⟨v, rfl, h⟩
    exact ⟨v, rfl, R_mono h hok⟩
  M_bound := by
    rintro w base ok x cs ⟨v, rfl, h⟩
    exact ⟨v, rfl, R_bound h⟩
  M_move := by
    rintro w w1 base ok x cs hm ⟨v, rfl, h⟩
    exact ⟨v, rfl, R_move h hm⟩
  M_lower := by
    rintro w base base' ok x cs hb ⟨v, rfl, h⟩
    exact ⟨v, rfl, R_lower h hb⟩
def pair {α β : Type} (a : Kd α) (b : Kd β) : Kd (α × β) where
  sz := a.sz + b.sz
  E := a.E ++ b.E
  K := fun w x cs => ∃ c0 c1, cs = c0 ++ c1 ∧ a.K w x.1 c0 ∧ b.K w x.2 c1
  M := fun w base ok x cs => ∃ c0 c1, cs = c0 ++ c1 ∧ a.M w base ok x.1 c0 ∧ b.M w base ok x.2 c1
  K_len := by
    rintro w x cs ⟨c0, c1, rfl, h0, h1⟩
    rw [List.length_append, a.K_len h0, b.K_len h1]
  K_one := by
    rintro w x cs ⟨c0, c1, rfl, h0, h1⟩ u hu
    rcases List.mem_append.1 hu with hu | hu
    · exact a.K_one h0 u hu
    · exact b.K_one h1 u hu
  K_below := by
    rintro w w1 x cs hb ⟨c0, c1, rfl, h0, h1⟩
    exact ⟨c0, c1, rfl, a.K_below hb h0, b.K_below hb h1⟩
  K_of_M := by
    rintro w base ok x cs ⟨c0, c1, rfl, h0, h1⟩
    exact ⟨c0, c1, rfl, a.K_of_M h0, b.K_of_M h1⟩
  M_mono := by
    rintro w base ok ok' x cs hok ⟨c0, c1, rfl, h0, h1⟩
    exact ⟨c0, c1, rfl, a.M_mono hok h0, b.M_mono hok h1⟩
  M_bound := by
    rintro w base ok x cs ⟨c0, c1, rfl, h0, h1⟩
    refine ⟨c0, c1, rfl, a.M_mono ?_ (a.M_bound h0), b.M_mono ?_ (b.M_bound h1)⟩
    · rintro k ⟨h2, h3, h4, q, hq, hc⟩
      exact ⟨h2, h3, h4, q, List.mem_append_left _ hq, hc⟩
    · rintro k ⟨h2, h3, h4, q, hq, hc⟩
      exact ⟨h2, h3, h4, q, List.mem_append_right _ hq, hc⟩
  M_move := by
    rintro w w1 base ok x cs hm ⟨c0, c1, rfl, h0, h1⟩
    exact ⟨c0, c1, rfl, a.M_move hm h0, b.M_move hm h1⟩
  M_lower := by
    rintro w base base' ok x cs hb ⟨c0, c1, rfl, h0, h1⟩
    exact ⟨c0, c1, rfl, a.M_lower hb h0, b.M_lower hb h1⟩
def bot {α : Type} (sz : Nat) (E : List Nat) : Kd α where
  sz := sz
  E := E
  K := fun _ _ _ => False
  M := fun _ _ _ _ _ => False
  K_len := fun h => h.elim
  K_one := fun h => h.elim
  K_below := fun _ h => h
  K_of_M := fun h => h
  M_mono := fun _ h => h
  M_bound := fun h => h
  M_move := fun _ h => h
  M_lower := fun _ h => h
def upto {α : Type} (F : Kd α → Kd α) (sz : Nat) (E : List Nat) : Nat → Kd α
  | 0 => bot sz E
  | n + 1 => F (upto F sz E n)
section
variable {P : Program} {ops : Array Oper} {rest : List Oper} {o : Oper} {a : Act} {Q : Exit → Act → World → Prop} {α : Type}
end
section
variable {P : Program} {ops : Array Oper} {o : Oper} {a : Act} {Q : Exit → Act → World → Prop} {Kc : Act → World → Prop} {α : Type}
end
end Kd
namespace Kd
structure Mono {α β : Type} (F : Kd α → Kd β) : Prop where
  sz : ∀ d d' : Kd α, d.sz = d'.sz → (F d).sz = (F d').sz
  K : ∀ d d' : Kd α, d.sz = d'.sz → (∀ w x cs, d.K w x cs → d'.K w x cs) → ∀ w x cs, (F d).K w x cs → (F d').K w x cs
  M : ∀ d d' : Kd α, d.sz = d'.sz → (∀ w base ok x cs, d.M w base ok x cs → d'.M w base ok x cs) → ∀ w base ok x cs, (F d).M w base ok x cs → (F d').M w base ok x cs
section
variable {α : Type} {F : Kd α → Kd α} {sz : Nat} {E : List Nat} {hs : ∀ n, (upto F sz E n).sz = sz} {hE : ∀ n q, q ∈ (upto F sz E n).E → q ∈ E}
end
end Kd
namespace Kd
end Kd
namespace Kd
section
variable {α β : Type} {d : Kd α} {d' : Kd β} {e e' : Nat} {w w1 W : World} {base b b' : Nat} {ok ok' okv oku : Nat → Prop} {v u : Value} {xs : List α} {ys : List β}
end
section
variable {w W : World} {A : Option Addr} {n : Nat}
variable {α : Type} {enc : α → Value} {h1 : ∀ x, (enc x).oneCell' = true} {e base g cap : Nat} {ok : Nat → Prop} {xs : List α}
end
section
variable {P : Program} {ops : Array Oper} {rest : List Oper} {o : Oper} {a : Act} {Q : Exit → Act → World → Prop}
variable {α : Type}
end
end Kd
section
variable {P : Program}
end
def QRow (w : World) (base : Nat) (e : TypeId) (size : Nat) (v : Value) (n : Nat) (xs : List Value) : Prop :=
  xs.length = n * size ∧
  ((n = 0 ∧ ∃ A, v = .slice A 0 0 ∧ ∀ a, A = some a → base ≤ a.block ∧ ∃ cur, w.heap[a.block]? = some (.cells cur e (0, 0))) ∨
   ∃ g off cap cur, v = .slice (some ⟨g, off * size, none⟩) n cap ∧ base ≤ g ∧ w.heap[g]? = some (.cells cur e (0, 0)) ∧ n ≤ cap ∧ off + cap ≤ maxLen ∧ cur.size = (off + cap) * size ∧ (cur.toList.drop (off * size)).take (n * size) = xs)
section
variable {w w1 : World} {base n size : Nat} {e : TypeId} {v : Value} {xs : List Value}
theorem setCells_far {g : Nat} : ∀ (vs : List Value) (o : Nat) {w : World} (k : Nat), k ≠ g → (w.setCells g o vs).heap[k]? = w.heap[k]?
  | [], _, _, _, _ => rfl
  | v :: r, o, w, k, hk => by
    rw [World.setCells, setCells_far r (o + 1) k hk]
    exact Below.heap_setCell w ⟨g, o, none⟩ v k hk
theorem setCells_same (g : Nat) : ∀ (vs : List Value) (o : Nat) (w : World), (w.setCells g o vs).os = w.os ∧ (w.setCells g o vs).tape = w.tape ∧ (w.setCells g o vs).output = w.output ∧ (w.setCells g o vs).heap.size = w.heap.size
  | [], _, _ => ⟨rfl, rfl, rfl, rfl⟩
  | v :: r, o, w => by
    obtain ⟨h1, h2, h3, h4⟩ := setCells_same g r (o + 1) (w.setCell ⟨g, o, none⟩ v)
    rw [World.setCells]
    exact ⟨h1, h2, h3, by rw [h4]; simp [World.setCell]⟩
end
section
variable {P : Program}
end
namespace Kd
def Q {α : Type} (d : Kd α) (e : Nat) (w : World) (base : Nat) (ok : Nat → Prop) (v : Value) (xs : List α) : Prop :=
  (∀ k, v.ownBlock = some k → ok k) ∧ ∃ inner, QRow w base e d.sz v xs.length inner ∧ Reps (d.M w base (fun k => ok k ∧ some k ≠ v.ownBlock)) d.sz xs inner
section
variable {α : Type} {d : Kd α} {e : Nat} {w w1 W : World} {base : Nat} {ok ok' : Nat → Prop} {v : Value} {xs : List α}
end
section
variable {P : Program} {ops : Array Oper} {rest : List Oper} {o : Oper} {a : Act} {Q' : Exit → Act → World → Prop} {Kc : Act → World → Prop} {α : Type}
end
end Kd
namespace Kd
section
variable {α : Type} {d : Kd α} {e e' : Nat} {w w1 W : World} {base : Nat} {ok : Nat → Prop} {u v : Value} {xs : List α}
end
end Kd
namespace Kd
section
variable {α : Type} {d : Kd α} {e base g n cap : Nat} {ok okp : Nat → Prop} {W : World} {xs : List α}
end
end Kd
namespace Kd
section
variable {α : Type} {F : Kd α → Kd α} {sz : Nat} {E : List Nat} {hs : ∀ n, (upto F sz E n).sz = sz} {hE : ∀ n q, q ∈ (upto F sz E n).E → q ∈ E}
end
end Kd
namespace Kd
theorem reps_append {α : Type} {R : α → List Value → Prop} {size : Nat} {ps qs : List α} {cs ds : List Value} (h : Reps R size ps cs) (h' : Reps R size qs ds) : Reps R size (ps ++ qs) (cs ++ ds) := by
  refine ⟨by rw [List.length_append, List.length_append, h.1, h'.1, Nat.add_mul], fun j p hj => ?_⟩
  rcases Nat.lt_or_ge j ps.length with hlt | hge
  · rw [List.getElem?_append_left hlt] at hj
    have hle : j * size + size ≤ cs.length := by rw [h.1, ← Nat.succ_mul]; exact Nat.mul_le_mul_right _ hlt
    rw [List.drop_append_of_le_length (by omega), List.take_append_of_le_length (by rw [List.length_drop]; omega)]
    exact h.2 j p hj
  · rw [List.getElem?_append_right hge] at hj
    have h2 := h'.2 (j - ps.length) p hj
    have hle : ps.length * size ≤ j * size := Nat.mul_le_mul_right _ hge
    rw [List.drop_append, List.drop_eq_nil_of_le (by rw [h.1]; exact hle), List.nil_append, h.1, ← Nat.sub_mul]
    exact h2
section
variable {P : Program} {ops : Array Oper} {rest : List Oper} {o : Oper} {a : Act} {Q : Exit → Act → World → Prop} {α : Type}
end
end Kd
namespace Kd
section
variable {P : Program} {ops : Array Oper} {rest : List Oper} {o : Oper} {a : Act} {Q : Exit → Act → World → Prop} {α : Type}
end
end Kd
theorem add_add (a : Addr) (i j : Nat) : (a.add i).add j = a.add (i + j) := by
  unfold Addr.add
  by_cases h1 : i = 0 <;> by_cases h2 : j = 0 <;> simp [h1, h2, Nat.add_assoc]
namespace Kd
section
variable {α : Type} {k : Kd α} {w : World} {A : Option Addr} {xs : List α} {m c : Nat}
end
end Kd
section
variable {P : Program}
end
theorem below_step {w W w2 : World} (h : Below w.heap.size w W) (k : Below W.heap.size W w2) : Below w.heap.size w w2 := below_then h h.size k
theorem ReadsInt.nil (W : World) (k : IntKind) : ReadsInt W k none ([] : List Int).length [] := ⟨rfl, by simp, fun h => absurd h (Nat.lt_irrefl 0)⟩
theorem ReadsInt.drewN {W : World} {k : IntKind} {A : Option Addr} {n : Nat} {xs : List Int} (h : ReadsInt W k A n xs) (m : Nat) : ReadsInt (W.drewN m) k A n xs := h
theorem keep_cell {w W : World} {g : Nat} (h : KeepBut w W g none) {a : Addr} {v : Value} (hc : w.cell? a = some v) (hne : a.block ≠ g) : W.cell? a = some v := by
  have := h.2 a.block (World.block_lt_of_cell? w a hc) hne (by simp)
  simpa [World.cell?, this] using hc
theorem add_block (a : Addr) (i : Nat) : (a.add i).block = a.block := by unfold Addr.add; split <;> rfl
theorem ReadsOf.nil {α : Type} (enc : α → Value) (d : α) (W : World) : ReadsOf enc d W none ([] : List α).length [] := ⟨rfl, by simp, fun h => absurd h (Nat.lt_irrefl 0)⟩
theorem ReadsOf.drewN {α : Type} {enc : α → Value} {d : α} {W : World} {A : Option Addr} {n : Nat} {xs : List α} (h : ReadsOf enc d W A n xs) (m : Nat) : ReadsOf enc d (W.drewN m) A n xs := h
theorem ReadsInt.keep {w W : World} {k : IntKind} {A : Option Addr} {n g : Nat} {xs : List Int} (h : ReadsInt w k A n xs) (hk : KeepBut w W g none) (hf : ∀ ad, A = some ad → 0 < n → ad.block ≠ g) : ReadsInt W k A n xs :=
  ⟨h.1, h.2.1, fun hn => by
    obtain ⟨ad, e, hc⟩ := h.2.2 hn
    exact ⟨ad, e, fun j hj => keep_cell hk (hc j hj) (by rw [add_block]; exact hf ad e hn)⟩⟩
theorem ReadsOf.keep {α : Type} {enc : α → Value} {d : α} {w W : World} {A : Option Addr} {n g : Nat} {xs : List α} (h : ReadsOf enc d w A n xs) (hk : KeepBut w W g none) (hf : ∀ ad, A = some ad → 0 < n → ad.block ≠ g) : ReadsOf enc d W A n xs :=
  ⟨h.1, h.2.1, fun hn => by
    obtain ⟨ad, e, hc⟩ := h.2.2 hn
    exact ⟨ad, e, fun j hj => keep_cell hk (hc j hj) (by rw [add_block]; exact hf ad e hn)⟩⟩
namespace Kd
section
variable {α β : Type} {d : Kd α} {d' : Kd β} {e e' base base' n : Nat} {ok ok' : Nat → Prop} {w W w1 W1 : World} {v u : Value} {xs : List α} {ys : List β} {A : Option Addr} {c : Nat}
end
section
variable {α : Type} {enc : α → Value} {h1 : ∀ x, (enc x).oneCell' = true} {w W : World} {A : Option Addr} {n g : Nat} {xs : List α}
end
end Kd
namespace Kd
section
variable {α : Type} {d : Kd α} {e base g : Nat} {ok : Nat → Prop} {w w1 : World} {v : Value} {xs : List α} {o : Obj}
end
end Kd
section
variable {P : Program} {ops : Array Oper} {rest : List Oper} {o : Oper} {a : Act} {Q : Exit → Act → World → Prop}
end
namespace Kd
section
variable {α : Type} {enc : α → Value} {h1 : ∀ x, (enc x).oneCell' = true} {e base g n cap : Nat} {ok : Nat → Prop} {W : World} {xs : List α}
end
end Kd
section
variable {P : Program} {ops : Array Oper} {rest : List Oper} {o : Oper} {a : Act} {Q : Exit → Act → World → Prop}
end
namespace Kd
section
variable {α : Type} {enc : α → Value} {h1 : ∀ x, (enc x).oneCell' = true} {e base g n cap : Nat} {ok : Nat → Prop} {W : World} {xs : List α}
end
end Kd
section
variable {P : Program} {ops : Array Oper} {rest : List Oper} {o : Oper} {a : Act} {Q : Exit → Act → World → Prop} {W : World}
end
section
variable {P : Program} {ops : Array Oper} {o : Oper} {a : Act} {Q : Exit → Act → World → Prop} {Kc : Act → World → Prop}
namespace Kd
variable {α : Type}
end Kd
end
inductive Vals (P : Program) (tmps : Array Value) (w : World) : List ResultVar → List Value → Prop where
  | nil : Vals P tmps w [] []
  | tmp {u : Tmp} {rs : List ResultVar} {vs : List Value} (h : Vals P tmps w rs vs) : Vals P tmps w (.tmp u :: rs) (tmps.getD u undef :: vs)
  | cell {p : Tmp} {ty : TypeId} {rs : List ResultVar} {vs : List Value} (g : Nat) (t : TypeId) (cs : Array Value) (fr : Nat × Nat) (d : TypeDesc)
      (hp : tmps.getD p undef = .pointer (some ⟨g, 0, none⟩)) (hg : w.heap[g]? = some (.cells cs t fr))
      (hu : P.underlying ty = some d) (hd : (match d with | .struct _ | .array _ _ => true | _ => false) = true) (hi : (P.info? ty).map (·.size) = some cs.size)
      (h : Vals P tmps w rs vs) : Vals P tmps w (.cell p ty :: rs) (.agg cs :: vs)
section
variable {P : Program} {tmps : Array Value} {w : World}
end
namespace Kd
section
variable {P : Program} {α : Type}
end
section
variable {P : Program} {ops : Array Oper} {rest : List Oper} {o : Oper} {a : Act} {Q : Exit → Act → World → Prop} {Kc : Act → World → Prop} {α : Type}
end
end Kd
end Go.Proofs.YtilagaapfbfkkaaGreatDoorW.PrintWords
end
namespace Go.Proofs.YtilagaapfbfkkaaGreatDoor.Ab
open Go
inductive Ty where
  | int (k : IntKind) | bool | str | slice (e : TypeId) (t : Ty) | pair (a b : Ty)
  deriving DecidableEq
@[reducible] def Ty.den : Ty → Type
  | .int _ => Int | .bool => Bool | .str => ByteArray | .slice _ t => List t.den | .pair a b => a.den × b.den
def Ty.sz : Ty → Nat
  | .pair a b => a.sz + b.sz | .int _ => 1 | .bool => 1 | .str => 1 | .slice _ _ => 1
def Ty.dflt : (t : Ty) → t.den
  | .int _ => (0 : Int) | .bool => false | .str => ByteArray.empty | .slice _ t => ([] : List t.den) | .pair a b => (a.dflt, b.dflt)
inductive C where
  | top | bool (b : Bool) | int (k : IntKind) (n : Int) | str (s : ByteArray)
  | sl (t : Ty) (xs : List t.den) | nil
  | ref (i off : Nat) | own (i : Nat) | elt (t : Ty) (i j off : Nat) | ielt (t : Ty) (x : t.den) (off : Nat)
  | nilp | ifa (t : TypeId) (k : IntKind) (n : Int) | nilif | ifp
  | fn (f : FuncId) (l : List Nat)
  | mp (i : Nat)
inductive E where
  | one (c : C) | agg (l : List C)
inductive V where
  | one (c : C) | agg (l : List C) | tup (l : List E) | wh (g : Bool) (c : C)
inductive Ob where
  | box (e : TypeId) (l : List C)
  | own (e : TypeId) (t : Ty) (xs : List t.den) (ap mv : Bool)
  | mset (kt : Ty) (ks : List kt.den)
  | gone
structure St where
  tmps : List V
  objs : List Ob
inductive Ex where
  | normal | exit (id : Nat) | ret | panic (c : C)
inductive Out where
  | ret (v : V) | pan (c : C)
inductive TD where
  | int (k : IntKind) | bool | str | slice (e : TypeId) (t : Ty) | struct (fs : List (Nat × TypeId)) | iface | other | map (k : TypeId) (kt : Ty) (e : TypeId)
structure TI where
  d : TD
  sz : Nat
  by_ : Nat
  zero : List C
abbrev Tab := TypeId → Option TI
structure Sense where
  ro : Bool
  f : List Ob → List V → (List Ob → Out → Prop) → Prop
abbrev Sems := FuncId → Option Sense
def Ty.cs : (t : Ty) → t.den → List C
  | .int k, x => [C.int k x] | .bool, x => [C.bool x] | .str, x => [C.str x] | .slice _ t, x => [C.sl t x]
  | .pair a b, x => a.cs x.1 ++ b.cs x.2
def Ty.rd : (t : Ty) → List C → (t.den → List C → Prop) → Prop
  | .int k, l, Q => match l with
    | .int k' n :: r => if k = k' then Q n r else False
    | _ => False
  | .bool, l, Q => match l with
    | .bool b :: r => Q b r
    | _ => False
  | .str, l, Q => match l with
    | .str s :: r => Q s r
    | _ => False
  | .slice _ t, l, Q => match l with
    | .sl t' xs :: r => if h : t' = t then Q (h ▸ xs) r else False
    | .nil :: r => Q ([] : List t.den) r
    | _ => False
  | .pair a b, l, Q => a.rd l fun x r => b.rd r fun y r' => Q (x, y) r'
@[irreducible] def Br (g : Bool) (A B : Prop) : Prop := (g = true → A) ∧ (g = false → B)
theorem Br_iff {g : Bool} {A B : Prop} : Br g A B ↔ (g = true → A) ∧ (g = false → B) := by unfold Br; exact Iff.rfl
theorem Br.mk {g : Bool} {A B : Prop} (h : g = true → A) (h' : g = false → B) : Br g A B := Br_iff.2 ⟨h, h'⟩
theorem Br.t {A B : Prop} (h : A) : Br true A B := Br_iff.2 ⟨fun _ => h, fun h => by cases h⟩
theorem Br.f {A B : Prop} (h : B) : Br false A B := Br_iff.2 ⟨fun h => (by cases h), fun _ => h⟩
@[irreducible] def Both (A B : Prop) : Prop := A ∧ B
theorem Both_iff {A B : Prop} : Both A B ↔ A ∧ B := by unfold Both; exact Iff.rfl
theorem Both.mk {A B : Prop} (h : A) (h' : B) : Both A B := Both_iff.2 ⟨h, h'⟩
def nth {α : Type} : List α → Nat → Option α
  | [], _ => none
  | x :: _, 0 => some x
  | _ :: l, n + 1 => nth l n
def setK {α : Type} : List α → Nat → α → (List α → Prop) → Prop
  | [], _, _, Q => Q []
  | _ :: l, 0, v, Q => Q (v :: l)
  | x :: l, n + 1, v, Q => setK l n v fun l' => Q (x :: l')
def setL {α : Type} : List α → Nat → α → List α
  | [], _, _ => []
  | _ :: l, 0, v => v :: l
  | x :: l, n + 1, v => x :: setL l n v
def mkL {α : Type} : List α → (List α → Prop) → Prop
  | [], Q => Q []
  | x :: l, Q => mkL l fun l' => Q (x :: l')
def len {α : Type} : List α → Nat
  | [] => 0
  | _ :: l => len l + 1
def V.cells : V → Option (List C)
  | .one .top => none
  | .one c => some [c]
  | .agg l => some l
  | _ => none
def ofC : Value → C
  | .int k n => .int k n | .bool b => .bool b | .string s => .str s | .slice none 0 0 => .nil | .pointer none => .nilp | .nilIface => .nilif | _ => .top
def ofConst : Value → V
  | .agg cs => bif cs.toList.all Value.oneCell' then .agg (cs.toList.map ofC) else .one .top
  | v => .one (ofC v)
def opdR (σ : St) : Operand → V
  | .tmp t => (nth σ.tmps t).getD (.one .top)
  | .const v => ofConst v
  | .func f => .one (.fn f [])
  | _ => .one .top
def un : V → V
  | .wh g c => match g with
    | true => .one c
    | false => .one .top
  | v => v
def opd (σ : St) (x : Operand) : V := un (opdR σ x)
def C.ren (ρ : Nat → Nat) : C → C
  | .ref i o => .ref (ρ i) o | .own i => .own (ρ i) | .elt t i j o => .elt t (ρ i) j o | .fn f l => .fn f (l.map ρ) | .mp i => .mp (ρ i) | c => c
def E.ren (ρ : Nat → Nat) : E → E
  | .one c => .one (c.ren ρ) | .agg l => .agg (l.map (C.ren ρ))
def V.ren (ρ : Nat → Nat) : V → V
  | .one c => .one (c.ren ρ) | .agg l => .agg (l.map (C.ren ρ)) | .tup l => .tup (l.map (E.ren ρ)) | .wh g c => .wh g (c.ren ρ)
def Ob.ren (ρ : Nat → Nat) : Ob → Ob
  | .box e l => .box e (l.map (C.ren ρ)) | o => o
def anyP (p : Nat → Bool) : List Nat → Bool
  | [] => false
  | i :: l => bif p i then true else anyP p l
def C.drop (p : Nat → Bool) : C → C
  | .ref i o => bif p i then .top else .ref i o | .own i => bif p i then .top else .own i | .elt t i j o => bif p i then .top else .elt t i j o | .fn f l => bif anyP p l then .top else .fn f l | .mp i => bif p i then .top else .mp i | c => c
def C.kill (i : Nat) : C → C
  | .own j => bif Nat.beq i j then .top else .own j
  | .elt t j k o => bif Nat.beq i j then .top else .elt t j k o
  | c => c
def E.map (f : C → C) : E → E
  | .one c => .one (f c) | .agg l => .agg (l.map f)
def V.map (f : C → C) : V → V
  | .one c => .one (f c) | .agg l => .agg (l.map f) | .tup l => .tup (l.map (E.map f)) | .wh g c => .wh g (f c)
def Ob.map (f : C → C) : Ob → Ob
  | .box e l => .box e (l.map f) | o => o
def St.map (f : C → C) (σ : St) : St := ⟨σ.tmps.map (V.map f), σ.objs.map (Ob.map f)⟩
def litN (n : Nat) (Q : Nat → Prop) : Prop :=
  match n with
  | 0 => Q 0 | 1 => Q 1 | 2 => Q 2 | 3 => Q 3 | 4 => Q 4 | 5 => Q 5 | 6 => Q 6 | 7 => Q 7 | 8 => Q 8 | 9 => Q 9 | 10 => Q 10 | 11 => Q 11 | 12 => Q 12
  | n => Q n
theorem litN_iff (n : Nat) (Q : Nat → Prop) : litN n Q ↔ Q n := by unfold litN; split <;> exact Iff.rfl
def mkNs : List Nat → (List Nat → Prop) → Prop
  | [], Q => Q []
  | x :: l, Q => litN x fun x' => mkNs l fun l' => Q (x' :: l')
theorem mkNs_iff : ∀ (l : List Nat) (Q : List Nat → Prop), mkNs l Q ↔ Q l
  | [], _ => Iff.rfl
  | x :: l, Q => by simp [mkNs, litN_iff, mkNs_iff l]
def C.mk (c : C) (Q : C → Prop) : Prop :=
  match c with
  | .top => Q .top | .bool b => Q (.bool b) | .int k n => Q (.int k n) | .str s => Q (.str s) | .sl t xs => Q (.sl t xs) | .nil => Q .nil
  | .ref i o => litN i fun i => litN o fun o => Q (.ref i o) | .own i => litN i fun i => Q (.own i) | .elt t i j o => litN i fun i => litN o fun o => Q (.elt t i j o) | .ielt t x o => Q (.ielt t x o) | .nilp => Q .nilp | .ifa t k n => Q (.ifa t k n) | .nilif => Q .nilif | .ifp => Q .ifp
  | .fn f l => mkL l fun l' => Q (.fn f l')
  | .mp i => litN i fun i => Q (.mp i)
def mkCs : List C → (List C → Prop) → Prop
  | [], Q => Q []
  | c :: l, Q => c.mk fun c' => mkCs l fun l' => Q (c' :: l')
def E.mk (e : E) (Q : E → Prop) : Prop :=
  match e with
  | .one c => c.mk fun c' => Q (.one c')
  | .agg l => mkCs l fun l' => Q (.agg l')
def mkEs : List E → (List E → Prop) → Prop
  | [], Q => Q []
  | c :: l, Q => c.mk fun c' => mkEs l fun l' => Q (c' :: l')
def V.mk (v : V) (Q : V → Prop) : Prop :=
  match v with
  | .one c => c.mk fun c' => Q (.one c')
  | .agg l => mkCs l fun l' => Q (.agg l')
  | .tup l => mkEs l fun l' => Q (.tup l')
  | .wh g c => c.mk fun c' => Q (.wh g c')
def mkVs : List V → (List V → Prop) → Prop
  | [], Q => Q []
  | c :: l, Q => c.mk fun c' => mkVs l fun l' => Q (c' :: l')
def Ob.mk (o : Ob) (Q : Ob → Prop) : Prop :=
  match o with
  | .box e l => mkCs l fun l' => Q (.box e l')
  | .own e t xs a m => Q (.own e t xs a m)
  | .mset kt ks => Q (.mset kt ks)
  | .gone => Q .gone
def mkObs : List Ob → (List Ob → Prop) → Prop
  | [], Q => Q []
  | c :: l, Q => c.mk fun c' => mkObs l fun l' => Q (c' :: l')
def putK (σ : St) (d : Option Tmp) (v : V) (Q : St → Prop) : Prop :=
  match σ with
  | ⟨ts, os⟩ => match d with
    | none => Q ⟨ts, os⟩
    | some t => v.mk fun v' => setK ts t v' fun l => Q ⟨l, os⟩
def St.mkAll (σ : St) (Q : St → Prop) : Prop := mkVs σ.tmps fun l => mkObs σ.objs fun os => Q ⟨l, os⟩
theorem mkL_iff {α : Type} : ∀ (l : List α) (Q : List α → Prop), mkL l Q ↔ Q l
  | [], _ => Iff.rfl
  | x :: l, Q => by simp [mkL, mkL_iff l]
theorem C.mk_iff (c : C) (Q : C → Prop) : c.mk Q ↔ Q c := by cases c <;> first | exact Iff.rfl | exact mkL_iff _ _ | simp [C.mk, litN_iff]
theorem mkCs_iff : ∀ (l : List C) (Q : List C → Prop), mkCs l Q ↔ Q l
  | [], _ => Iff.rfl
  | x :: l, Q => by simp [mkCs, C.mk_iff, mkCs_iff l]
theorem E.mk_iff (e : E) (Q : E → Prop) : e.mk Q ↔ Q e := by cases e <;> simp [E.mk, C.mk_iff, mkCs_iff]
theorem mkEs_iff : ∀ (l : List E) (Q : List E → Prop), mkEs l Q ↔ Q l
  | [], _ => Iff.rfl
  | x :: l, Q => by simp [mkEs, E.mk_iff, mkEs_iff l]
theorem V.mk_iff (v : V) (Q : V → Prop) : v.mk Q ↔ Q v := by cases v <;> simp [V.mk, C.mk_iff, mkCs_iff, mkEs_iff]
theorem mkVs_iff : ∀ (l : List V) (Q : List V → Prop), mkVs l Q ↔ Q l
  | [], _ => Iff.rfl
  | x :: l, Q => by simp [mkVs, V.mk_iff, mkVs_iff l]
theorem Ob.mk_iff (o : Ob) (Q : Ob → Prop) : o.mk Q ↔ Q o := by cases o <;> simp [Ob.mk, mkCs_iff]
theorem mkObs_iff : ∀ (l : List Ob) (Q : List Ob → Prop), mkObs l Q ↔ Q l
  | [], _ => Iff.rfl
  | x :: l, Q => by simp [mkObs, Ob.mk_iff, mkObs_iff l]
theorem St.mkAll_iff (σ : St) (Q : St → Prop) : σ.mkAll Q ↔ Q σ := by simp [St.mkAll, mkVs_iff, mkObs_iff]
def C.id : C → List Nat
  | .ref i _ => [i] | .own i => [i] | .elt _ i _ _ => [i] | .fn _ l => l | .mp i => [i] | _ => []
def E.ids : E → List Nat
  | .one c => c.id | .agg l => l.flatMap C.id
def V.ids : V → List Nat
  | .one c => c.id | .agg l => l.flatMap C.id | .tup l => l.flatMap E.ids | .wh _ c => c.id
def Ob.ids : Ob → List Nat
  | .box _ l => l.flatMap C.id | _ => []
def memN (i : Nat) : List Nat → Bool
  | [] => false
  | j :: l => bif Nat.beq i j then true else memN i l
def addN : List Nat → List Nat → List Nat
  | acc, [] => acc
  | acc, i :: l => bif memN i acc then addN acc l else addN (acc ++ [i]) l
def reach (os : List Ob) : Nat → List Nat → List Nat
  | 0, ids => ids
  | n + 1, ids => reach os n (addN ids (ids.flatMap fun i => ((nth os i).map Ob.ids).getD []))
def reachK (os : List Ob) : Nat → List Nat → (List Nat → Prop) → Prop
  | 0, ids, Q => Q ids
  | n + 1, ids, Q => mkNs (ids.flatMap fun i => ((nth os i).map Ob.ids).getD []) fun l => mkNs (addN ids l) fun ids' => reachK os n ids' Q
theorem reachK_iff (os : List Ob) : ∀ (n : Nat) (ids : List Nat) (Q : List Nat → Prop), reachK os n ids Q ↔ Q (reach os n ids)
  | 0, _, _ => Iff.rfl
  | n + 1, ids, Q => by rw [reachK, mkNs_iff, mkNs_iff, reachK_iff os n]; rfl
def posN (i : Nat) : List Nat → Nat
  | [] => 0
  | j :: l => bif Nat.beq i j then 0 else posN i l + 1
def pick_ (σ : St) (ids : List Nat) : St :=
  ⟨σ.tmps.map fun v => (v.map (C.drop fun i => !memN i ids)).ren fun i => posN i ids,
   ids.map fun i => (((nth σ.objs i).getD .gone).map (C.drop fun i => !memN i ids)).ren fun i => posN i ids⟩
def keepT : Nat → List V → List Nat → List V
  | _, [], _ => []
  | i, v :: l, ks => (bif memN i ks then v else .one .top) :: keepT (i + 1) l ks
def upN : Nat → List Nat
  | 0 => []
  | n + 1 => upN n ++ [n]
def gc (m : Nat) (ks : List Nat) (σ : St) (Q : St → Prop) : Prop :=
  mkVs (keepT 0 σ.tmps ks) fun ts => mkNs (ts.flatMap V.ids) fun l => mkNs (addN (upN m) l) fun l' => reachK σ.objs (len σ.objs) l' fun ids => mkVs (ts.map (V.map (C.drop fun i => !memN i ids))) fun ts1 => mkVs (ts1.map fun v => v.ren fun i => posN i ids) fun ts2 =>
  mkObs (ids.map fun i => (nth σ.objs i).getD .gone) fun os => mkObs (os.map (Ob.map (C.drop fun i => !memN i ids))) fun os1 => mkObs (os1.map fun o => o.ren fun i => posN i ids) fun os2 => Q ⟨ts2, os2⟩
theorem gc_iff (m : Nat) (ks : List Nat) (σ : St) (Q : St → Prop) : gc m ks σ Q ↔ Q (pick_ ⟨keepT 0 σ.tmps ks, σ.objs⟩ (reach σ.objs (len σ.objs) (addN (upN m) ((keepT 0 σ.tmps ks).flatMap V.ids)))) := by
  unfold gc
  simp only [mkVs_iff, mkNs_iff, reachK_iff, mkObs_iff, pick_, List.map_map]
  exact Iff.rfl
end Go.Proofs.YtilagaapfbfkkaaGreatDoor.Ab
namespace Go.Proofs.YtilagaapfbfkkaaGreatDoor.Ab
open Go Go.Proofs.YtilagaapfbfkkaaGreatDoorW.PrintWords
def sub {α : Type} : Nat → Nat → List α → Option (List α)
  | 0, 0, _ => some []
  | 0, n + 1, x :: l => (sub 0 n l).map (x :: ·)
  | 0, _ + 1, [] => none
  | o + 1, n, _ :: l => sub o n l
  | _ + 1, _, [] => none
def over {α : Type} : Nat → List α → List α → Option (List α)
  | 0, [], l => some l
  | 0, y :: ys, _ :: l => (over 0 ys l).map (y :: ·)
  | 0, _ :: _, [] => none
  | o + 1, ys, x :: l => (over o ys l).map (x :: ·)
  | _ + 1, _, [] => none
def rdx {α : Type} (xs : List α) (i : Nat) (d : α) : α := xs.getD i d
def cellsAt (σ : St) (p : C) (n : Nat) : Option (List C) :=
  match p with
  | .ref i off => match nth σ.objs i with
    | some (.box _ l) => sub off n l
    | _ => none
  | .elt t i j off => match nth σ.objs i with
    | some (.own _ t' xs _ _) => if t' = t then sub off n (t'.cs (rdx xs j t'.dflt)) else none
    | _ => none
  | .ielt t x off => sub off n (t.cs x)
  | _ => none
def C.frz (i : Nat) (t : Ty) (xs : List t.den) : C → C
  | .own j => bif Nat.beq i j then .sl t xs else .own j
  | .elt t' j k o => bif Nat.beq i j then .top else .elt t' j k o
  | c => c
def frz1 (σ : St) (i : Nat) : St :=
  match nth σ.objs i with
  | some (.own _ t xs _ _) => St.map (C.frz i t xs) ⟨σ.tmps, setL σ.objs i .gone⟩
  | _ => σ
def frzc (σ : St) (i : Nat) : C → C :=
  match nth σ.objs i with
  | some (.own _ t xs _ _) => C.frz i t xs
  | _ => fun c => c
def owns : List C → List Nat
  | [] => []
  | .own i :: l => i :: owns l
  | _ :: l => owns l
def frzAll : List Nat → St → List C → (St → List C → Prop) → Prop
  | [], σ, l, Q => σ.mkAll fun σ' => mkCs l fun l' => Q σ' l'
  | i :: is, σ, l, Q => mkCs (l.map (frzc σ i)) fun l' => (frz1 σ i).mkAll fun σ' => frzAll is σ' l' Q
def evBin (T : Tab) (op : BinOp) (t : TypeId) (a b : V) (Q : V → Prop) : Prop :=
  match a, b with
  | .one (.int k x), .one (.int k' y) =>
    match op with
    | .shl => 0 ≤ y ∧ Q (.one (.int k (k.wrap (x * 2 ^ (min y.toNat k.bits)))))
    | .shr => 0 ≤ y ∧ Q (.one (.int k (x.fdiv (2 ^ (min y.toNat k.bits)))))
    | op =>
      if k = k' then
        match op with
        | .add => Q (.one (.int k (k.wrap (x + y))))
        | .sub => Q (.one (.int k (k.wrap (x - y))))
        | .mul => Q (.one (.int k (k.wrap (x * y))))
        | .quo => y ≠ 0 ∧ Q (.one (.int k (k.wrap (x.tdiv y))))
        | .rem => y ≠ 0 ∧ Q (.one (.int k (x.tmod y)))
        | .and => Q (.one (.int k (k.wrap (BitVec.ofInt k.bits x &&& BitVec.ofInt k.bits y).toNat)))
        | .or => Q (.one (.int k (k.wrap (BitVec.ofInt k.bits x ||| BitVec.ofInt k.bits y).toNat)))
        | .xor => Q (.one (.int k (k.wrap (BitVec.ofInt k.bits x ^^^ BitVec.ofInt k.bits y).toNat)))
        | .andNot => Q (.one (.int k (k.wrap (BitVec.ofInt k.bits x &&& ~~~BitVec.ofInt k.bits y).toNat)))
        | .eql => Q (.one (.bool (x == y)))
        | .neq => Q (.one (.bool (x != y)))
        | .lss => Q (.one (.bool (decide (x < y))))
        | .leq => Q (.one (.bool (decide (x ≤ y))))
        | .gtr => Q (.one (.bool (decide (x > y))))
        | .geq => Q (.one (.bool (decide (x ≥ y))))
        | _ => False
      else False
  | .one (.str x), .one (.str y) =>
    match op with
    | .add => x.size + y.size ≤ 9223372036854775807 ∧ Q (.one (.str (x ++ y)))
    | .eql => Q (.one (.bool (x.toList == y.toList)))
    | .neq => Q (.one (.bool (!(x.toList == y.toList))))
    | .lss => Q (.one (.bool (Op.bytesLess x.toList y.toList)))
    | .leq => Q (.one (.bool (Op.bytesLess x.toList y.toList || x.toList == y.toList)))
    | .gtr => Q (.one (.bool (!(Op.bytesLess x.toList y.toList || x.toList == y.toList))))
    | .geq => Q (.one (.bool (!(Op.bytesLess x.toList y.toList))))
    | _ => False
  | .one (.bool x), .one (.bool y) =>
    match T t with
    | some ⟨.bool, _, _, _⟩ =>
      match op with
      | .eql => Q (.one (.bool (x == y)))
      | .neq => Q (.one (.bool (!(x == y))))
      | _ => False
    | _ => False
  | _, _ => False
def eqFsK (T : Tab) (f : TypeId → List C → List C → Option Bool) : List (Nat × TypeId) → List C → List C → Option Bool
  | [], _, _ => some true
  | (off, t) :: l, xs, ys => match T t with
    | some ti => match sub off ti.sz xs, sub off ti.sz ys with
      | some a, some b => match f t a b, eqFsK T f l xs ys with
        | some p, some q => some (p && q)
        | _, _ => none
      | _, _ => none
    | none => none
def eqC (T : Tab) : Nat → TypeId → List C → List C → Option Bool
  | 0, _, _, _ => none
  | n + 1, t, xs, ys => match T t with
    | some ⟨.int _, _, _, _⟩ => match xs, ys with
      | [.int k x], [.int k' y] => if k = k' then some (x == y) else none
      | _, _ => none
    | some ⟨.bool, _, _, _⟩ => match xs, ys with
      | [.bool x], [.bool y] => some (x == y)
      | _, _ => none
    | some ⟨.str, _, _, _⟩ => match xs, ys with
      | [.str x], [.str y] => some (x.toList == y.toList)
      | _, _ => none
    | some ⟨.struct fs, _, _, _⟩ => eqFsK T (eqC T n) fs xs ys
    | _ => none
def eqO (op : BinOp) (r : Bool) (Q : V → Prop) : Prop := match op with
  | .eql => Q (.one (.bool r))
  | .neq => Q (.one (.bool (!r)))
  | _ => False
def evBin2 (T : Tab) (op : BinOp) (t : TypeId) (y : Operand) (a b : V) (Q : V → Prop) : Prop :=
  match a, b with
  | .agg l, .agg l' => match T t with
    | some ⟨.struct _, _, _, _⟩ => match eqC T 9 t l l' with
      | some r => eqO op r Q
      | none => False
    | _ => False
  | .one .ifp, .one .nilif => match T t with
    | some ⟨.iface, _, _, _⟩ => eqO op false Q
    | _ => False
  | .one .nilif, .one .nilif => match T t, y with
    | some ⟨.iface, _, _, _⟩, .const _ => eqO op true Q
    | _, _ => False
  | a, b => evBin T op t a b Q
def evUn (op : UnOp) (a : V) (Q : V → Prop) : Prop :=
  match op, a with
  | .neg, .one (.int k n) => Q (.one (.int k (k.wrap (0 - n))))
  | .xor, .one (.int k n) => Q (.one (.int k (k.wrap (BitVec.ofInt k.bits (if k.signed then -1 else k.max) ^^^ BitVec.ofInt k.bits n).toNat)))
  | .not, .one (.bool b) => Q (.one (.bool (!b)))
  | _, _ => False
def slK (σ : St) (t : Ty) (c : C) (Q : List t.den → Prop) : Prop :=
  match c with
  | .nil => Q []
  | .sl t' xs => if h : t' = t then Q (h ▸ xs) else False
  | .own i => match nth σ.objs i with
    | some (.own _ t' xs _ _) => if h : t' = t then Q (h ▸ xs) else False
    | _ => False
  | _ => False
def snoc {α : Type} : List α → α → (List α → Prop) → Prop
  | [], v, Q => Q [v]
  | x :: l, v, Q => snoc l v fun l' => Q (x :: l')
def newOb (σ : St) (o : Ob) (v : Nat → V) (Q : V → St → Prop) : Prop :=
  match σ with
  | ⟨ts, os⟩ => snoc os o fun os' => Q (v (len os)) ⟨ts, os'⟩
def setOb (σ : St) (i : Nat) (o : Ob) (Q : St → Prop) : Prop :=
  match σ with
  | ⟨ts, os⟩ => setK os i o fun os' => Q ⟨ts, os'⟩
def elems (t : Ty) : List V → (List t.den → Prop) → Prop
  | [], Q => Q []
  | v :: l, Q => match v.cells with
    | some cs => t.rd cs fun x r => match r with
      | [] => elems t l fun xs => Q (x :: xs)
      | _ => False
    | none => False
def partsV (σ : St) (ps : List (Nat × Operand)) : List V := ps.map fun p => opd σ p.2
def isUpto : Nat → List (Nat × Operand) → Bool
  | _, [] => true
  | n, (i, _) :: l => bif Nat.beq n i then isUpto (n + 1) l else false
def fillK (T : Tab) (fs : List (Nat × TypeId)) : (List (Nat × V)) → List C → Option (List C)
  | [], z => some z
  | (i, v) :: l, z => match nth fs i, v.cells with
    | some (off, ft), some cs => match T ft with
      | some ti => if len cs = ti.sz then (over off cs z).bind (fillK T fs l) else none
      | none => none
    | _, _ => none
def shape (T : Tab) (t : TypeId) (cs : List C) : Option V :=
  match T t with
  | some ⟨.struct _, _, _, _⟩ => some (.agg cs)
  | some _ => match cs with
    | [c] => some (.one c)
    | _ => none
  | none => none
def evConv (T : Tab) (src dst : TypeId) (a : V) (σ : St) (Q : V → St → Prop) : Prop :=
  match T src, T dst, a with
  | some ⟨.int _, _, _, _⟩, some ⟨.int k, _, _, _⟩, .one (.int _ n) => Q (.one (.int k (k.wrap n))) σ
  | some ⟨.str, _, _, _⟩, some ⟨.str, _, _, _⟩, .one (.str s) => Q (.one (.str s)) σ
  | some ⟨.str, _, _, _⟩, some ⟨.slice e (.int .u8), _, _, _⟩, .one (.str s) => s.size ≤ 140737488355328 ∧ newOb σ (.own e (.int .u8) (bytesOf s) false false) (fun i => .one (.own i)) Q
  | some ⟨.slice _ (.int .u8), _, _, _⟩, some ⟨.str, _, _, _⟩, .one c => slK σ (.int .u8) c fun xs => Q (.one (.str (strOfNums xs))) σ
  | some ⟨.slice _ (.int .u8), _, _, _⟩, some ⟨.slice _ _, _, _, _⟩, .one (.own i) => if src = dst then match nth σ.objs i with
      | some (.own e' (.int .u8) (x :: xs) true mv) => setOb σ i (.own e' (.int .u8) (x :: xs) false mv) fun σ' => Q (.one (.own i)) σ'
      | _ => False
    else False
  | _, _, _ => False
def evSlice (d : TD) (a : V) (lo hi mx : Option V) (σ : St) (Q : V → St → Prop) : Prop :=
  match d, a, mx with
  | .str, .one (.str s), none =>
    match hi with
    | none => match lo with
      | none => Q (.one (.str (s.extract 0 s.size))) σ
      | some (.one (.int _ l)) => (0 ≤ l ∧ l ≤ s.size) ∧ Q (.one (.str (s.extract l.toNat s.size))) σ
      | _ => False
    | some (.one (.int _ h)) => match lo with
      | none => (0 ≤ h ∧ h ≤ s.size) ∧ Q (.one (.str (s.extract 0 h.toNat))) σ
      | some (.one (.int _ l)) => (0 ≤ l ∧ l ≤ h ∧ h ≤ s.size) ∧ Q (.one (.str (s.extract l.toNat h.toNat))) σ
      | _ => False
    | _ => False
  | .slice _ te, .one (.sl t xs), none =>
    if te = t then
    match hi with
    | none => match lo with
      | some (.one (.int _ l)) => (0 ≤ l ∧ l ≤ xs.length) ∧ Q (.one (.sl t (xs.drop l.toNat))) σ
      | _ => False
    | some (.one (.int _ h)) => match lo with
      | none => (0 ≤ h ∧ h ≤ xs.length) ∧ Q (.one (.sl t (xs.take h.toNat))) σ
      | some (.one (.int _ l)) => (0 ≤ l ∧ l ≤ h ∧ h ≤ xs.length) ∧ Q (.one (.sl t ((xs.take h.toNat).drop l.toNat))) σ
      | _ => False
    | _ => False
    else False
  | _, _, _ => False
def killOwn (i : Nat) (σ : St) : St := σ.map (C.kill i)
def evAppend (T : Tab) (at_ : List TypeId) (s x : V) (σ : St) (Q : V → St → Prop) : Prop :=
  match at_ with
  | [ty, ty'] => match T ty with
    | some ⟨.slice e t, _, _, _⟩ =>
      let src (K : List t.den → Prop) : Prop := match T ty', x with
        | some ⟨.slice _ _, _, _, _⟩, .one c => if ty = ty' then slK σ t c K else False
        | _, _ => False
      match T e with
      | some te => src fun ys => match s with
        | .one .nil => ys.length * te.by_ ≤ 140737488355328 ∧ newOb σ (.own e t ys true false) (fun i => .one (.own i)) Q
        | .one (.own i) => match nth σ.objs i with
          | some (.own e' t' xs true _) => if h : e' = e ∧ t' = t then
              (xs.length + ys.length) * te.by_ ≤ 140737488355328 ∧ St.mkAll (killOwn i ⟨σ.tmps, setL σ.objs i (.own e t ((h.2 ▸ xs) ++ ys) true true)⟩) fun σ' => Q (.one (.own i)) σ'
            else False
          | _ => False
        | _ => False
      | none => False
    | _ => False
  | _ => False
def keepsO : Ob → Bool
  | .box _ _ => true | .own _ _ _ _ mv => !mv | .mset _ _ => true | .gone => false
def posOf (ids : List Nat) (n : Nat) (p : Nat) : Nat := match nth ids p with
  | some i => i
  | none => n + (p - len ids)
def mergeO : Ob → Ob → Ob
  | .gone, _ => .gone
  | .own _ _ _ _ m, .own e t xs a mv => .own e t xs a (m || mv)
  | _, o => o
def putObs : List Nat → List Ob → List Ob → List Ob
  | [], new, os => os ++ new
  | _ :: _, [], os => os
  | i :: ids, o :: new, os => putObs ids new (setL os i (mergeO ((nth os i).getD .gone) o))
def lost : List Nat → List Ob → List Nat
  | i :: ids, o :: os => bif keepsO o then lost ids os else i :: lost ids os
  | _, _ => []
def unmv : Ob → Ob
  | .own e t xs a _ => .own e t xs a false
  | o => o
def goV (ids : List Nat) (v : V) : V := (v.map (C.drop fun i => !memN i ids)).ren fun i => posN i ids
def goO (ids : List Nat) (o : Ob) : Ob := unmv ((o.map (C.drop fun i => !memN i ids)).ren fun i => posN i ids)
def backSt (ids : List Nat) (os : List Ob) (σ : St) : St :=
  let ls := lost ids os
  let σ1 := σ.map (C.drop fun i => memN i ls)
  ⟨σ1.tmps, putObs ids (os.map (Ob.ren (posOf ids (len σ.objs)))) σ1.objs⟩
def backK (ids : List Nat) (os : List Ob) (σ : St) (Q : St → Prop) : Prop :=
  mkNs (lost ids os) fun ls => (σ.map (C.drop fun i => memN i ls)).mkAll fun σ1 => mkObs (os.map (Ob.ren (posOf ids (len σ.objs)))) fun os' => mkObs (putObs ids os' σ1.objs) fun objs => Q ⟨σ1.tmps, objs⟩
theorem backK_iff (ids : List Nat) (os : List Ob) (σ : St) (Q : St → Prop) : backK ids os σ Q ↔ Q (backSt ids os σ) := by
  unfold backK
  rw [mkNs_iff, St.mkAll_iff, mkObs_iff, mkObs_iff]
  exact Iff.rfl
def movedO : Option Ob → Bool
  | some (.own _ _ _ _ true) => true
  | _ => false
def kindsO : List Nat → List Ob → List Ob → Bool
  | i :: ids, o :: new, os => match o with
    | .box _ _ => bif movedO (nth os i) then false else kindsO ids new os
    | .mset _ _ => bif movedO (nth os i) then false else kindsO ids new os
    | _ => kindsO ids new os
  | _, _, _ => true
def idsOf (σ : St) (args : List V) : List Nat := reach σ.objs (len σ.objs) (addN [] (args.flatMap V.ids))
def live (os : List Ob) : List Nat → Bool
  | [] => true
  | i :: l => match nth os i with
    | some .gone => false
    | none => false
    | _ => live os l
def evFrame (f : List Ob → List V → (List Ob → Out → Prop) → Prop) (args : List V) (σ : St) (Q : Out → St → Prop) : Prop :=
  mkVs args fun args => mkNs (args.flatMap V.ids) fun l => mkNs (addN [] l) fun l' => reachK σ.objs (len σ.objs) l' fun ids =>
    bif live σ.objs ids then
    mkObs (ids.map fun i => (nth σ.objs i).getD .gone) fun sub0 => mkObs (sub0.map (goO ids)) fun sub => mkVs (args.map (goV ids)) fun as_ =>
      f sub as_ fun os out =>
        bif kindsO ids os σ.objs then
        backK ids os σ fun σ2 => match out with
          | .ret v => (v.ren (posOf ids (len σ.objs))).mk fun v' => Q (.ret v') σ2
          | .pan c => Q (.pan c) σ2
        else False
    else False
def idsK (σ : St) (args : List V) (K : List V → List Nat → Prop) : Prop :=
  mkVs args fun as_ => mkNs (as_.flatMap V.ids) fun l => mkNs (addN [] l) fun l' => reachK σ.objs (len σ.objs) l' fun ids => K as_ ids
theorem idsK_iff (σ : St) (args : List V) (K : List V → List Nat → Prop) : idsK σ args K ↔ K args (idsOf σ args) := by
  rw [idsK, mkVs_iff, mkNs_iff, mkNs_iff, reachK_iff]; rfl
def evCall (Γ : Sems) (f : FuncId) (args : List V) (σ : St) (Q : Out → St → Prop) : Prop :=
  match Γ f with
  | none => False
  | some sem => evFrame sem.f args σ Q
def boxed (e : TypeId) (σ : St) (cs : List C) (Q : V → St → Prop) : Prop := newOb σ (.box e cs) (fun i => .one (.ref i 0)) Q
def evStore (T : Tab) (t : TypeId) (p : V) (x : V) (σ : St) (Q : St → Prop) : Prop :=
  match T t, x.cells with
  | some ti, some cs =>
    if len cs = ti.sz then
      match p with
      | .one (.ref i off) => match nth σ.objs i with
        | some (.box e l) => match over off cs l with
          | some l' => mkL l' fun l'' => setOb σ i (.box e l'') Q
          | none => False
        | _ => False
      | .one (.elt t0 i j off) => frzAll (owns cs) σ cs fun σ' cs' =>
        match nth σ'.objs i with
        | some (.own e te xs ap mv) => if te = t0 then match over off cs' (te.cs (rdx xs j te.dflt)) with
          | some l' => te.rd l' fun y r => match r with
            | [] => setOb σ' i (.own e te (xs.set j y) ap mv) Q
            | _ => False
          | none => False
          else False
        | _ => False
      | _ => False
    else False
  | _, _ => False
def rdW : V → Option (Option Bool × C)
  | .one c => some (none, c)
  | .wh g c => some (some g, c)
  | _ => none
def andO : Option Bool → Option Bool → Option Bool
  | none, g => g
  | some g, none => some g
  | some g, some g' => some (g && g')
def iteO (x : Bool) : Option Bool → Option Bool → Option Bool
  | none, none => none
  | a, b => some (bif x then a.getD true else b.getD true)
def pureBin (op : BinOp) (a b : C) : Option C :=
  match a, b with
  | .int k x, .int k' y =>
    if k = k' then
      match op with
      | .add => some (.int k (k.wrap (x + y)))
      | .sub => some (.int k (k.wrap (x - y)))
      | .mul => some (.int k (k.wrap (x * y)))
      | .eql => some (.bool (x == y))
      | .neq => some (.bool (x != y))
      | .lss => some (.bool (decide (x < y)))
      | .leq => some (.bool (decide (x ≤ y)))
      | .gtr => some (.bool (decide (x > y)))
      | .geq => some (.bool (decide (x ≥ y)))
      | _ => none
    else none
  | .str x, .str y =>
    match op with
    | .eql => some (.bool (x.toList == y.toList))
    | .neq => some (.bool (!(x.toList == y.toList)))
    | _ => none
  | _, _ => none
def pureOp (T : Tab) (o : Op) (σ : St) : Option (Option Bool × Option Prop × C) :=
  match o with
  | .move x | .assign x => match rdW (opdR σ x) with
    | some (g, c) => some (g, none, c)
    | none => none
  | .binOp op _ x y _ => match rdW (opdR σ x), rdW (opdR σ y) with
    | some (g, a), some (g', b) => match pureBin op a b with
      | some c => some (andO g g', none, c)
      | none => none
    | _, _ => none
  | .unOp .not _ x => match rdW (opdR σ x) with
    | some (g, .bool b) => some (g, none, .bool (!b))
    | _ => none
  | .pick c a b => match rdW (opdR σ c), rdW (opdR σ a), rdW (opdR σ b) with
    | some (g, .bool x), some (ga, .bool y), some (gb, .bool z) => some (andO g (iteO x ga gb), none, .bool (bif x then y else z))
    | _, _, _ => none
  | .index t x i => match T t, rdW (opdR σ x), rdW (opdR σ i) with
    | some ⟨.str, _, _, _⟩, some (g, .str s), some (g', .int _ n) => some (andO g g', some (0 ≤ n ∧ n < s.size), .int .u8 (bt s n))
    | _, _, _ => none
  | .call ⟨.builtin .len, args, tys⟩ => match tys.toList, args.toList with
    | [t], [x] => match T t, rdW (opdR σ x) with
      | some ⟨.str, _, _, _⟩, some (g, .str s) => some (g, none, .int .i64 (s.size : Int))
      | _, _ => none
    | _, _ => none
  | .convert s d x => match T s, T d, rdW (opdR σ x) with
    | some ⟨.int _, _, _, _⟩, some ⟨.int k, _, _, _⟩, some (g, .int _ n) => some (g, none, .int k (k.wrap n))
    | _, _, _ => none
  | _ => none
def owed (b : Bool) : Option Bool → Option Prop → Prop → Prop
  | none, none, K => K
  | some g, none, K => (b = true → g = true) ∧ K
  | none, some p, K => (b = true → p) ∧ K
  | some g, some p, K => (b = true → g = true ∧ p) ∧ K
def evAppendS (T : Tab) (at_ : List TypeId) (s : V) (y : ByteArray) (σ : St) (Q : V → St → Prop) : Prop :=
  match at_ with
  | [ty, ty'] => match T ty, T ty' with
    | some ⟨.slice e (.int .u8), _, _, _⟩, some ⟨.str, _, _, _⟩ => match T e with
      | some te => match s with
        | .one .nil => (te.by_ = 1 ∧ y.size ≤ 140737488355328) ∧ newOb σ (.own e (.int .u8) (bytesOf y) true false) (fun i => .one (.own i)) Q
        | .one (.own i) => match nth σ.objs i with
          | some (.own e' (.int .u8) xs true _) => if e' = e then
              (te.by_ = 1 ∧ xs.length + y.size ≤ 140737488355328) ∧ St.mkAll (killOwn i ⟨σ.tmps, setL σ.objs i (.own e (.int .u8) (xs ++ bytesOf y) true true)⟩) fun σ' => Q (.one (.own i)) σ'
            else False
          | _ => False
        | _ => False
      | none => False
    | _, _ => False
  | _ => False
def evApp (T : Tab) (at_ : List TypeId) (s x : V) (σ : St) (Q : V → St → Prop) : Prop :=
  match x with
  | .one (.str y) => evAppendS T at_ s y σ Q
  | x => evAppend T at_ s x σ Q
def Ty.eqb : (t : Ty) → t.den → t.den → Bool
  | .int _, x, y => (show Int from x) == (show Int from y)
  | .bool, x, y => (show Bool from x) == (show Bool from y)
  | .str, x, y => (show ByteArray from x).toList == (show ByteArray from y).toList
  | .slice _ _, _, _ => false
  | .pair a b, x, y => a.eqb x.1 y.1 && b.eqb x.2 y.2
def memT (t : Ty) (y : t.den) : List t.den → Bool
  | [] => false
  | x :: l => t.eqb y x || memT t y l
def addT (t : Ty) (y : t.den) (l : List t.den) : List t.den := bif memT t y l then l else l ++ [y]
def Ty.plainB : Ty → Bool
  | .slice _ _ => false
  | .pair a b => a.plainB && b.plainB
  | _ => true
def KeyEq (T : Tab) (k : TypeId) (kt : Ty) : Prop := ∀ x y : kt.den, eqC T 9 k (kt.cs x) (kt.cs y) = some (kt.eqb x y)
def keyShape : Ty → V → Bool
  | .pair _ _, .agg _ => true
  | .pair _ _, _ => false
  | _, .one _ => true
  | _, _ => false
def keyK (T : Tab) (t : TypeId) (m x : V) (σ : St) (Q : Nat → (kt : Ty) → kt.den → List kt.den → Prop) : Prop :=
  match T t, m, x.cells with
  | some ⟨.map k kt _, _, _, _⟩, .one (.mp i), some cs => match nth σ.objs i with
    | some (.mset kt' ks) => if h : kt' = kt then bif keyShape kt x then kt.rd cs fun y r => match r with
          | [] => KeyEq T k kt ∧ Q i kt y (h ▸ ks)
          | _ => False
        else False
      else False
    | _ => False
  | _, _, _ => False
def nilEq (op : BinOp) (ne : Bool) (Q : V → Prop) : Prop := Br ne (eqO op false Q) (Both (eqO op true Q) (eqO op false Q))
def nonE {α : Type} : List α → Bool
  | [] => false
  | _ :: _ => true
def refsK (σ : St) : List Operand → (List Nat → Prop) → Prop
  | [], Q => Q []
  | x :: l, Q => match opd σ x with
    | .one (.ref i 0) => refsK σ l fun l' => Q (i :: l')
    | _ => False
def evOp (T : Tab) (Γ : Sems) (o : Op) (σ : St) (Q : V → St → Prop) (X : Ex → St → Prop) : Prop :=
  match o with
  | .move x | .assign x => Q (opdR σ x) σ
  | .pick c a b => match opd σ c with
    | .one (.bool g) => match rdW (opdR σ a), rdW (opdR σ b) with
      | some (ga, .bool x), some (gb, .bool y) => owed true (iteO g ga gb) none (Q (.one (.bool (bif g then x else y))) σ)
      | _, _ => Br g (Q (opd σ a) σ) (Q (opd σ b) σ)
    | _ => False
  | .alloc e => match T e with
    | some ti => boxed e σ ti.zero Q
    | none => False
  | .box e x => match T e, (opd σ x).cells with
    | some ti, some cs => if len cs = ti.sz then boxed e σ cs Q else False
    | _, _ => False
  | .build t ps => match T t with
    | some ⟨.struct fs, _, _, z⟩ => match fillK T fs (ps.toList.map fun p => (p.1, opd σ p.2)) z with
      | some cs => mkL cs fun cs' => Q (.agg cs') σ
      | none => False
    | _ => False
  | .buildSlice t n ps => match T t with
    | some ⟨.slice e te, _, _, _⟩ =>
      if isUpto 0 ps.toList = true ∧ len ps.toList = n ∧ n * te.sz ≤ 16777216 then
        frzAll (owns (ps.toList.flatMap fun p => ((opd σ p.2).cells).getD [])) σ [] fun σ' _ =>
          elems te (partsV σ' ps.toList) fun xs => newOb σ' (.own e te xs true false) (fun i => .one (.own i)) Q
      else False
    | _ => False
  | .load t p => match T t, opd σ p with
    | some ti, .one c => match cellsAt σ c ti.sz with
      | some cs => mkCs cs fun cs' => match shape T t cs' with
        | some v => Q v σ
        | none => False
      | none => False
    | _, _ => False
  | .store t p x => evStore T t (opd σ p) (opd σ x) σ fun σ' => Q (.one .top) σ'
  | .binOp op t x y _ => match T t, y with
    | some ⟨.slice _ _, _, _, _⟩, .const (.slice none 0 0) => match opd σ x with
      | .one .nil => eqO op true fun v => Q v σ
      | .one (.sl _ xs) => nilEq op (nonE xs) fun v => Q v σ
      | .one (.own i) => match nth σ.objs i with
        | some (.own _ _ xs _ _) => nilEq op (nonE xs) fun v => Q v σ
        | _ => False
      | _ => False
    | _, _ => evBin2 T op t y (opd σ x) (opd σ y) fun v => Q v σ
  | .unOp op _ x => evUn op (opd σ x) fun v => Q v σ
  | .convert s d x => evConv T s d (opd σ x) σ Q
  | .makeSlice t n c => match T t, opd σ n, opd σ c with
    | some ⟨.slice e te, _, _, _⟩, .one (.int .i64 m), .one (.int .i64 m') => match T e with
      | some ti => (m = m' ∧ 0 ≤ m ∧ m * ti.by_ ≤ 140737488355328) ∧ newOb σ (.own e te (List.replicate m.toNat te.dflt) true false) (fun i => .one (.own i)) Q
      | none => False
    | _, _, _ => False
  | .slice t x lo hi mx => match T t with
    | some ti => match opd σ x with
      | .one (.own i) => (frz1 σ i).mkAll fun σ' => evSlice ti.d (opd σ' x) (lo.map (opd σ')) (hi.map (opd σ')) (mx.map (opd σ')) σ' Q
      | v => evSlice ti.d v (lo.map (opd σ)) (hi.map (opd σ)) (mx.map (opd σ)) σ Q
    | none => False
  | .fieldAddr s p f => match T s with
    | some ⟨.struct fs, _, _, _⟩ => match nth fs f, opd σ p with
      | some (off, _), .one (.ref i o) => Q (.one (.ref i (o + off))) σ
      | some (off, _), .one (.elt t i j o) => Q (.one (.elt t i j (o + off))) σ
      | some (off, _), .one (.ielt t x o) => Q (.one (.ielt t x (o + off))) σ
      | _, _ => False
    | _ => False
  | .field s x f => match T s with
    | some ⟨.struct fs, _, _, _⟩ => match nth fs f, opd σ x with
      | some (off, t), .agg l => match T t with
        | some ti => match sub off ti.sz l with
          | some cs => mkCs cs fun cs' => match shape T t cs' with
            | some v => Q v σ
            | none => False
          | none => False
        | none => False
      | _, _ => False
    | _ => False
  | .indexAddr t x i => match T t, opd σ i with
    | some ⟨.slice _ ty, _, _, _⟩, .one (.int _ n) => match opd σ x with
      | .one (.sl te xs) => if te = ty then (0 ≤ n ∧ n < xs.length) ∧ Q (.one (.ielt te (rdx xs n.toNat te.dflt) 0)) σ else False
      | .one (.own j) => match nth σ.objs j with
        | some (.own _ te xs _ _) => if te = ty then (0 ≤ n ∧ n < xs.length) ∧ Q (.one (.elt te j n.toNat 0)) σ else False
        | _ => False
      | _ => False
    | _, _ => False
  | .index t x i => match T t, opd σ x, opd σ i with
    | some ⟨.str, _, _, _⟩, .one (.str s), .one (.int _ n) => (0 ≤ n ∧ n < s.size) ∧ Q (.one (.int .u8 (bt s n))) σ
    | _, _, _ => False
  | .extract x i => match opd σ x with
    | .tup l => match nth l i with
      | some (.one c) => Q (.one c) σ
      | some (.agg cs) => Q (.agg cs) σ
      | none => False
    | _ => False
  | .makeInterface t x => match T t, opd σ x with
    | some ⟨.struct _, _, _, _⟩, .agg [.int k n] => Q (.one (.ifa t k n)) σ
    | _, _ => False
  | .makeFunc (.func f) first caps => match first.toList with
    | [] => refsK σ caps.toList fun l => Q (.one (.fn f l)) σ
    | _ => False
  | .makeMap t none => match T t with
    | some ⟨.map _ kt _, _, _, _⟩ => newOb σ (.mset kt []) (fun i => .one (.mp i)) Q
    | _ => False
  | .lookup t m x false => keyK T t (opd σ m) (opd σ x) σ fun _ kt y ks => Q (.one (.bool (memT kt y ks))) σ
  | .mapUpdate t m x v => match opd σ v with
    | .one (.bool true) => keyK T t (opd σ m) (opd σ x) σ fun i kt y ks => setOb σ i (.mset kt (addT kt y ks)) fun σ' => Q (.one .top) σ'
    | _ => False
  | .nilCheck x => match opd σ x with
    | .one (.ref i o) => Q (.one (.ref i o)) σ
    | .one (.elt t i j o) => Q (.one (.elt t i j o)) σ
    | .one (.ielt t x o) => Q (.one (.ielt t x o)) σ
    | _ => False
  | .panic x => match opd σ x with
    | .one (.ifa t k n) => X (.panic (.ifa t k n)) σ
    | _ => False
  | .call c => match c.callee with
    | .value (.func f) => evCall Γ f (c.args.toList.map (opd σ)) σ fun out σ' => match out with
      | .ret v => Q v σ'
      | .pan p => X (.panic p) σ'
    | .value (.tmp t) => match opd σ (.tmp t) with
      | .one (.fn f l) => evCall Γ f (c.args.toList.map (opd σ) ++ l.map fun i => .one (.ref i 0)) σ fun out σ' => match out with
        | .ret v => Q v σ'
        | .pan p => X (.panic p) σ'
      | _ => False
    | .builtin .len => match c.argTypes.toList, c.args.toList with
      | [t], [x] => match T t, opd σ x with
        | some ⟨.str, _, _, _⟩, .one (.str s) => Q (.one (.int .i64 (s.size : Int))) σ
        | some ⟨.slice _ te, _, _, _⟩, .one c => slK σ te c fun xs => Q (.one (.int .i64 (xs.length : Int))) σ
        | some ⟨.map _ _ _, _, _, _⟩, .one (.mp i) => match nth σ.objs i with
          | some (.mset _ ks) => Q (.one (.int .i64 (ks.length : Int))) σ
          | _ => False
        | _, _ => False
      | _, _ => False
    | .builtin .append => match c.args.toList with
      | [s, x] => evApp T c.argTypes.toList (opd σ s) (opd σ x) σ Q
      | _ => False
    | .builtin .min => match c.args.toList with
      | [x, y] => match opd σ x, opd σ y with
        | .one (.int k n), .one (.int k' m) => if k = k' then Q (.one (.int k (if m < n then m else n))) σ else False
        | _, _ => False
      | _ => False
    | _ => False
  | _ => False
def guardV (ops : List Oper) (σ : St) (j : Nat) (want : Bool) : Option Bool :=
  match nth ops j with
  | some o => match o.dst with
    | some t => match nth σ.tmps t with
      | some (.one (.bool b)) => match want with
        | true => some b
        | false => some (!b)
      | some (.wh g (.bool b)) => match want with
        | true => some (g && b)
        | false => some (g && !b)
      | _ => none
    | none => none
  | none => none
def guardK (ops : List Oper) (σ : St) (g : Option (Nat × Bool)) (yes no : Prop) : Prop :=
  match g with
  | none => yes
  | some (j, want) => match guardV ops σ j want with
    | some b => Br b yes no
    | none => False
def evOps (T : Tab) (Γ : Sems) (ops : List Oper) : List Oper → St → (Ex → St → Prop) → Prop
  | [], σ, Q => Q .normal σ
  | o :: rest, σ, Q =>
    match o.guard, pureOp T o.op σ with
    | some (j, want), some (g1, p, c) => match guardV ops σ j want with
      | some b => owed b g1 p (putK σ o.dst (.wh b c) fun σ' => evOps T Γ ops rest σ' Q)
      | none => False
    | _, _ =>
      guardK ops σ o.guard
        (evOp T Γ o.op σ (fun v σ' => putK σ' o.dst v fun σ'' => evOps T Γ ops rest σ'' Q) Q)
        (putK σ o.dst (.wh false (.bool false)) fun σ' => evOps T Γ ops rest σ' Q)
def qBin (op : BinOp) (a b : C) : Option (Prop × C) :=
  match op, a, b with
  | .add, .str x, .str y => some (x.size + y.size ≤ 9223372036854775807, .str (x ++ y))
  | op, a, b => (pureBin op a b).map fun c => (True, c)
def qOp (T : Tab) (o : Op) (σ : St) : Option (Prop × V) :=
  match o with
  | .move x | .assign x => some (True, opdR σ x)
  | .pick c a b => match opd σ c, opd σ a, opd σ b with
    | .one (.bool g), .one (.bool x), .one (.bool y) => some (True, .one (.bool (bif g then x else y)))
    | _, _, _ => match pureOp T (.pick c a b) σ with
      | some (g, none, x) => some (g.getD true = true, .one x)
      | _ => none
  | .binOp op t x y _ => match opd σ x, opd σ y with
    | .one (.bool a), .one (.bool b) => match T t with
      | some ⟨.bool, _, _, _⟩ => match op with
        | .eql => some (True, .one (.bool (a == b)))
        | .neq => some (True, .one (.bool (!(a == b))))
        | _ => none
      | _ => none
    | .one a, .one b => (qBin op a b).map fun c => (c.1, .one c.2)
    | .agg l, .agg l' => match T t with
      | some ⟨.struct _, _, _, _⟩ => match eqC T 9 t l l', op with
        | some r, .eql => some (True, .one (.bool r))
        | some r, .neq => some (True, .one (.bool (!r)))
        | _, _ => none
      | _ => none
    | _, _ => none
  | .unOp .not _ x => match opd σ x with
    | .one (.bool b) => some (True, .one (.bool (!b)))
    | _ => none
  | .load t p => match T t, opd σ p with
    | some ti, .one c => (cellsAt σ c ti.sz).bind fun cs => (shape T t cs).map fun v => (True, v)
    | _, _ => none
  | .fieldAddr s p f => match T s with
    | some ⟨.struct fs, _, _, _⟩ => match nth fs f, opd σ p with
      | some (off, _), .one (.ref i o) => some (True, .one (.ref i (o + off)))
      | some (off, _), .one (.elt t i j o) => some (True, .one (.elt t i j (o + off)))
      | some (off, _), .one (.ielt t x o) => some (True, .one (.ielt t x (o + off)))
      | _, _ => none
    | _ => none
  | .indexAddr t x i => match T t, opd σ i with
    | some ⟨.slice _ ty, _, _, _⟩, .one (.int _ n) => match opd σ x with
      | .one (.sl te xs) => if te = ty then some (0 ≤ n ∧ n < xs.length, .one (.ielt te (rdx xs n.toNat te.dflt) 0)) else none
      | .one (.own j) => match nth σ.objs j with
        | some (.own _ te xs _ _) => if te = ty then some (0 ≤ n ∧ n < xs.length, .one (.elt te j n.toNat 0)) else none
        | _ => none
      | _ => none
    | _, _ => none
  | .index t x i => match T t, opd σ x, opd σ i with
    | some ⟨.str, _, _, _⟩, .one (.str s), .one (.int _ n) => some (0 ≤ n ∧ n < s.size, .one (.int .u8 (bt s n)))
    | _, _, _ => none
  | .build t ps => match T t with
    | some ⟨.struct fs, _, _, z⟩ => (fillK T fs (ps.toList.map fun p => (p.1, opd σ p.2)) z).map fun cs => (True, .agg cs)
    | _ => none
  | .call ⟨.builtin .len, args, tys⟩ => match tys.toList, args.toList with
    | [t], [x] => match T t, opd σ x with
      | some ⟨.str, _, _, _⟩, .one (.str s) => some (True, .one (.int .i64 (s.size : Int)))
      | some ⟨.slice _ _, _, _, _⟩, .one (.sl _ xs) => some (True, .one (.int .i64 (xs.length : Int)))
      | some ⟨.slice _ _, _, _, _⟩, .one (.own j) => match nth σ.objs j with
        | some (.own _ _ xs _ _) => some (True, .one (.int .i64 (xs.length : Int)))
        | _ => none
      | some ⟨.slice _ _, _, _, _⟩, .one .nil => some (True, .one (.int .i64 0))
      | _, _ => none
    | _, _ => none
  | .convert s d x => match pureOp T (.convert s d x) σ with
    | some (g, none, x) => some (g.getD true = true, .one x)
    | _ => none
  | .nilCheck x => match opd σ x with
    | .one (.ref i o) => some (True, .one (.ref i o))
    | .one (.elt t i j o) => some (True, .one (.elt t i j o))
    | .one (.ielt t x o) => some (True, .one (.ielt t x o))
    | _ => none
  | .extract x i => match opd σ x with
    | .tup l => match nth l i with
      | some (.one c) => some (True, .one c)
      | some (.agg l) => some (True, .agg l)
      | none => none
    | _ => none
  | _ => none
def C.mem : C → Bool
  | .sl _ _ => true | .ielt _ _ _ => true | _ => false
def V.mem : V → Bool
  | .one c => c.mem | .wh _ c => c.mem | _ => false
def oldSrc (n0 : Nat) (dirty nw no : List Nat) (o : Op) (σ : St) : Bool :=
  match o with
  | .move (.tmp j) => !memN j nw
  | .indexAddr _ (.tmp j) _ => !memN j nw
  | .fieldAddr _ (.tmp j) _ => !memN j nw
  | .load _ p => match opd σ p with
    | .one (.ref i _) => Nat.blt i n0 && (!memN i dirty && !memN i no)
    | _ => false
  | _ => false
def newK (n0 : Nat) (dirty : List Nat) (ph : Bool) (nw no : List Nat) (o : Oper) (σ σ' : St) (K : List Nat → Prop) : Prop :=
  match o.dst with
  | none => K nw
  | some d => match nth σ'.tmps d with
    | some x => bif x.mem then bif ph then K nw else bif oldSrc n0 dirty nw no o.op σ then K nw else K (d :: nw) else K nw
    | none => K nw
def rdOk (n0 : Nat) (dirty : List Nat) (ph : Bool) (nw : List Nat) (p : Operand) : C → Bool
  | .ref i _ => Nat.blt i n0 && !memN i dirty
  | .elt _ i _ _ => Nat.blt i n0 && !memN i dirty
  | .ielt _ _ _ => bif ph then true else match p with
    | .tmp k => !memN k nw
    | _ => false
  | _ => false
def readOk (n0 : Nat) (dirty : List Nat) (ph : Bool) (nw : List Nat) (o : Op) (σ : St) : Bool :=
  match o with
  | .load _ p => match opd σ p with
    | .one c => rdOk n0 dirty ph nw p c
    | _ => false
  | _ => true
def evTake (T : Tab) (l : List Oper) (n0 : Nat) (dirty : List Nat) (ph : Bool) (nw : List Nat) (o : Oper) (σ : St) (K : St → Prop) : Prop :=
  match o.guard, pureOp T o.op σ with
  | some (j, want), some (g1, p, c) => match guardV l σ j want with
    | some b => owed b g1 p (putK σ o.dst (.wh b c) K)
    | none => False
  | _, _ => match qOp T o.op σ with
    | some (p, x) => bif readOk n0 dirty ph nw o.op σ then guardK l σ o.guard (p ∧ putK σ o.dst x K) (putK σ o.dst (.wh false (.bool false)) K) else guardK l σ o.guard False (putK σ o.dst (.wh false (.bool false)) K)
    | none => guardK l σ o.guard False (putK σ o.dst (.wh false (.bool false)) K)
def idxPs : Nat → List (Nat × Operand) → List (Nat × Operand)
  | _, [] => []
  | k, (i, _) :: l => (i, .tmp k) :: idxPs (k + 1) l
def onTmps : Op → Option (List Operand × Op)
  | .alloc e => some ([], .alloc e)
  | .box e x => some ([x], .box e (.tmp 0))
  | .buildSlice t n ps => some (ps.toList.map (·.2), .buildSlice t n (idxPs 0 ps.toList).toArray)
  | .store t p x => some ([p, x], .store t (.tmp 0) (.tmp 1))
  | .convert s d x => some ([x], .convert s d (.tmp 0))
  | .makeSlice t n c => some ([n, c], .makeSlice t (.tmp 0) (.tmp 1))
  | .extract x i => some ([x], .extract (.tmp 0) i)
  | .slice t x lo hi mx => some ([x, lo.getD x, hi.getD x, mx.getD x], .slice t (.tmp 0) (lo.map fun _ => .tmp 1) (hi.map fun _ => .tmp 2) (mx.map fun _ => .tmp 3))
  | .call ⟨.builtin .append, args, ts⟩ => match args.toList with
    | [s, x] => some ([s, x], .call ⟨.builtin .append, #[.tmp 0, .tmp 1], ts⟩)
    | _ => none
  | .call ⟨.builtin .min, args, ts⟩ => match args.toList with
    | [s, x] => some ([s, x], .call ⟨.builtin .min, #[.tmp 0, .tmp 1], ts⟩)
    | _ => none
  | _ => none
def opSense (T : Tab) (o : Op) (os : List Ob) (as_ : List V) (K : List Ob → Out → Prop) : Prop :=
  evOp T (fun _ => none) o ⟨as_ ++ [.one .top], os⟩ (fun v σ => σ.mkAll fun σ' => K σ'.objs (.ret v)) (fun _ _ => False)
def idsOk (n0 : Nat) (dirty : List Nat) : List Nat → Bool
  | [] => true
  | i :: l => (!(Nat.blt i n0) || memN i dirty) && idsOk n0 dirty l
def roF (Γ : Sems) (f : FuncId) : Bool := match Γ f with
  | some s => s.ro
  | none => false
def keepN : Nat → List Ob → Bool
  | 0, _ => true
  | n + 1, o :: l => bif keepsO o then keepN n l else false
  | _ + 1, [] => false
def evCallK (Γ : Sems) (f : FuncId) (args : List V) (σ : St) (Q : Out → St → Prop) : Prop :=
  match Γ f with
  | none => False
  | some sem => evFrame (fun os as_ K => sem.f os as_ fun os' out => bif keepN (len os) os' then K os' out else False) args σ Q
def evAct (T : Tab) (Γ : Sems) (l : List Oper) (n0 : Nat) (dirty no : List Nat) (o : Oper) (σ : St) (K : List Nat → St → Prop) (Q : Ex → St → Prop) : Prop :=
  match o.op with
  | .call ⟨.value (.func f), args, ts⟩ => idsK σ (args.toList.map (opd σ)) fun as_ ids => bif idsOk n0 dirty ids then
      guardK l σ o.guard (evCall Γ f as_ σ fun out σ' => match out with
        | .ret v => putK σ' o.dst v (K no)
        | .pan p => Q (.panic p) σ') (putK σ o.dst (.wh false (.bool false)) (K no))
    else bif roF Γ f then
      guardK l σ o.guard (evCallK Γ f as_ σ fun out σ' => match out with
        | .ret v => mkNs (ids ++ no) fun no' => putK σ' o.dst v (K no')
        | .pan _ => False) (putK σ o.dst (.wh false (.bool false)) (K no))
    else False
  | op => match qOp T op σ with
    | some (p, x) => guardK l σ o.guard (p ∧ putK σ o.dst x (K no)) (putK σ o.dst (.wh false (.bool false)) (K no))
    | none => match onTmps op with
      | some (xs, op') => idsK σ (xs.map (opd σ)) fun as_ ids => bif idsOk n0 dirty ids then
          guardK l σ o.guard (evFrame (opSense T op') as_ σ fun out σ' => match out with
            | .ret v => putK σ' o.dst v (K no)
            | .pan _ => False) (putK σ o.dst (.wh false (.bool false)) (K no))
        else False
      | none => False
inductive Pl where
  | done
  | take (i : Nat) (p : Pl)
  | br (i : Nat) (p q : Pl)
  | nil
  | rest (n : Nat)
def Pl.cut : Pl → Option Nat
  | .rest n => some n
  | .take _ p => p.cut
  | .br _ p _ => p.cut
  | _ => none
def Pl.heads : Pl → List Nat
  | .br i _ q => i :: q.heads
  | _ => []
def planOK (ops : Array Oper) : Pl → Nat → Array Bool → Bool → Bool
  | .done, _, ls, _ => (Region.ready .any ops ls).isEmpty
  | .take i p, n + 1, ls, _ => Region.free .any ops ls i && (Region.ready .any ops ls).contains i && planOK ops p n (ls.setIfInBounds i true) true
  | .br i p q, n + 1, ls, top => (!top || Region.ready .any ops ls == i :: q.heads) && planOK ops p n (ls.setIfInBounds i true) true && planOK ops q (n + 1) ls false
  | .nil, _, _, top => !top
  | .rest _, _, ls, _ => (Region.ready .any ops ls).isEmpty
  | _, _, _, _ => false
def headB (ops : Array Oper) (n : Nat) : Bool :=
  (List.range n).all fun i => match ops[i]? with
    | some o => (o.after.toList.all fun e => decide (e.on < i)) && (match o.guard with
      | some (j, _) => decide (j < n)
      | none => true)
    | none => false
def cutOK (ops : Array Oper) (n : Nat) : Bool :=
  decide (n < ops.size) && (headB ops n && ((Region.sinkB .any ops n && Region.chainB .any ops n) && (Region.noSelect (ops.extract 0 n) && Region.seqB .any ops (ops.size - n) n (Array.replicate n true ++ Array.replicate (ops.size - n) false))))
def planB (ops : Array Oper) (pl : Pl) : Bool := match pl.cut with
  | none => planOK ops pl ops.size (Array.replicate ops.size false) true
  | some n => cutOK ops n && planOK (ops.extract 0 n) pl n (Array.replicate n false) true
def evPlan (T : Tab) (Γ : Sems) (l : List Oper) (n0 : Nat) (dirty : List Nat) : Pl → Bool → List Nat → List Nat → St → (Ex → St → Prop) → Prop
  | .done, _, _, _, σ, Q => Q .normal σ
  | .take i p, ph, nw, no, σ, Q => match nth l i with
    | some o => evTake T l n0 dirty ph nw o σ fun σ' => newK n0 dirty ph nw no o σ σ' fun nw' => evPlan T Γ l n0 dirty p ph nw' no σ' Q
    | none => False
  | .br i p .nil, ph, nw, no, σ, Q => match nth l i with
    | some o => evAct T Γ l n0 dirty no o σ (fun no' σ' => newK n0 dirty false nw no o σ σ' fun nw' => evPlan T Γ l n0 dirty p false nw' no' σ' Q) Q
    | none => False
  | .br i p q, ph, nw, no, σ, Q => Both (match nth l i with
    | some o => evAct T Γ l n0 dirty no o σ (fun no' σ' => newK n0 dirty false nw no o σ σ' fun nw' => evPlan T Γ l n0 dirty p false nw' no' σ' Q) Q
    | none => False) (evPlan T Γ l n0 dirty q ph nw no σ Q)
  | .nil, _, _, _, _, _ => True
  | .rest _, _, _, _, σ, Q => Q .normal σ
def evReg (T : Tab) (Γ : Sems) (l : List Oper) (n0 : Nat) (dirty : List Nat) (pl : Pl) (σ : St) (Q : Ex → St → Prop) : Prop := match pl.cut with
  | none => evPlan T Γ l n0 dirty pl true [] [] σ Q
  | some n => evPlan T Γ (l.take n) n0 dirty pl true [] [] σ fun e σ' => match e with
    | .normal => evOps T Γ l (l.drop n) σ' Q
    | e => Q e σ'
def firstRegion : Code → Option Nat
  | .region id _ _ => some id
  | .seq a b => (firstRegion a).or (firstRegion b)
  | .block _ c => firstRegion c
  | .loop c => firstRegion c
  | _ => none
structure Okd (b : Bool) : Prop where
  h : b = true
def evIter (f : St → (Ex → St → Prop) → Prop) (g : St → (St → Prop) → Prop) : Nat → St → (Ex → St → Prop) → Prop
  | 0, _, _ => False
  | n + 1, σ, Q => f σ fun e σ' => match e with
    | .normal => g σ' fun σ'' => evIter f g n σ'' Q
    | e => Q e σ'
def evCode (T : Tab) (Γ : Sems) (L : Nat → List Nat) (m : Nat) : Code → St → (Ex → St → Prop) → Prop
  | .skip, σ, Q => Q .normal σ
  | .region _ ops draw, σ, Q => bif draw then (∃ dirty pl, Okd (Region.noSelect ops && planB ops pl) ∧ evReg T Γ ops.toList (len σ.objs) dirty pl σ Q) else evOps T Γ ops.toList ops.toList σ Q
  | .seq a b, σ, Q => evCode T Γ L m a σ fun e σ' => match e with
    | .normal => evCode T Γ L m b σ' Q
    | e => Q e σ'
  | .cond c a b, σ, Q => match opd σ c with
    | .one (.bool g) => Br g (evCode T Γ L m a σ Q) (evCode T Γ L m b σ Q)
    | _ => False
  | .block id a, σ, Q => evCode T Γ L m a σ fun e σ' => match e with
    | .exit i => if i = id then Q .normal σ' else Q (.exit i) σ'
    | e => Q e σ'
  | .loop a, σ, Q => gc m (L ((firstRegion a).getD 0)) σ fun σ' => ∃ n, evIter (evCode T Γ L m a) (gc m (L ((firstRegion a).getD 0))) n σ' Q
  | .exit id, σ, Q => Q (.exit id) σ
  | .ret, σ, Q => Q .ret σ
  | _, _, _ => False
def tops : Nat → List V
  | 0 => []
  | n + 1 => .one .top :: tops n
def padT (n : Nat) (as_ : List V) : List V := as_ ++ tops (n - len as_)
def resK (T : Tab) (σ : St) : List ResultVar → (List E → Prop) → Prop
  | [], Q => Q []
  | .tmp t :: l, Q => match nth σ.tmps t with
    | some (.one c) => resK T σ l fun r => Q (.one c :: r)
    | some (.agg cs) => resK T σ l fun r => Q (.agg cs :: r)
    | _ => False
  | .cell a t :: l, Q => match nth σ.tmps a with
    | some (.one c) => match T t with
      | some ti => match cellsAt σ c ti.sz with
        | some cs => mkCs cs fun cs' => match shape T t cs' with
          | some (.one c) => resK T σ l fun r => Q (.one c :: r)
          | some (.agg cs) => resK T σ l fun r => Q (.agg cs :: r)
          | _ => False
        | none => False
      | none => False
    | _ => False
def outOf : List E → V
  | [.one c] => .one c
  | [.agg l] => .agg l
  | l => .tup l
def evFn (T : Tab) (Γ : Sems) (L : Nat → List Nat) (fn : Func) (os : List Ob) (as_ : List V) (Q : List Ob → Out → Prop) : Prop :=
  match fn.body with
  | none => False
  | some c => evCode T Γ L (len os) c ⟨padT fn.ntmps as_, os⟩ fun e σ => match e with
    | .normal | .ret => resK T σ fn.results.toList fun r => gc (len os) [0] ⟨[outOf r], σ.objs⟩ fun σ' => match σ'.tmps with
      | [v] => Q σ'.objs (.ret v)
      | _ => False
    | .panic p => gc (len os) [] ⟨[], σ.objs⟩ fun σ' => Q σ'.objs (.pan p)
    | .exit _ => False
end Go.Proofs.YtilagaapfbfkkaaGreatDoor.Ab
namespace Go.Proofs.YtilagaapfbfkkaaGreatDoor.Ab
open Go Go.RowKit Go.Proofs.YtilagaapfbfkkaaGreatDoorW.PrintWords
def All2 {α β : Type} (R : α → β → Prop) : List α → List β → Prop
  | [], [] => True
  | x :: l, y :: m => R x y ∧ All2 R l m
  | _, _ => False
theorem All2.length {α β : Type} {R : α → β → Prop} : ∀ {l : List α} {m : List β}, All2 R l m → l.length = m.length
  | [], [], _ => rfl
  | _ :: _, _ :: _, h => by simp [All2.length h.2]
  | [], _ :: _, h => h.elim
  | _ :: _, [], h => h.elim
theorem All2.imp {α β : Type} {R R' : α → β → Prop} : ∀ {l : List α} {m : List β}, (∀ x ∈ l, ∀ y, R x y → R' x y) → All2 R l m → All2 R' l m
  | [], [], _, _ => trivial
  | x :: l, y :: m, h, k => ⟨h x (by simp) y k.1, All2.imp (fun z hz => h z (by simp [hz])) k.2⟩
  | [], _ :: _, _, h => h.elim
  | _ :: _, [], _, h => h.elim
theorem All2.get {α β : Type} {R : α → β → Prop} : ∀ {l : List α} {m : List β}, All2 R l m → ∀ {i : Nat} {x : α}, l[i]? = some x → ∃ y, m[i]? = some y ∧ R x y
  | x :: _, y :: _, h, 0, z, hz => by simp at hz; subst hz; exact ⟨y, rfl, h.1⟩
  | _ :: _, _ :: _, h, i + 1, z, hz => by simpa using All2.get h.2 (i := i) (x := z) (by simpa using hz)
  | [], [], _, _, _, hz => by simp at hz
  | [], _ :: _, h, _, _, _ => h.elim
  | _ :: _, [], h, _, _, _ => h.elim
theorem All2.get' {α β : Type} {R : α → β → Prop} : ∀ {l : List α} {m : List β}, All2 R l m → ∀ {i : Nat} {y : β}, m[i]? = some y → ∃ x, l[i]? = some x ∧ R x y
  | x :: _, y :: _, h, 0, z, hz => by simp at hz; subst hz; exact ⟨x, rfl, h.1⟩
  | _ :: _, _ :: _, h, i + 1, z, hz => by simpa using All2.get' h.2 (i := i) (y := z) (by simpa using hz)
  | [], [], _, _, _, hz => by simp at hz
  | [], _ :: _, h, _, _, _ => h.elim
  | _ :: _, [], h, _, _, _ => h.elim
theorem All2.append {α β : Type} {R : α → β → Prop} : ∀ {l : List α} {m : List β} {l' : List α} {m' : List β}, All2 R l m → All2 R l' m' → All2 R (l ++ l') (m ++ m')
  | [], [], _, _, _, k => k
  | _ :: _, _ :: _, _, _, h, k => ⟨h.1, All2.append h.2 k⟩
  | [], _ :: _, _, _, h, _ => h.elim
  | _ :: _, [], _, _, h, _ => h.elim
theorem All2.map {α β γ : Type} {R : α → β → Prop} {f : γ → α} : ∀ {l : List γ} {m : List β}, All2 (fun x y => R (f x) y) l m → All2 R (l.map f) m
  | [], [], _ => trivial
  | _ :: _, _ :: _, h => ⟨h.1, All2.map h.2⟩
  | [], _ :: _, h => h.elim
  | _ :: _, [], h => h.elim
theorem All2.mem {α β : Type} {R : α → β → Prop} {l : List α} {m : List β} (h : All2 R l m) {y : β} (hy : y ∈ m) : ∃ x ∈ l, R x y := by
  obtain ⟨i, hi, rfl⟩ := List.getElem_of_mem hy
  obtain ⟨x, hx, hr⟩ := h.get' (List.getElem?_eq_getElem hi)
  exact ⟨x, List.mem_of_getElem? hx, hr⟩
theorem All2.cons_inv {α β : Type} {R : α → β → Prop} {x : α} {l : List α} {m : List β} (h : All2 R (x :: l) m) : ∃ y m', m = y :: m' ∧ R x y ∧ All2 R l m' := by
  cases m with
  | nil => exact h.elim
  | cons y m' => exact ⟨y, m', rfl, h.1, h.2⟩
theorem All2.nil_inv {α β : Type} {R : α → β → Prop} {m : List β} (h : All2 R ([] : List α) m) : m = [] := by
  cases m with
  | nil => rfl
  | cons y m' => exact h.elim
theorem sub_all {α β : Type} {R : α → β → Prop} : ∀ {o n : Nat} {l r : List α} {m : List β}, All2 R l m → sub o n l = some r → All2 R r ((m.drop o).take n) ∧ o + n ≤ m.length ∧ r.length = n
  | 0, 0, l, r, m, _, h => by
    have : r = [] := by cases l <;> simp [sub] at h <;> exact h
    subst this; simp [All2]
  | 0, n + 1, x :: l, r, m, hm, h => by
    obtain ⟨y, m', rfl, hx, hl⟩ := hm.cons_inv
    simp only [sub, Option.map_eq_some_iff] at h
    obtain ⟨r', hr, rfl⟩ := h
    have := sub_all hl hr
    simp only [List.drop_zero] at this ⊢
    simp only [List.take_succ_cons, List.length_cons]
    exact ⟨⟨hx, this.1⟩, by omega, by omega⟩
  | 0, n + 1, [], r, m, _, h => by simp [sub] at h
  | o + 1, n, x :: l, r, m, hm, h => by
    obtain ⟨y, m', rfl, hx, hl⟩ := hm.cons_inv
    have := sub_all hl (show sub o n l = some r by simpa [sub] using h)
    simp only [List.drop_succ_cons, List.length_cons]
    exact ⟨this.1, by omega, this.2.2⟩
  | o + 1, n, [], r, m, _, h => by simp [sub] at h
theorem over_all {α β : Type} {R : α → β → Prop} : ∀ {o : Nat} {ys l r : List α} {zs m : List β}, All2 R l m → All2 R ys zs → over o ys l = some r → All2 R r (m.take o ++ zs ++ m.drop (o + zs.length)) ∧ o + zs.length ≤ m.length
  | 0, [], l, r, zs, m, hm, hz, h => by
    obtain rfl := hz.nil_inv
    have : r = l := by cases l <;> simp [over] at h <;> first | exact h | exact h.symm
    subst this; simpa using hm
  | 0, y :: ys, x :: l, r, zs, m, hm, hz, h => by
    obtain ⟨z, zs', rfl, hy, hys⟩ := hz.cons_inv
    obtain ⟨u, m', rfl, hx, hl⟩ := hm.cons_inv
    simp only [over, Option.map_eq_some_iff] at h
    obtain ⟨r', hr, rfl⟩ := h
    have := over_all hl hys hr
    simp only [List.take_zero, List.nil_append, Nat.zero_add, List.length_cons, List.drop_succ_cons] at this ⊢
    exact ⟨⟨hy, this.1⟩, by omega⟩
  | 0, _ :: _, [], r, zs, m, _, _, h => by simp [over] at h
  | o + 1, ys, x :: l, r, zs, m, hm, hz, h => by
    obtain ⟨u, m', rfl, hx, hl⟩ := hm.cons_inv
    simp only [over, Option.map_eq_some_iff] at h
    obtain ⟨r', hr, rfl⟩ := h
    have := over_all hl hz hr
    rw [show o + 1 + zs.length = o + zs.length + 1 by omega]
    simp only [List.take_succ_cons, List.cons_append, List.drop_succ_cons, List.length_cons]
    exact ⟨⟨hx, this.1⟩, by omega⟩
  | o + 1, _, [], r, zs, m, _, _, h => by simp [over] at h
theorem nth_get {α : Type} : ∀ (l : List α) (i : Nat), nth l i = l[i]?
  | [], _ => by simp [nth]
  | _ :: _, 0 => by simp [nth]
  | _ :: l, i + 1 => by simp [nth, nth_get l i]
theorem len_length {α : Type} : ∀ (l : List α), len l = l.length
  | [] => rfl
  | _ :: l => by simp [len, len_length l]
theorem setK_iff {α : Type} : ∀ (l : List α) (i : Nat) (v : α) (Q : List α → Prop), setK l i v Q ↔ Q (l.set i v)
  | [], _, _, _ => by simp [setK]
  | _ :: _, 0, _, _ => by simp [setK]
  | x :: l, i + 1, v, Q => by simp [setK, setK_iff l i v]
theorem setL_eq {α : Type} : ∀ (l : List α) (i : Nat) (v : α), setL l i v = l.set i v
  | [], _, _ => by simp [setL]
  | _ :: _, 0, _ => by simp [setL]
  | x :: l, i + 1, v => by simp [setL, setL_eq l i v]
theorem snoc_iff {α : Type} : ∀ (l : List α) (v : α) (Q : List α → Prop), snoc l v Q ↔ Q (l ++ [v])
  | [], _, _ => Iff.rfl
  | x :: l, v, Q => by simp [snoc, snoc_iff l]
theorem putK_iff (σ : St) (d : Option Tmp) (v : V) (Q : St → Prop) : putK σ d v Q ↔ Q (match d with | none => σ | some t => ⟨σ.tmps.set t v, σ.objs⟩) := by
  cases σ; cases d <;> simp [putK, V.mk_iff, setK_iff]
theorem newOb_iff (σ : St) (o : Ob) (v : Nat → V) (Q : V → St → Prop) : newOb σ o v Q ↔ Q (v σ.objs.length) ⟨σ.tmps, σ.objs ++ [o]⟩ := by
  cases σ; simp [newOb, snoc_iff, len_length]
theorem setOb_iff (σ : St) (i : Nat) (o : Ob) (Q : St → Prop) : setOb σ i o Q ↔ Q ⟨σ.tmps, σ.objs.set i o⟩ := by
  cases σ; simp [setOb, setK_iff]
def SR {α : Type} (w : World) (I : Nat → Prop) (sz : Nat) (R : α → List Value → Prop) (A : Option Addr) (xs : List α) : Prop :=
  xs.length ≤ 9223372036854775807 ∧ (0 < xs.length → ∃ ad, A = some ad ∧ I ad.block ∧ ∀ j x, xs[j]? = some x → ∃ cs, cs.length = sz ∧ R x cs ∧ ∀ i u, cs[i]? = some u → w.cell? (ad.add (j * sz + i)) = some u)
def TRep (w : World) (I : Nat → Prop) : (t : Ty) → t.den → List Value → Prop
  | .int k => fun x cs => cs = [.int k x]
  | .bool => fun x cs => cs = [.bool x]
  | .str => fun x cs => cs = [.string x]
  | .slice _ t => fun xs cs => ∃ A c, cs = [.slice A xs.length c] ∧ xs.length ≤ c ∧ SR w I t.sz (TRep w I t) A xs
  | .pair a b => fun x cs => ∃ c1 c2, cs = c1 ++ c2 ∧ TRep w I a x.1 c1 ∧ TRep w I b x.2 c2
def blk : Value → Option Nat
  | .pointer (some a) => some a.block
  | .slice (some a) _ _ => some a.block
  | .map (some r) => some r
  | _ => none
def CRep (w : World) (I : Nat → Prop) (lk : List Value) : C → Value → Prop
  | .top, _ => True
  | .bool b, v => v = .bool b
  | .int k n, v => v = .int k n
  | .str s, v => v = .string s
  | .sl t xs, v => ∃ A c, v = .slice A xs.length c ∧ xs.length ≤ c ∧ SR w I t.sz (TRep w I t) A xs
  | .nil, v => v = .slice none 0 0
  | .ref i off, v => ∃ b, lk[i]? = some (.pointer (some ⟨b, 0, none⟩)) ∧ v = .pointer (some ⟨b, off, none⟩)
  | .own i, v => lk[i]? = some v ∧ ∃ A n c, v = .slice A n c
  | .elt t i j off, v => ∃ g n c, lk[i]? = some (.slice (some ⟨g, 0, none⟩) n c) ∧ j < n ∧ v = .pointer (some ⟨g, j * t.sz + off, none⟩)
  | .ielt t x off, v => ∃ (ad : Addr) (m : Nat) (cs : List Value), I ad.block ∧ ad.spot = none ∧ cs.length = t.sz ∧ TRep w I t x cs ∧ (∀ i u, cs[i]? = some u → w.cell? (ad.add (m + i)) = some u) ∧ v = .pointer (some (ad.add (m + off)))
  | .nilp, v => v = .pointer none
  | .ifa t k n, v => v = .iface t (.agg #[.int k n])
  | .nilif, v => v = .nilIface
  | .ifp, v => ∃ t x, v = .iface t x
  | .mp i, v => lk[i]? = some v ∧ ∃ r, v = .map (some r)
  | .fn f l, v => ∃ us, v = .func (.func f) #[] us.toArray ∧ All2 (fun i u => lk[i]? = some u ∧ ∃ b, u = .pointer (some ⟨b, 0, none⟩)) l us
def Cel (w : World) (I : Nat → Prop) (lk : List Value) (c : C) (v : Value) : Prop := CRep w I lk c v ∧ v.oneCell' = true
def ERep (w : World) (I : Nat → Prop) (lk : List Value) : E → Value → Prop
  | .one c, v => CRep w I lk c v
  | .agg l, v => ∃ vs, v = .agg vs.toArray ∧ All2 (Cel w I lk) l vs
def VRep (w : World) (I : Nat → Prop) (lk : List Value) : V → Value → Prop
  | .one c, v => CRep w I lk c v
  | .agg l, v => ∃ vs, v = .agg vs.toArray ∧ All2 (Cel w I lk) l vs
  | .tup l, v => ∃ vs, v = .tuple vs.toArray ∧ All2 (ERep w I lk) l vs
  | .wh g c, v => (g = true → CRep w I lk c v) ∧ (g = false → v = undef)
structure Cx where
  hid : Nat → Prop
  l0 : List Value
  gr : World → Prop
  df : List Deferred
  pub : Nat → Prop
  ph : ∀ b, pub b → hid b
def Imm (X : Cx) (w : World) (lk : List Value) (b : Nat) : Prop := b < w.heap.size ∧ (∀ v ∈ lk, blk v ≠ some b) ∧ (X.hid b → X.pub b)
def Ty.vs : (t : Ty) → t.den → List Value
  | .int k, x => [.int k x] | .bool, x => [.bool x] | .str, x => [.string x] | .slice _ _, _ => []
  | .pair a b, x => a.vs x.1 ++ b.vs x.2
def Ty.kv : (t : Ty) → t.den → Value
  | .pair a b, x => .agg (Ty.vs (.pair a b) x).toArray
  | t, x => (t.vs x).headD undef
def ORep (w : World) (I : Nat → Prop) (lk : List Value) : Ob → Value → Prop
  | .box e l, v => ∃ b cur, v = .pointer (some ⟨b, 0, none⟩) ∧ w.heap[b]? = some (.cells cur e (0, 0)) ∧ All2 (Cel w I lk) l cur.toList
  | .own e t xs ap _, v => ∃ cells, Reps (TRep w I t) t.sz xs cells ∧
      ((v = .slice none 0 0 ∧ xs = []) ∨
       ∃ g cap cur fr, v = .slice (some ⟨g, 0, none⟩) xs.length cap ∧ w.heap[g]? = some (.cells cur e fr) ∧ xs.length ≤ cap ∧ cap ≤ maxLen ∧ cur.size = cap * t.sz ∧
        cur.toList.take (xs.length * t.sz) = cells ∧ (ap = true → fr = (0, 0)) ∧ (fr.1 < fr.2 → xs.length * t.sz ≤ fr.1))
  | .mset kt ks, v => ∃ r es clock, v = .map (some r) ∧ w.heap[r]? = some (.map es clock) ∧ All2 (fun k e => e.val = .bool true ∧ e.key = kt.kv k) ks es.toList
  | .gone, v => blk v = none
theorem TRep.len {w : World} {I : Nat → Prop} : ∀ {t : Ty} {x : t.den} {cs : List Value}, TRep w I t x cs → cs.length = t.sz
  | .int _, _, _, h => by simp only [TRep] at h; subst h; rfl
  | .bool, _, _, h => by simp only [TRep] at h; subst h; rfl
  | .str, _, _, h => by simp only [TRep] at h; subst h; rfl
  | .slice _ _, _, _, h => by obtain ⟨A, c, rfl, _⟩ := h; rfl
  | .pair a b, x, _, h => by
    obtain ⟨c1, c2, rfl, h1, h2⟩ := h
    rw [List.length_append, TRep.len h1, TRep.len h2]; rfl
theorem TRep.one {w : World} {I : Nat → Prop} : ∀ {t : Ty} {x : t.den} {cs : List Value}, TRep w I t x cs → ∀ u ∈ cs, u.oneCell' = true
  | .int _, _, _, h => by simp only [TRep] at h; subst h; simp [Value.oneCell']
  | .bool, _, _, h => by simp only [TRep] at h; subst h; simp [Value.oneCell']
  | .str, _, _, h => by simp only [TRep] at h; subst h; simp [Value.oneCell']
  | .slice _ _, _, _, h => by obtain ⟨A, c, rfl, _⟩ := h; simp [Value.oneCell']
  | .pair a b, x, _, h => by
    obtain ⟨c1, c2, rfl, h1, h2⟩ := h
    intro u hu
    rcases List.mem_append.1 hu with h | h
    · exact TRep.one h1 u h
    · exact TRep.one h2 u h
theorem Ty.sz_pos : ∀ t : Ty, 0 < t.sz
  | .int _ | .bool | .str | .slice _ _ => by simp [Ty.sz]
  | .pair a b => by have := Ty.sz_pos a; simp only [Ty.sz]; omega
def Goes (w : World) (I : Nat → Prop) (w' : World) (I' : Nat → Prop) : Prop := ∀ b, I b → w'.heap[b]? = w.heap[b]? ∧ I' b
theorem Goes.cell {w w' : World} {I I' : Nat → Prop} (h : Goes w I w' I') {a : Addr} (hi : I a.block) : w'.cell? a = w.cell? a := by
  simp [World.cell?, (h _ hi).1]
theorem add_block' (a : Addr) (n : Nat) : (a.add n).block = a.block := by unfold Addr.add; split <;> rfl
theorem SR.goes {α : Type} {w w' : World} {I I' : Nat → Prop} (hg : Goes w I w' I') {sz : Nat} {R R' : α → List Value → Prop} {A : Option Addr} {xs : List α} (hR : ∀ x cs, R x cs → R' x cs) (h : SR w I sz R A xs) : SR w' I' sz R' A xs := by
  refine ⟨h.1, fun hp => ?_⟩
  obtain ⟨ad, rfl, hi, hc⟩ := h.2 hp
  refine ⟨ad, rfl, (hg _ hi).2, fun j x hx => ?_⟩
  obtain ⟨cs, hl, hr, hu⟩ := hc j x hx
  exact ⟨cs, hl, hR _ _ hr, fun i u hi' => by rw [hg.cell (by rw [add_block']; exact hi)]; exact hu i u hi'⟩
theorem TRep.goes {w w' : World} {I I' : Nat → Prop} (hg : Goes w I w' I') : ∀ {t : Ty} {x : t.den} {cs : List Value}, TRep w I t x cs → TRep w' I' t x cs
  | .int _, _, _, h => h
  | .bool, _, _, h => h
  | .str, _, _, h => h
  | .slice _ t, _, _, h => by
    obtain ⟨A, c, rfl, hc, hs⟩ := h
    exact ⟨A, c, rfl, hc, hs.goes hg (fun x cs hx => TRep.goes hg hx)⟩
  | .pair a b, x, _, h => by
    obtain ⟨c1, c2, rfl, h1, h2⟩ := h
    exact ⟨c1, c2, rfl, h1.goes hg, h2.goes hg⟩
def Keeps (lk lk' : List Value) (ids : List Nat) : Prop := ∀ i ∈ ids, ∀ v, lk[i]? = some v → lk'[i]? = some v
theorem CRep.goes {w w' : World} {I I' : Nat → Prop} {lk lk' : List Value} (hg : Goes w I w' I') : ∀ {c : C} {v : Value}, Keeps lk lk' c.id → CRep w I lk c v → CRep w' I' lk' c v
  | .top, _, _, _ => trivial
  | .bool _, _, _, h => h
  | .int _ _, _, _, h => h
  | .str _, _, _, h => h
  | .sl t xs, _, _, h => by
    obtain ⟨A, c, rfl, hc, hs⟩ := h
    exact ⟨A, c, rfl, hc, hs.goes hg (fun x cs hx => TRep.goes hg hx)⟩
  | .nil, _, _, h => h
  | .ref i off, _, hk, h => by
    obtain ⟨b, hb, rfl⟩ := h
    exact ⟨b, hk i (by simp [C.id]) _ hb, rfl⟩
  | .own i, _, hk, h => ⟨hk i (by simp [C.id]) _ h.1, h.2⟩
  | .elt t i j off, _, hk, h => by
    obtain ⟨g, n, c, hb, hj, rfl⟩ := h
    exact ⟨g, n, c, hk i (by simp [C.id]) _ hb, hj, rfl⟩
  | .ielt t x off, _, _, h => by
    obtain ⟨ad, m, cs, hi, hs, hl, ht, hc, rfl⟩ := h
    exact ⟨ad, m, cs, (hg _ hi).2, hs, hl, ht.goes hg, fun i u hu => by rw [hg.cell (by rw [add_block']; exact hi)]; exact hc i u hu, rfl⟩
  | .nilp, _, _, h => h
  | .ifa _ _ _, _, _, h => h
  | .nilif, _, _, h => h
  | .ifp, _, _, h => h
  | .mp i, _, hk, h => ⟨hk i (by simp [C.id]) _ h.1, h.2⟩
  | .fn f l, _, hk, h => by
    obtain ⟨us, rfl, ha⟩ := h
    exact ⟨us, rfl, ha.imp fun i hi u hu => ⟨hk i hi _ hu.1, hu.2⟩⟩
theorem Cel.goes {w w' : World} {I I' : Nat → Prop} {lk lk' : List Value} (hg : Goes w I w' I') {c : C} {v : Value} (hk : Keeps lk lk' c.id) (h : Cel w I lk c v) : Cel w' I' lk' c v := ⟨h.1.goes hg hk, h.2⟩
theorem Keeps.sub {lk lk' : List Value} {a b : List Nat} (h : Keeps lk lk' b) (hs : ∀ i ∈ a, i ∈ b) : Keeps lk lk' a := fun i hi => h i (hs i hi)
theorem Cels.goes {w w' : World} {I I' : Nat → Prop} {lk lk' : List Value} (hg : Goes w I w' I') {l : List C} {vs : List Value} (hk : Keeps lk lk' (l.flatMap C.id)) (h : All2 (Cel w I lk) l vs) : All2 (Cel w' I' lk') l vs :=
  h.imp fun c hc v hv => hv.goes hg (hk.sub fun i hi => List.mem_flatMap.2 ⟨c, hc, hi⟩)
theorem ERep.goes {w w' : World} {I I' : Nat → Prop} {lk lk' : List Value} (hg : Goes w I w' I') {e : E} {v : Value} (hk : Keeps lk lk' e.ids) (h : ERep w I lk e v) : ERep w' I' lk' e v := by
  cases e with
  | one c => exact CRep.goes hg hk h
  | agg l => obtain ⟨vs, rfl, ha⟩ := h; exact ⟨vs, rfl, Cels.goes hg hk ha⟩
theorem VRep.goes {w w' : World} {I I' : Nat → Prop} {lk lk' : List Value} (hg : Goes w I w' I') {x : V} {v : Value} (hk : Keeps lk lk' x.ids) (h : VRep w I lk x v) : VRep w' I' lk' x v := by
  cases x with
  | one c => exact CRep.goes hg hk h
  | agg l => obtain ⟨vs, rfl, ha⟩ := h; exact ⟨vs, rfl, Cels.goes hg hk ha⟩
  | tup l =>
    obtain ⟨vs, rfl, ha⟩ := h
    exact ⟨vs, rfl, ha.imp fun e he v hv => hv.goes hg (hk.sub fun i hi => List.mem_flatMap.2 ⟨e, he, hi⟩)⟩
  | wh g c => exact ⟨fun hgt => CRep.goes hg hk (h.1 hgt), h.2⟩
theorem Keeps.refl (lk : List Value) (ids : List Nat) : Keeps lk lk ids := fun _ _ _ h => h
theorem Keeps.app (lk l : List Value) (ids : List Nat) : Keeps lk (lk ++ l) ids := fun i _ v h => by
  rw [List.getElem?_append_left (List.getElem?_eq_some_iff.1 h).1]; exact h
theorem Reps.imp2 {α : Type} {R R' : α → List Value → Prop} {size : Nat} {ps : List α} {cs : List Value} (h : Reps R size ps cs) (hR : ∀ p c, R p c → R' p c) : Reps R' size ps cs := ⟨h.1, fun j p hj => hR _ _ (h.2 j p hj)⟩
theorem ORep.goes {w w' : World} {I I' : Nat → Prop} {lk lk' : List Value} (hg : Goes w I w' I') {o : Ob} {v : Value} (hk : Keeps lk lk' o.ids) (hb : ∀ b, blk v = some b → w'.heap[b]? = w.heap[b]?) (h : ORep w I lk o v) : ORep w' I' lk' o v := by
  cases o with
  | box e l =>
    obtain ⟨b, cur, rfl, hh, ha⟩ := h
    exact ⟨b, cur, rfl, (hb b rfl).trans hh, Cels.goes hg hk ha⟩
  | own e t xs ap mv =>
    obtain ⟨cells, hr, hv⟩ := h
    refine ⟨cells, Reps.imp2 hr (fun p c hp => hp.goes hg), ?_⟩
    rcases hv with hv | ⟨g, cap, cur, fr, rfl, hh, rest⟩
    · exact .inl hv
    · exact .inr ⟨g, cap, cur, fr, rfl, (hb g rfl).trans hh, rest⟩
  | mset kt ks =>
    obtain ⟨r, es, clock, rfl, hh, ha⟩ := h
    exact ⟨r, es, clock, rfl, (hb r rfl).trans hh, ha⟩
  | gone => exact h
structure Rel (X : Cx) (w : World) (lk : List Value) (σ : St) (a : Act) : Prop where
  tsz : a.tmps.size = σ.tmps.length
  tm : ∀ (t : Nat) (x : V), σ.tmps[t]? = some x → VRep w (Imm X w lk) lk x (a.tmps.getD t undef)
  lsz : lk.length = σ.objs.length
  ob : ∀ (i : Nat) (o : Ob) (v : Value), σ.objs[i]? = some o → lk[i]? = some v → ORep w (Imm X w lk) lk o v
  dj : ∀ (i j : Nat) (v v' : Value) (b : Nat), i ≠ j → lk[i]? = some v → lk[j]? = some v' → blk v = some b → blk v' ≠ some b
  lt : ∀ (i : Nat) (v : Value) (b : Nat), lk[i]? = some v → blk v = some b → b < w.heap.size
  nx : ∀ (i : Nat) (v : Value) (b : Nat), lk[i]? = some v → blk v = some b → ¬ X.hid b
  ll : X.l0.length ≤ lk.length
  kp : ∀ (p : Nat) (v0 : Value) (o : Ob), X.l0[p]? = some v0 → σ.objs[p]? = some o → keepsO o = true → lk[p]? = some v0
  df : a.defers = X.df
structure Keep (M : Nat → Prop) (w0 w : World) : Prop where
  os : w.os = w0.os
  tape : w.tape = w0.tape
  output : w.output = w0.output
  size : w0.heap.size ≤ w.heap.size
  block : ∀ k, k < w0.heap.size → ¬ M k → w.heap[k]? = w0.heap[k]?
def Gnd (X : Cx) (w : World) : Prop := ∀ w', (∀ b, X.hid b → w'.heap[b]? = w.heap[b]?) → X.gr w'
structure Inv (X : Cx) (M : Nat → Prop) (w0 w : World) (lk : List Value) : Prop where
  keep : Keep M w0 w
  news : ∀ v ∈ lk, ∀ b, blk v = some b → M b ∨ w0.heap.size ≤ b
  xl : ∀ b, X.hid b → b < w0.heap.size
  xm : ∀ b, X.hid b → ¬ M b
  gr : Gnd X w0
theorem Keep.refl (M : Nat → Prop) (w : World) : Keep M w w := ⟨rfl, rfl, rfl, Nat.le_refl _, fun _ _ _ => rfl⟩
theorem Keep.trans {M : Nat → Prop} {a b c : World} (h : Keep M a b) (k : Keep M b c) : Keep M a c :=
  ⟨k.os.trans h.os, k.tape.trans h.tape, k.output.trans h.output, Nat.le_trans h.size k.size, fun i hi hm => (k.block i (Nat.lt_of_lt_of_le hi h.size) hm).trans (h.block i hi hm)⟩
theorem Keep.below {M : Nat → Prop} {w w' : World} (h : Keep M w w') (hM : ∀ b, ¬ M b) : Below w.heap.size w w' := ⟨h.os, h.tape, h.output, h.size, fun k hk => h.block k hk (hM k)⟩
theorem Below.keep' {M : Nat → Prop} {w w' : World} (h : Below w.heap.size w w') : Keep M w w' := ⟨h.os, h.tape, h.output, h.size, fun k hk _ => h.block k hk⟩
structure TabOK (P : Program) (T : Tab) : Prop where
  info : ∀ t ti, T t = some ti → ∃ i z, P.info? t = some i ∧ i.size = ti.sz ∧ i.bytes = ti.by_ ∧ i.zero = some z ∧ z.cells.size = ti.sz ∧ (∀ w I lk, All2 (Cel w I lk) ti.zero z.cells.toList)
  mixed : P.follows .mixedOrders = true
  pos : ∀ t ti, T t = some ti → 0 < ti.by_ ∧ 0 < ti.sz
  int : ∀ t k s b z, T t = some ⟨.int k, s, b, z⟩ → P.underlying t = some (.int k) ∧ s = 1
  bool : ∀ t s b z, T t = some ⟨.bool, s, b, z⟩ → P.underlying t = some .bool ∧ s = 1
  str : ∀ t s b z, T t = some ⟨.str, s, b, z⟩ → P.underlying t = some .string ∧ s = 1
  slice : ∀ t e te s b z, T t = some ⟨.slice e te, s, b, z⟩ → P.underlying t = some (.slice e) ∧ s = 1 ∧ ∃ ti, T e = some ti ∧ ti.sz = te.sz ∧ (∀ i zv, P.info? e = some i → i.zero = some zv → ∀ w I, TRep w I te te.dflt zv.cells.toList)
  u8 : ∀ t e k s b z, T t = some ⟨.slice e (.int k), s, b, z⟩ → P.underlying e = some (.int k)
  u8z : ∀ t e k s b z, T t = some ⟨.slice e (.int k), s, b, z⟩ → ∃ i, P.info? e = some i ∧ i.zero = some (.int k 0)
  struct : ∀ t fs s b z, T t = some ⟨.struct fs, s, b, z⟩ → ∃ F, P.underlying t = some (.struct F) ∧ F.toList.map (fun f => (f.offset, f.type)) = fs ∧ (∀ f ∈ F.toList, ∃ i, P.info? f.type = some i ∧ i.size ≠ 0)
  eqs : ∀ t fs s b z, T t = some ⟨.struct fs, s, b, z⟩ → ∃ F, P.underlying t = some (.struct F) ∧ P.stoodInHeld t = false ∧ P.eqGuardType P.depth t = false ∧ (∀ f ∈ F.toList, (f.name == "_") = false)
  iface : ∀ t s b z, T t = some ⟨.iface, s, b, z⟩ → s = 1 ∧ ∃ ms, P.underlying t = some (.interface ms)
  map : ∀ t k kt e s b z, T t = some ⟨.map k kt e, s, b, z⟩ → s = 1 ∧ P.underlying t = some (.map k e) ∧ kt.plainB = true ∧ (∃ i, P.info? e = some i ∧ i.zero = some (.bool false)) ∧
    ∃ d ks kb kz, T k = some ⟨d, ks, kb, kz⟩ ∧ ((∃ fs, d = .struct fs ∧ (∃ a b, kt = .pair a b) ∧ ∀ f ∈ fs, ∃ ti, T f.2 = some ti ∧ (∃ d', P.underlying f.2 = some d' ∧ (∀ F, d' ≠ .struct F) ∧ (∀ n e, d' ≠ .array n e) ∧ (∀ ms, d' ≠ .interface ms))) ∨ (d = .str ∧ kt = .str) ∨ ∃ q, d = .int q ∧ kt = .int q)
  other : ∀ t s b z, T t = some ⟨.other, s, b, z⟩ → s = 1 ∧ ∃ d, P.underlying t = some d ∧ (∀ F, d ≠ .struct F) ∧ (∀ n e, d ≠ .array n e)
end Go.Proofs.YtilagaapfbfkkaaGreatDoor.Ab
namespace Go.Proofs.YtilagaapfbfkkaaGreatDoor.Ab
open Go Go.RowKit Go.Proofs.YtilagaapfbfkkaaGreatDoorW.PrintWords
variable {X : Cx} {P : Program} {T : Tab}
theorem ofC_rep (w : World) (I : Nat → Prop) (lk : List Value) (v : Value) : CRep w I lk (ofC v) v := by
  unfold ofC
  split <;> simp [CRep]
theorem ofConst_rep (w : World) (I : Nat → Prop) (lk : List Value) (v : Value) : VRep w I lk (ofConst v) v := by
  unfold ofConst
  split
  · rename_i cs
    cases h : cs.toList.all Value.oneCell'
    · simp [VRep, CRep]
    · simp only [cond_true, VRep]
      refine ⟨cs.toList, by simp, All2.map ?_⟩
      have h' : ∀ x ∈ cs.toList, x.oneCell' = true := List.all_eq_true.1 h
      generalize cs.toList = l at h'
      induction l with
      | nil => trivial
      | cons x l ih => exact ⟨⟨ofC_rep _ _ _ x, h' x (by simp)⟩, ih fun y hy => h' y (by simp [hy])⟩
  · exact ofC_rep _ _ _ _
theorem opdR_rep {w : World} {lk : List Value} {σ : St} {a : Act} (h : Rel X w lk σ a) (x : Operand) : VRep w (Imm X w lk) lk (opdR σ x) (a.eval x) := by
  cases x with
  | tmp t =>
    simp only [opdR, Act.eval, nth_get]
    cases ht : σ.tmps[t]? with
    | none => simp [VRep, CRep]
    | some x => simpa using h.tm t x ht
  | const v => exact ofConst_rep _ _ _ v
  | global g => simp [opdR, VRep, CRep]
  | func f => exact ⟨[], rfl, trivial⟩
theorem un_rep {w : World} {I : Nat → Prop} {lk : List Value} {x : V} {v : Value} (h : VRep w I lk x v) : VRep w I lk (un x) v := by
  cases x with
  | wh g c => cases g with
    | true => exact h.1 rfl
    | false => trivial
  | _ => exact h
theorem opd_rep {w : World} {lk : List Value} {σ : St} {a : Act} (h : Rel X w lk σ a) (x : Operand) : VRep w (Imm X w lk) lk (opd σ x) (a.eval x) := un_rep (opdR_rep h x)
theorem Rel.put {w : World} {lk : List Value} {σ : St} {a : Act} (h : Rel X w lk σ a) (d : Option Tmp) {x : V} {v : Value} (hv : VRep w (Imm X w lk) lk x v) :
    Rel X w lk (match d with | none => σ | some t => ⟨σ.tmps.set t x, σ.objs⟩) (a.put d v) := by
  cases d with
  | none => exact h
  | some t =>
    refine ⟨by simpa [Act.put] using h.tsz, fun i y hy => ?_, h.lsz, h.ob, h.dj, h.lt, h.nx, h.ll, h.kp, h.df⟩
    simp only [Act.put]
    rw [List.getElem?_set] at hy
    by_cases hti : t = i
    · subst hti
      simp only [if_true] at hy
      split at hy
      · rename_i hl
        simp at hy; subst hy
        have : t < a.tmps.size := by rw [h.tsz]; exact hl
        simpa [Array.getD, this] using hv
      · cases hy
    · rw [if_neg hti] at hy
      have := h.tm i y hy
      rw [Array.getD_eq_getD_getElem?] at this ⊢
      rwa [Array.getElem?_setIfInBounds_ne hti]
theorem binOp_quo (t : TypeId) (k : IntKind) (x y : Int) : binOp .quo t (.int k x) (.int k y) = Op.intDiv .quo k x y := by cases k <;> rfl
theorem binOp_rem (t : TypeId) (k : IntKind) (x y : Int) : binOp .rem t (.int k x) (.int k y) = Op.intDiv .rem k x y := by cases k <;> rfl
theorem eqGuard_one (op : BinOp) (t : TypeId) (x y : Operand) {a b : Value} (w : World) (ha : a ≠ .nilIface) (hb : ∀ cs, a ≠ .agg cs) : (eqGuard op t x y a b).run P w = .ok () w := by
  cases op <;> cases a <;> cases b <;> simp_all [eqGuard]
theorem evBin_sound (hT : TabOK P T) {op : BinOp} {t : TypeId} {x y : Operand} {A B : V} {Q : V → Prop} {w : World} {I : Nat → Prop} {lk : List Value} {va vb : Value}
    (h : evBin T op t A B Q) (ha : VRep w I lk A va) (hb : VRep w I lk B vb) :
    ∃ X v, Q X ∧ VRep w I lk X v ∧ (do eqGuard op t x y va vb; binOp op t va vb : Sem Value).run P w = .ok v w := by
  unfold evBin at h
  split at h
  · rename_i k x1 k' y1
    simp only [VRep, CRep] at ha hb
    subst ha hb
    have hg := eqGuard_one (P := P) op t x y (b := .int k' y1) w (a := .int k x1) (by simp) (by simp)
    simp only [Sem.run_bind, hg, Result.andThen_ok]
    split at h
    · obtain ⟨h0, hq⟩ := h
      refine ⟨_, _, hq, rfl, ?_⟩
      show (Op.shift .shl k x1 k' y1).run P w = _
      unfold Op.shift
      rw [if_neg (by omega)]; rfl
    · obtain ⟨h0, hq⟩ := h
      refine ⟨_, _, hq, rfl, ?_⟩
      show (Op.shift .shr k x1 k' y1).run P w = _
      unfold Op.shift
      rw [if_neg (by omega)]; rfl
    · split at h
      · rename_i hk
        subst hk
        split at h
        all_goals first
          | exact h.elim
          | exact ⟨_, _, h, rfl, by cases k <;> rfl⟩
          | (obtain ⟨h0, hq⟩ := h; refine ⟨_, _, hq, rfl, ?_⟩; (first | rw [binOp_quo] | rw [binOp_rem]); unfold Op.intDiv; rw [if_neg h0]; rfl)
      · exact h.elim
  · rename_i x1 y1
    simp only [VRep, CRep] at ha hb
    subst ha hb
    have hg := eqGuard_one (P := P) op t x y (b := .string y1) w (a := .string x1) (by simp) (by simp)
    simp only [Sem.run_bind, hg, Result.andThen_ok]
    split at h
    · obtain ⟨h0, hq⟩ := h
      refine ⟨_, _, hq, rfl, ?_⟩
      have : ¬ ((x1.size + y1.size : Nat) : Int) > IntKind.i64.max := by simp only [IntKind.max, IntKind.signed, IntKind.bits]; simp; omega
      simp only [binOp, Op.stringOp, if_neg this]; rfl
    all_goals first
      | exact h.elim
      | exact ⟨_, _, h, rfl, by simp [binOp, Op.stringOp]⟩
  · rename_i x1 y1
    simp only [VRep, CRep] at ha hb
    subst ha hb
    have hg := eqGuard_one (P := P) op t x y (b := .bool y1) w (a := .bool x1) (by simp) (by simp)
    simp only [Sem.run_bind, hg, Result.andThen_ok]
    split at h
    · rename_i s b z ht
      have hu := (hT.bool _ _ _ _ ht).1
      split at h
      · refine ⟨_, _, h, rfl, ?_⟩
        have he := run_equalIn_bool' (P := P) w 9999 t x1 y1 hu
        show ((Op.equalIn (9999 + 1) t (.bool x1) (.bool y1)).bind fun b => Go.Sem.pure (Value.bool b)).run P w = _
        have := Go.Sem.run_bind' P (Op.equalIn (9999 + 1) t (.bool x1) (.bool y1)) (fun b => Go.Sem.pure (Value.bool b)) w
        exact this.trans (by rw [he]; rfl)
      · refine ⟨_, _, h, rfl, ?_⟩
        have he := run_equalIn_bool' (P := P) w 9999 t x1 y1 hu
        have := Go.Sem.run_bind' P (Op.equalIn (9999 + 1) t (.bool x1) (.bool y1)) (fun b => Go.Sem.pure (Value.bool (!b))) w
        exact this.trans (by rw [he]; rfl)
      · exact h.elim
    · exact h.elim
  · exact h.elim
theorem evUn_sound {op : UnOp} {A : V} {Q : V → Prop} {w : World} {I : Nat → Prop} {lk : List Value} {va : Value}
    (h : evUn op A Q) (ha : VRep w I lk A va) : ∃ X v, Q X ∧ VRep w I lk X v ∧ (Op.unary op va).run P w = .ok v w := by
  unfold evUn at h
  split at h
  · simp only [VRep, CRep] at ha; subst ha
    exact ⟨_, _, h, rfl, by simp [Op.unary, Op.intArith]⟩
  · simp only [VRep, CRep] at ha; subst ha
    exact ⟨_, _, h, rfl, by simp [Op.unary, Op.intBits]⟩
  · simp only [VRep, CRep] at ha; subst ha
    exact ⟨_, _, h, rfl, by simp [Op.unary]⟩
  · exact h.elim
theorem index_sound {w : World} {t : TypeId} {s : ByteArray} {k : IntKind} {n : Int} (ht : P.underlying t = some .string) (h0 : 0 ≤ n) (h1 : n < s.size) :
    (Instr.index t (.string s) (.int k n)).run P w = .ok (.int .u8 (bt s n)) w := by
  have hl : n.toNat < s.size := by omega
  have hb : s[n.toNat]? = some s[n.toNat] := by simp [hl]
  simp [Instr.index, asIntOf, run_underlying ht, h0, hb, bt, hl]
end Go.Proofs.YtilagaapfbfkkaaGreatDoor.Ab
namespace Go.Proofs.YtilagaapfbfkkaaGreatDoor.Ab
open Go Go.RowKit Go.Proofs.YtilagaapfbfkkaaGreatDoorW.PrintWords
variable {X : Cx} {P : Program} {T : Tab}
theorem add_add {ad : Addr} (hs : ad.spot = none) (m k : Nat) : (ad.add m).add k = ad.add (m + k) := by
  obtain ⟨b, o, s⟩ := ad
  simp only at hs; subst hs
  unfold Addr.add
  by_cases hm : m = 0 <;> by_cases hk : k = 0 <;> simp [hm, hk, Nat.add_assoc]
theorem add_mk (b o m : Nat) : (⟨b, o, none⟩ : Addr).add m = ⟨b, o + m, none⟩ := by unfold Addr.add; split <;> simp_all
theorem cell_spot {w : World} {a : Addr} {v : Value} (h : w.cell? a = some v) : a.spot = none := by
  unfold World.cell? at h
  cases hs : a.spot with
  | none => rfl
  | some x => simp [hs] at h; split at h <;> cases h
theorem Ty.cs_rep {w : World} {I : Nat → Prop} (lk : List Value) : ∀ {t : Ty} {x : t.den} {us : List Value}, TRep w I t x us → All2 (Cel w I lk) (t.cs x) us
  | .int _, _, _, h => by simp only [TRep] at h; subst h; exact ⟨⟨rfl, rfl⟩, trivial⟩
  | .bool, _, _, h => by simp only [TRep] at h; subst h; exact ⟨⟨rfl, rfl⟩, trivial⟩
  | .str, _, _, h => by simp only [TRep] at h; subst h; exact ⟨⟨rfl, rfl⟩, trivial⟩
  | .slice _ t, _, _, h => by
    obtain ⟨A, c, rfl, hc, hs⟩ := h
    exact ⟨⟨⟨A, c, rfl, hc, hs⟩, rfl⟩, trivial⟩
  | .pair a b, x, _, h => by
    obtain ⟨c1, c2, rfl, h1, h2⟩ := h
    exact All2.append (Ty.cs_rep lk h1) (Ty.cs_rep lk h2)
theorem Ty.rd_sound {w : World} {I : Nat → Prop} {lk : List Value} : ∀ {t : Ty} {l : List C} {Q : t.den → List C → Prop} {us : List Value}, t.rd l Q → All2 (Cel w I lk) l us →
    ∃ x r u1 u2, Q x r ∧ us = u1 ++ u2 ∧ TRep w I t x u1 ∧ All2 (Cel w I lk) r u2
  | .int k, l, Q, us, h, ha => by
    simp only [Ty.rd] at h
    split at h
    · rename_i k' n r
      split at h
      · rename_i hk; subst hk
        obtain ⟨u, us', rfl, hu, hr⟩ := ha.cons_inv
        have : u = .int k n := hu.1
        exact ⟨n, r, [u], us', h, rfl, by rw [this]; rfl, hr⟩
      · exact h.elim
    · exact h.elim
  | .bool, l, Q, us, h, ha => by
    simp only [Ty.rd] at h
    split at h
    · rename_i b r
      obtain ⟨u, us', rfl, hu, hr⟩ := ha.cons_inv
      have : u = .bool b := hu.1
      exact ⟨b, r, [u], us', h, rfl, by rw [this]; rfl, hr⟩
    · exact h.elim
  | .str, l, Q, us, h, ha => by
    simp only [Ty.rd] at h
    split at h
    · rename_i b r
      obtain ⟨u, us', rfl, hu, hr⟩ := ha.cons_inv
      have : u = .string b := hu.1
      exact ⟨b, r, [u], us', h, rfl, by rw [this]; rfl, hr⟩
    · exact h.elim
  | .slice e t, l, Q, us, h, ha => by
    simp only [Ty.rd] at h
    split at h
    · rename_i t' xs r
      split at h
      · rename_i ht; subst ht
        obtain ⟨u, us', rfl, hu, hr⟩ := ha.cons_inv
        obtain ⟨A, c, rfl, hc, hs⟩ := hu.1
        exact ⟨xs, r, [_], us', h, rfl, ⟨A, c, rfl, hc, hs⟩, hr⟩
      · exact h.elim
    · rename_i r
      obtain ⟨u, us', rfl, hu, hr⟩ := ha.cons_inv
      have : u = .slice none 0 0 := hu.1
      subst this
      exact ⟨[], r, [_], us', h, rfl, ⟨none, 0, rfl, Nat.le_refl _, by simp, fun hp => absurd hp (by simp)⟩, hr⟩
    · exact h.elim
  | .pair a b, l, Q, us, h, ha => by
    simp only [Ty.rd] at h
    obtain ⟨x, r, u1, u2, h1, rfl, ht, hr⟩ := Ty.rd_sound h ha
    obtain ⟨y, r', v1, v2, h2, rfl, ht', hr'⟩ := Ty.rd_sound h1 hr
    exact ⟨(x, y), r', u1 ++ v1, v2, h2, by rw [List.append_assoc], ⟨u1, v1, rfl, ht, ht'⟩, hr'⟩
theorem own_SR {w : World} {I I' : Nat → Prop} {lk : List Value} {e : TypeId} {t : Ty} {xs : List t.den} {ap mv : Bool} {v : Value} (h : ORep w I lk (.own e t xs ap mv) v)
    (hb : ∀ b, blk v = some b → I' b) : ∃ A c, v = .slice A xs.length c ∧ xs.length ≤ c ∧ SR w I' t.sz (TRep w I t) A xs := by
  obtain ⟨cells, hr, hv⟩ := h
  rcases hv with ⟨rfl, rfl⟩ | ⟨g, cap, cur, fr, rfl, hh, hc, hm, hsz, htk, _, _⟩
  · exact ⟨none, 0, rfl, Nat.le_refl _, by simp, fun hp => absurd hp (by simp)⟩
  · refine ⟨_, cap, rfl, hc, by simp only [maxLen] at hm; omega, fun hp => ⟨_, rfl, hb g rfl, fun j x hx => ?_⟩⟩
    have hj := (List.getElem?_eq_some_iff.1 hx).1
    have hT := hr.2 j x hx
    refine ⟨_, hT.len, hT, fun i u hu => ?_⟩
    rw [add_mk]
    rw [List.getElem?_take] at hu
    split at hu
    · rename_i hi
      rw [List.getElem?_drop, ← htk, List.getElem?_take] at hu
      split at hu
      · simp only [World.cell?, hh, Option.isSome_none, Bool.false_eq_true, if_false, Nat.zero_add]
        simpa using hu
      · cases hu
    · cases hu
theorem slK_sound {w : World} {lk : List Value} {σ : St} {a : Act} (hr : Rel X w lk σ a) {t : Ty} {c : C} {Q : List t.den → Prop} {v : Value} (h : slK σ t c Q) (hc : CRep w (Imm X w lk) lk c v) :
    ∃ xs A n, Q xs ∧ v = .slice A xs.length n ∧ xs.length ≤ n ∧ SR w (fun b => b < w.heap.size) t.sz (TRep w (Imm X w lk) t) A xs := by
  have hI : ∀ b, Imm X w lk b → b < w.heap.size := fun b hb => hb.1
  unfold slK at h
  split at h
  · obtain rfl : v = .slice none 0 0 := hc
    exact ⟨[], none, 0, h, rfl, Nat.le_refl _, by simp, fun hp => absurd hp (by simp)⟩
  · rename_i t' xs
    split at h
    · rename_i ht; subst ht
      obtain ⟨A, n, rfl, hn, hs⟩ := hc
      have hg : Goes w (Imm X w lk) w (fun b => b < w.heap.size) := fun b hb => ⟨rfl, hb.1⟩
      exact ⟨xs, A, n, h, rfl, hn, hs.goes hg (fun x cs hx => hx)⟩
    · exact h.elim
  · rename_i i
    rw [nth_get] at h
    split at h
    · rename_i e t' xs ap mv ho
      split at h
      · rename_i ht; subst ht
        obtain ⟨A, n, rfl, hn, hs⟩ := own_SR (I' := fun b => b < w.heap.size) (hr.ob i _ v ho hc.1) (fun b hb => hr.lt i _ b hc.1 hb)
        exact ⟨xs, A, n, h, rfl, hn, hs⟩
      · exact h.elim
    · exact h.elim
  · exact h.elim
theorem cellsAt_sound {w : World} {lk : List Value} {σ : St} {a : Act} (hr : Rel X w lk σ a) {c : C} {n : Nat} {cs : List C} {v : Value} (h : cellsAt σ c n = some cs) (hc : CRep w (Imm X w lk) lk c v) :
    ∃ (ad : Addr) (us : List Value), v = .pointer (some ad) ∧ us.length = n ∧ All2 (Cel w (Imm X w lk) lk) cs us ∧ ∀ (i : Nat) (u : Value), us[i]? = some u → w.cell? (ad.add i) = some u := by
  unfold cellsAt at h
  split at h
  · rename_i i off
    rw [nth_get] at h
    split at h
    · rename_i e0 l ho
      obtain ⟨b, hb, rfl⟩ := hc
      obtain ⟨b', cur, hv, hh, ha⟩ := hr.ob i _ _ ho hb
      simp only [Value.pointer.injEq, Option.some.injEq, Addr.mk.injEq] at hv
      obtain ⟨rfl, _, _⟩ := hv
      obtain ⟨h1, h2, h3⟩ := sub_all ha h
      refine ⟨_, _, rfl, by simp at h2 ⊢; omega, h1, fun j u hu => ?_⟩
      rw [add_mk]
      rw [List.getElem?_take] at hu
      split at hu
      · rw [List.getElem?_drop] at hu
        simp only [World.cell?, hh, Option.isSome_none, Bool.false_eq_true, if_false]
        simpa using hu
      · cases hu
    · cases h
  · rename_i t i j off
    rw [nth_get] at h
    split at h
    · rename_i e t' xs ap mv ho
      split at h
      · rename_i ht; subst ht
        obtain ⟨g, n', c', hb, hj, rfl⟩ := hc
        obtain ⟨cells, hreps, hv⟩ := hr.ob i _ _ ho hb
        rcases hv with ⟨hv, _⟩ | ⟨g', cap, cur, fr, hv, hh, hc1, hm, hsz, htk, _, _⟩
        · cases hv
        · simp only [Value.slice.injEq, Option.some.injEq, Addr.mk.injEq] at hv
          obtain ⟨⟨rfl, _, _⟩, rfl, rfl⟩ := hv
          have hx : xs[j]? = some (rdx xs j t'.dflt) := by simp [rdx, List.getD, List.getElem?_eq_getElem hj]
          have hT := hreps.2 j _ hx
          obtain ⟨h1, h2, h3⟩ := sub_all (Ty.cs_rep lk hT) h
          refine ⟨_, _, rfl, by rw [List.length_take, List.length_drop, hT.len] ; have := hT.len; rw [this] at h2; omega, h1, fun i u hu => ?_⟩
          rw [add_mk]
          rw [List.getElem?_take] at hu
          split at hu
          · rw [List.getElem?_drop, List.getElem?_take] at hu
            split at hu
            · rw [List.getElem?_drop, ← htk, List.getElem?_take] at hu
              split at hu
              · simp only [World.cell?, hh, Option.isSome_none, Bool.false_eq_true, if_false]
                rw [show j * t'.sz + off + i = j * t'.sz + (off + i) by omega]
                simpa using hu
              · cases hu
            · cases hu
          · cases hu
      · cases h
    · cases h
  · rename_i t x off
    obtain ⟨ad, m, us, hi, hs, hl, ht, hu, rfl⟩ := hc
    obtain ⟨h1, h2, h3⟩ := sub_all (Ty.cs_rep lk ht) h
    refine ⟨_, _, rfl, by rw [List.length_take, List.length_drop]; omega, h1, fun i u hiu => ?_⟩
    rw [add_add hs]
    rw [List.getElem?_take] at hiu
    split at hiu
    · rw [List.getElem?_drop] at hiu
      rw [show m + off + i = m + (off + i) by omega]
      exact hu _ _ hiu
    · cases hiu
  · cases h
theorem TabOK.agg (hT : TabOK P T) {t : TypeId} {ti : TI} (h : T t = some ti) : (∃ fs, ti.d = .struct fs ∧ ∃ F, P.underlying t = some (.struct F)) ∨ ((∀ fs, ti.d ≠ .struct fs) ∧ ti.sz = 1 ∧ ∃ d, P.underlying t = some d ∧ (∀ F, d ≠ .struct F) ∧ (∀ n e, d ≠ .array n e)) := by
  obtain ⟨d, s, b, z⟩ := ti
  cases d with
  | int k => obtain ⟨h1, h2⟩ := hT.int t k s b z h; exact .inr ⟨by simp, h2, _, h1, by simp, by simp⟩
  | bool => obtain ⟨h1, h2⟩ := hT.bool t s b z h; exact .inr ⟨by simp, h2, _, h1, by simp, by simp⟩
  | str => obtain ⟨h1, h2⟩ := hT.str t s b z h; exact .inr ⟨by simp, h2, _, h1, by simp, by simp⟩
  | slice e te => obtain ⟨h1, h2, _⟩ := hT.slice t e te s b z h; exact .inr ⟨by simp, h2, _, h1, by simp, by simp⟩
  | struct fs => obtain ⟨F, h1, _⟩ := hT.struct t fs s b z h; exact .inl ⟨fs, rfl, F, h1⟩
  | iface => obtain ⟨h2, ms, h1⟩ := hT.iface t s b z h; exact .inr ⟨by simp, h2, _, h1, by simp, by simp⟩
  | other => obtain ⟨h2, d, h1, h3, h4⟩ := hT.other t s b z h; exact .inr ⟨by simp, h2, d, h1, h3, h4⟩
  | map k kt e => obtain ⟨h2, h1, _⟩ := hT.map t k kt e s b z h; exact .inr ⟨by simp, h2, _, h1, by simp, by simp⟩
theorem run_isAgg_struct {t : TypeId} {F : Array Field} {w : World} (h : P.underlying t = some (.struct F)) : (isAgg t).run P w = .ok true w := by
  simp [isAgg, run_underlying h]
theorem run_isAgg_not {t : TypeId} {d : TypeDesc} {w : World} (h : P.underlying t = some d) (h1 : ∀ F, d ≠ .struct F) (h2 : ∀ n e, d ≠ .array n e) : (isAgg t).run P w = .ok false w := by
  cases d <;> simp_all [isAgg, run_underlying h]
theorem run_load_all (hT : TabOK P T) {t : TypeId} {ti : TI} (h : T t = some ti) {w : World} {I : Nat → Prop} {lk : List Value} {ad : Addr} {us : List Value} {cs : List C} {v : V} (hl : us.length = ti.sz)
    (ha : All2 (Cel w I lk) cs us) (hs : shape T t cs = some v) :
    ∃ r, (∀ w', (∀ (i : Nat) (u : Value), us[i]? = some u → w'.cell? (ad.add i) = some u) → (loadVar t ad).run P w' = .ok r w') ∧ VRep w I lk v r := by
  obtain ⟨i, z, hi, hsz, _⟩ := hT.info t ti h
  rcases hT.agg h with ⟨fs, hd, F, hF⟩ | ⟨hd, h1, d, hud, hn1, hn2⟩
  · refine ⟨.agg us.toArray, fun w' hu => ?_, ?_⟩
    · have hlc := run_loadCells_list (P := P) w' ad us hu
      simp [loadVar, run_isAgg_struct hF, sizeOf, typeInfo, hi, hsz, ← hl, hlc]
    · unfold shape at hs
      rw [h] at hs
      obtain ⟨d, s, b, zz⟩ := ti
      simp only at hd; subst hd
      simp at hs; subst hs
      exact ⟨us, rfl, ha⟩
  · rw [h1] at hl
    obtain ⟨u, rfl⟩ : ∃ u, us = [u] := by
      cases us with
      | nil => simp at hl
      | cons u l => cases l with
        | nil => exact ⟨u, rfl⟩
        | cons _ _ => simp at hl
    refine ⟨u, fun w' hu => ?_, ?_⟩
    · have hc0 : w'.cell? ad = some u := by have := hu 0 u rfl; simpa [Addr.add] using this
      simp [loadVar, run_isAgg_not hud hn1 hn2, hc0]
    · unfold shape at hs
      rw [h] at hs
      split at hs
      · rename_i heq; simp only [Option.some.injEq] at heq; rw [heq] at hd; exact absurd rfl (hd _)
      · split at hs
        · simp at hs; subst hs
          exact ha.1.1
        · cases hs
      · cases hs
theorem run_load_any (hT : TabOK P T) {t : TypeId} {ti : TI} (h : T t = some ti) {w : World} {I : Nat → Prop} {lk : List Value} {ad : Addr} {us : List Value} {cs : List C} {v : V} (hl : us.length = ti.sz)
    (hu : ∀ (i : Nat) (u : Value), us[i]? = some u → w.cell? (ad.add i) = some u) (ha : All2 (Cel w I lk) cs us) (hs : shape T t cs = some v) :
    ∃ r, (loadVar t ad).run P w = .ok r w ∧ VRep w I lk v r := by
  obtain ⟨r, h1, h2⟩ := run_load_all hT h (ad := ad) hl ha hs
  exact ⟨r, h1 w hu, h2⟩
end Go.Proofs.YtilagaapfbfkkaaGreatDoor.Ab
