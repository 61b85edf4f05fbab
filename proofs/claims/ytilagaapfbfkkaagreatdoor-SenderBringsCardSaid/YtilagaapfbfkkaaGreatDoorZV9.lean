/- Part 9 of 10 of the texts that the sender's rows rest on, put together by a program; no condition. -/
import Derived.Test.YtilagaapfbfkkaaGreatDoorZV8
import Derived.RangeFuncBox
import Derived.Test.YtilagaapfbfkkaaGreatDoorZV1
import Derived.Test.YtilagaapfbfkkaaGreatDoorZV6
import Derived.Test.YtilagaapfbfkkaaGreatDoorZV7
set_option maxHeartbeats 128000000
set_option linter.unusedSimpArgs false
set_option linter.unusedVariables false
namespace Go.Proofs.YtilagaapfbfkkaaGreatDoor.Dt
open Go.RowKit Go.Shelf Go.Lib
attribute [local go_sem] Oper.semAt_some
def layB : Bool → List UInt8 → List UInt8
  | _, [] => []
  | b, c :: l => (if b && c == 46 then [46, c] else [c]) ++ layB (c == 10) l
theorem layB_false (line rest : List UInt8) (hne : line ≠ []) (no : ∀ j, j + 1 < line.length → line[j]? ≠ some 10) (fin : line.getLast? = some 10 ∨ rest = []) (b : Bool) (hb : b = false) :
    layB b (line ++ rest) = line ++ layB true rest := by
  subst hb
  induction line with
  | nil => exact absurd rfl hne
  | cons c l ih =>
    cases l with
    | nil =>
      rcases fin with h | rfl
      · simp at h; subst h; simp [layB]
      · simp [layB]
    | cons d l =>
      have hc : (c == 10) = false := by
        have := no 0 (by simp)
        simpa using this
      have := ih (by simp) (fun j hj => by have := no (j + 1) (by simpa using hj); simpa using this) (by simpa using fin)
      rw [List.cons_append, layB, hc, this]
      simp
theorem layB_line (line rest : List UInt8) (h : IsLine line rest) :
    layB true (line ++ rest) = (if [46].isPrefixOf line then [46] else []) ++ line ++ layB true rest := by
  obtain ⟨hne, no, fin⟩ := h
  cases line with
  | nil => exact absurd rfl hne
  | cons c l =>
    have h46 : ([46] : List UInt8).isPrefixOf (c :: l) = (46 == c) := by simp [List.isPrefixOf]
    have hcc : ((46 : UInt8) == c) = (c == 46) := BEq.comm
    cases l with
    | nil =>
      rcases fin with h | rfl
      · simp at h; subst h; simp [layB]
      · rw [h46, hcc, List.append_nil, layB, layB]; cases hx : (c == 46) <;> rfl
    | cons d l =>
      have hc : (c == 10) = false := by
        have := no 0 (by simp)
        simpa using this
      have := layB_false (d :: l) rest (by simp) (fun j hj => by have := no (j + 1) (by simpa using hj); simpa using this) (by simpa using fin) _ rfl
      rw [List.cons_append, layB, hc, this, h46, hcc]
      cases hx : (c == 46) <;> simp
theorem layB_len (b : Bool) (l : List UInt8) : (layB b l).length ≤ 2 * l.length := by
  induction l generalizing b with
  | nil => simp [layB]
  | cons c l ih =>
    have := ih (c == 10)
    rw [layB, List.length_append, List.length_cons]
    split <;> simp <;> omega
theorem BuilderAtF.keptBy {T e : TypeId} {B b r : Nat} {p : Value} {bs : List Value} {W W' : World} {o : Obj} (h : Lib.BuilderAtF T e B b p bs W) (hg : W.grownBy W' (some r)) (hrb : r ≠ b) (ho : W.heap[r]? = some o) (hne : ∀ c fz, o ≠ .cells c e fz) : Lib.BuilderAtF T e B b p bs W' := by
  have hlt := h.lt
  obtain ⟨hB, v, hb, hown, hnb⟩ := h
  refine ⟨hB, v, (hg.block b hlt (by simp; omega)).trans hb, hown.kept hg ?_, hnb⟩
  rcases hown.2 with ⟨rfl, _⟩ | ⟨g, cap, cur, fz, rfl, _, hgb, _⟩
  · exact .inl rfl
  · refine .inr fun e => ?_
    obtain rfl : g = r := by simpa [Value.ownBlock] using e
    rw [hgb] at ho
    cases ho
    exact hne _ _ rfl
theorem IsBuilderF.keptBy {T e : TypeId} {B b r : Nat} {bs : List Value} {W W' : World} {o : Obj} (h : Lib.IsBuilderF T e B b bs W) (hg : W.grownBy W' (some r)) (hrb : r ≠ b) (ho : W.heap[r]? = some o) (hne : ∀ c fz, o ≠ .cells c e fz) : Lib.IsBuilderF T e B b bs W' := by
  rcases h with h | h
  · exact .inl (BuilderAtF.keptBy h hg hrb ho hne)
  · exact .inr (BuilderAtF.keptBy h hg hrb ho hne)
theorem IsBuilderF.alloc {T e : TypeId} {B b : Nat} {bs : List Value} {W : World} (h : Lib.IsBuilderF T e B b bs W) (o : Obj) : Lib.IsBuilderF T e B b bs (W.alloc o) := by
  rcases h with h | h
  · exact .inl (h.alloc o)
  · exact .inr (h.alloc o)
theorem IsBuilderF.drew {T e : TypeId} {B b : Nat} {bs : List Value} {W : World} (h : Lib.IsBuilderF T e B b bs W) : Lib.IsBuilderF T e B b bs W.drew := by
  rcases h with h | h
  · exact .inl h.drew
  · exact .inr h.drew
theorem lines_calls (s : ByteArray) (w : World) :
    Calls Tryz.prog 201 #[.string s] w fun e w' => e = .returned (.func (.func 216) #[] #[.pointer (some ⟨w.heap.size, 0, none⟩)]) ∧ w' = w.alloc (.cells #[.string s] 9) := by
  go_enter Tryz.func201, Tryz.ntmps201
  go_wp2
  go_ret
  exact ⟨rfl, rfl⟩
structure Mid (s : ByteArray) (w : World) (rec : Loop) (rest : ByteArray) (out : List UInt8) (W : World) : Prop where
  c : W.heap[w.heap.size + 1]? = some (.cells #[.string rest] 9 (0, 0))
  b : Lib.IsBuilderF 212 5 w.heap.size w.heap.size (Lib.byteCells out) W
  L : W.heap[w.heap.size + 3]? = some (.loop rec)
  K : W.heap[w.heap.size + 2]? = some (.deferred (some []))
  bel : Below w.heap.size w W
  law : out ++ layB true rest.data.toList = layB true s.data.toList
  le : rest.size ≤ s.size
theorem Mid.drew {s : ByteArray} {w : World} {rec : Loop} {rest : ByteArray} {out : List UInt8} {W : World} (h : Mid s w rec rest out W) : Mid s w rec rest out W.drew :=
  ⟨h.c, IsBuilderF.drew h.b, h.L, h.K, h.bel.drew, h.law, h.le⟩
def layAssign : Code := Code.region 3 #[{ dst := some 4, op := Op.assign (Operand.tmp 7), type := 9, pos := "dots.go:44", after := #[], guard := none }] false
def layBody : Code :=
  Code.block 1
    (((Code.region 4
              #[{ dst := some 8, op := Op.move (Operand.tmp 4), type := 9, pos := "dots.go:45", after := #[], guard := none },
                { dst := some 9, op := Op.call { callee := Callee.value (Operand.func 59), args := #[Operand.tmp 8, Operand.const (Value.string { data := #[46] })], argTypes := #[9, 9] }, type := 4, pos := "dots.go:45", after := #[{ on := 0, ground := Ground.data }], guard := none }]
              false).seq
          (Code.cond (Operand.tmp 9)
            (Code.region 5
              #[{ dst := some 10, op := Op.call { callee := Callee.value (Operand.func 202), args := #[Operand.tmp 3, Operand.const (Value.int IntKind.u8 46)], argTypes := #[212, 5] }, type := 131, pos := "dots.go:46", after := #[], guard := none }]
              false)
            Code.skip)).seq
      (Code.region 6
        #[{ dst := some 11, op := Op.move (Operand.tmp 4), type := 9, pos := "dots.go:48", after := #[], guard := none },
          { dst := some 12, op := Op.call { callee := Callee.value (Operand.func 203), args := #[Operand.tmp 3, Operand.tmp 11], argTypes := #[212, 9] }, type := 132, pos := "dots.go:48", after := #[{ on := 0, ground := Ground.data }], guard := none }]
        false))
def layTmps (s : ByteArray) (B : Nat) : Array Value := #[Value.string s, undef, Value.string { data := #[] }, Value.pointer (some { block := B, off := 0 }), undef, Value.string s, Value.func (Fn.func 216) #[] #[Value.pointer (some { block := B + 1, off := 0 })], undef, undef, undef, undef, undef, undef, undef, undef]
def layRec (fn : FuncId) (s : ByteArray) (B : Nat) (st : LoopState) (pend : Option Code) : Loop :=
  { state := st, pending := pend, fn, tmps := layTmps s B, params := #[7], assign := layAssign, body := layBody, defers := B + 2 }
theorem kept_tmp {T e : TypeId} {b : Nat} {w W : World} (h : Lib.OthersKept e (some b) w W) {k : Nat} {o : Obj} (hk : w.heap[k]? = some o) (hb : k ≠ b) (ho : ∀ c fz, o ≠ .cells c e fz) : W.heap[k]? = some o :=
  h k o hk (by simpa using hb) ho
set_option maxRecDepth 100000 in
theorem lay_round (m : Nat) (hm : 1 ≤ m) (fn : FuncId) (s : ByteArray) (w : World) (hs : s.size ≤ 35184372088832) (s0 line rest : ByteArray) (out : List UInt8) (W : World)
    (hM : Mid s w (layRec fn s w.heap.size .ready none) s0 out W) (happ : s0.data.toList = line.data.toList ++ rest.data.toList) (hl : IsLine line.data.toList rest.data.toList) :
    YieldAt Fence.wide m Tryz.prog (w.heap.size + 3) #[.string line] (W.setCell ⟨w.heap.size + 1, 0, none⟩ (.string rest)) fun e W' =>
      e = .returned (.bool true) ∧ ∃ out', Mid s w (layRec fn s w.heap.size .ready none) rest out' W' := by
  obtain ⟨B, hB⟩ : ∃ B, w.heap.size = B := ⟨_, rfl⟩
  obtain ⟨hc, hb, hL, hK, hbel, hlaw, hle⟩ := hM
  rw [hB] at hc hb hL hK hbel ⊢
  obtain ⟨W1, hW1⟩ : ∃ W1, W.setCell ⟨B + 1, 0, none⟩ (.string rest) = W1 := ⟨_, rfl⟩
  have hg1 := grownBy_setCell' W (B + 1) (.string rest)
  have hbel1 : Below B w W1 := by rw [← hW1]; exact hbel.setCell (p := ⟨B + 1, 0, none⟩) (by simp) _
  have hc1 : W1.heap[B + 1]? = some (.cells #[.string rest] 9 (0, 0)) := by rw [← hW1]; exact Boxed.set (v := .string s0) (.string rest) hc
  have hL1 : W1.heap[B + 3]? = some (.loop (layRec fn s B .ready none)) := by rw [← hW1]; exact (Below.heap_setCell W ⟨B + 1, 0, none⟩ _ _ (by simp)).trans hL
  have hK1 : W1.heap[B + 2]? = some (.deferred (some [])) := by rw [← hW1]; exact (Below.heap_setCell W ⟨B + 1, 0, none⟩ _ _ (by simp)).trans hK
  rw [hW1] at hg1
  have hb1 : Lib.IsBuilderF 212 5 B B (Lib.byteCells out) W1 := IsBuilderF.keptBy hb hg1 (by omega) hc (by rintro c fz e; cases e)
  rw [hW1]
  refine ⟨fn, #[Value.string s, undef, Value.string { data := #[] }, Value.pointer (some { block := B, off := 0 }), undef, Value.string s, Value.func (Fn.func 216) #[] #[Value.pointer (some { block := B + 1, off := 0 })], .string line, undef, undef, undef, undef, undef, undef, undef], layAssign, layBody, by simpa [layRec, layTmps] using run_yield (P := Tryz.prog) (args := #[.string line]) hL1 rfl, ?_⟩
  refine roundIn_of_wpIn trivial ?_
  have hbr := run_beginRound (P := Tryz.prog) hL1 rfl
  have hl3 : B + 3 < W1.heap.size := (Array.getElem?_eq_some_iff.1 hL1).1
  obtain ⟨W2, hW2⟩ : ∃ W2, W1.putObj (B + 3) (.loop { layRec fn s B .ready none with state := .busy }) = W2 := ⟨_, rfl⟩
  rw [hW2] at hbr
  have hg2 := grownBy_putObj' W1 (B + 3) (.loop { layRec fn s B .ready none with state := .busy })
  rw [hW2] at hg2
  have hc2 : W2.heap[B + 1]? = some (.cells #[.string rest] 9 (0, 0)) := by rw [← hW2]; exact (World.putObj_heap_other (by omega)).trans hc1
  have hL2 : W2.heap[B + 3]? = some (.loop { layRec fn s B .ready none with state := .busy }) := by rw [← hW2]; exact World.putObj_heap_same hl3
  have hK2 : W2.heap[B + 2]? = some (.deferred (some [])) := by rw [← hW2]; exact (World.putObj_heap_other (by omega)).trans hK1
  have hb2 : Lib.IsBuilderF 212 5 B B (Lib.byteCells out) W2 := IsBuilderF.keptBy hb1 hg2 (by omega) hL1 (by rintro c fz e; cases e)
  have hbel2 : Below B w W2 := by rw [← hW2]; exact hbel1.trans (belowK_b (w := w) (by omega) W1 (B + 3) _ _ (by omega) hL1 rfl rfl)
  have hlen : out.length ≤ 2 * s.size := by
    have h1 := congrArg List.length hlaw
    have h2 := layB_len true s.data.toList
    rw [List.length_append] at h1
    rw [dlen] at h2
    omega
  have hls : line.size ≤ s0.size := by
    rw [← dlen, ← dlen, happ]; simp
  have hlaw' : layB true s0.data.toList = (if [46].isPrefixOf line.data.toList then [46] else []) ++ line.data.toList ++ layB true rest.data.toList := by
    rw [happ]; exact layB_line _ _ hl
  have hBW2 : B ≤ W2.heap.size := by have := (Array.getElem?_eq_some_iff.1 hL2).1; omega
  have fin : ∀ (out' : List UInt8) (W3 : World), Below B W2 W3 → Lib.OthersKept 5 (some B) W2 W3 → Lib.IsBuilderF 212 5 B B (Lib.byteCells out') W3 → out' ++ layB true rest.data.toList = layB true s.data.toList →
      ∃ v w', (Instr.endRound (B + 3) none).run Tryz.prog W3 = .ok v w' ∧ (Ending.returned v = .returned (.bool true) ∧ ∃ out', Mid s w (layRec fn s B .ready none) rest out' w') := by
    intro out' W3 hbl hok hbu hlw
    have hL3 := kept_tmp (T := 212) hok hL2 (by omega) (by rintro c fz e; cases e)
    have hl4 : B + 3 < W3.heap.size := (Array.getElem?_eq_some_iff.1 hL3).1
    refine ⟨_, _, run_endRound none hL3, rfl, out', ?_⟩
    have hg3 := grownBy_putObj' W3 (B + 3) (.loop { layRec fn s B .ready none with state := if (none : Option Code).isNone then .ready else .done, pending := none })
    refine ⟨?_, ?_, ?_, ?_, ?_, hlw, ?_⟩
    · rw [hB]; exact (World.putObj_heap_other (by omega)).trans (kept_tmp (T := 212) hok hc2 (by omega) (by rintro c fz e; cases e))
    · rw [hB]; exact IsBuilderF.keptBy hbu hg3 (by omega) hL3 (by rintro c fz e; cases e)
    · rw [hB]; exact World.putObj_heap_same hl4
    · rw [hB]; exact (World.putObj_heap_other (by omega)).trans (kept_tmp (T := 212) hok hK2 (by omega) (by rintro c fz e; cases e))
    · rw [hB]; exact (hbel2.trans hbl).trans (belowK_b (w := w) (by omega) W3 (B + 3) _ _ (by omega) hL3 rfl rfl)
    · have := congrArg List.length happ
      rw [List.length_append, dlen, dlen, dlen] at this
      omega
  unfold layAssign
  gi_wp2
  unfold layBody
  cases hp : Lib.hasPrefix line.data.toList [46] with
  | true =>
    have hp' : ([46] : List UInt8).isPrefixOf line.data.toList = true := hp
    gi_wp2_with (first
      | (refine ⟨trivial, ?_⟩; gi_at_call 59; refine (CallsIn.inRound _ (callsIn_wide.2 (Tryz.strings_HasPrefix _ _ _))).mono ?_; rintro e w' ⟨rfl, hw⟩; rw [hw]; clear hw)
      | (refine ⟨trivial, ?_⟩; gi_at_call 202; refine (CallsIn.inRound _ (callsIn_wide.2 (Tryz.Builder_WriteByte_z _ _ _ _ _ hb2 (by rw [Lib.byteCells_length]; omega) hBW2))).mono ?_; rintro e w3 ⟨rfl, hb3, hbl3, hok3⟩))
    refine ⟨trivial, ?_⟩
    refine (CallsIn.inRound _ (callsIn_wide.2 (Tryz.Builder_WriteString_z _ _ _ _ _ (.inr hb3) (by rw [List.length_append, Lib.byteCells_length]; simp only [List.length_cons, List.length_nil]; omega) (by have := hbl3.size; omega)))).mono ?_
    rintro e w4 ⟨rfl, hb4, hbl4, hok4⟩
    gi_wp2
    refine fin (out ++ ([46] ++ line.data.toList)) w4 (hbl3.trans hbl4) (hok3.trans hok4) (.inr ?_) ?_
    · have : Lib.byteCells (out ++ ([46] ++ line.data.toList)) = Lib.byteCells out ++ [Value.int .u8 46] ++ Lib.strCells line := by
        simp [Lib.byteCells, Lib.strCells]
      rw [this]; exact hb4
    · rw [← hlaw, hlaw', hp', if_pos rfl]; simp
  | false =>
    have hp' : ([46] : List UInt8).isPrefixOf line.data.toList = false := hp
    gi_wp2_with (first
      | (refine ⟨trivial, ?_⟩; gi_at_call 59; refine (CallsIn.inRound _ (callsIn_wide.2 (Tryz.strings_HasPrefix _ _ _))).mono ?_; rintro e w' ⟨rfl, hw⟩; rw [hw]; clear hw)
      | (refine ⟨trivial, ?_⟩; gi_at_call 203; refine (CallsIn.inRound _ (callsIn_wide.2 (Tryz.Builder_WriteString_z _ _ _ _ _ hb2 (by rw [Lib.byteCells_length]; omega) hBW2))).mono ?_; rintro e w3 ⟨rfl, hb3, hbl3, hok3⟩))
    refine fin (out ++ line.data.toList) w3 hbl3 hok3 (.inr ?_) ?_
    · have : Lib.byteCells (out ++ line.data.toList) = Lib.byteCells out ++ Lib.strCells line := by
        simp [Lib.byteCells, Lib.strCells]
      rw [this]; exact hb3
    · rw [← hlaw, hlaw', hp']; simp
set_option maxRecDepth 100000 in
theorem lay_calls (s : ByteArray) (w : World) (hs : s.size ≤ 35184372088832) :
    Calls Tryz.prog 176 #[.string s] w fun e w' => e = .returned (.string ⟨(layB true s.data.toList ++ [46, 13, 10]).toArray⟩) ∧ Below w.heap.size w w' := by
  refine (callsIn_wide (n := 4)).1 ?_
  refine callsIn_of_wp_marks Tryz.func176 rfl trivial ?_ rfl
  simp only [Tryz.ntmps176, List.size_toArray, List.length_cons, List.length_nil, Nat.reduceAdd, Nat.reduceSub, Array.replicate_succ, Array.replicate_zero, List.push_toArray, List.append_toArray, List.nil_append, List.cons_append]
  gi_wp2_with (refine ⟨trivial, ?_⟩; gi_at_call 201; refine (callsIn_wide.2 (lines_calls _ _)).mono ?_; rintro e w' ⟨rfl, hw⟩; rw [hw]; clear hw)
  refine wpIn_rangeFunc ?_
  intro fn hfn
  obtain ⟨W0, hW0⟩ : ∃ W0, (w.alloc (.cells #[.pointer none, .slice none 0 0] 212)).alloc (.cells #[.string s] 9) = W0 := ⟨_, rfl⟩
  have hs0 : W0.heap.size = w.heap.size + 2 := by rw [← hW0]; simp
  have hc0 : W0.heap[w.heap.size + 1]? = some (.cells #[.string s] 9 (0, 0)) := by
    rw [← hW0]
    have := World.alloc_heap_new (w.alloc (.cells #[.pointer none, .slice none 0 0] 212)) (.cells #[.string s] 9)
    rwa [World.size_alloc] at this
  have hb0 : Lib.IsBuilderF 212 5 w.heap.size w.heap.size (Lib.byteCells []) W0 := by
    rw [← hW0]
    exact IsBuilderF.alloc (Lib.IsBuilderF.of (Lib.fresh_isBuilder 212 5 w)) _
  have hbel0 : Below w.heap.size w W0 := by
    rw [← hW0]
    exact ((Below.refl _ w).alloc (Nat.le_refl _) _).alloc (by simp) _
  rw [hW0]
  obtain ⟨W1, hW1⟩ : ∃ W1, (W0.alloc (.deferred (some []))).alloc (.loop (layRec fn s w.heap.size .ready none)) = W1 := ⟨_, rfl⟩
  have hM : Mid s w (layRec fn s w.heap.size .ready none) s [] W1 := by
    refine ⟨?_, ?_, ?_, ?_, ?_, rfl, Nat.le_refl _⟩
    · rw [← hW1]; exact (Below.heap_alloc _ _ _ (by simp; omega)).trans ((Below.heap_alloc _ _ _ (by omega)).trans hc0)
    · rw [← hW1]; exact IsBuilderF.alloc (IsBuilderF.alloc hb0 _) _
    · rw [← hW1]
      have := World.alloc_heap_new (W0.alloc (.deferred (some []))) (.loop (layRec fn s w.heap.size .ready none))
      rwa [World.size_alloc, hs0] at this
    · rw [← hW1, ← hs0]; exact (Below.heap_alloc _ _ _ (by simp)).trans (World.alloc_heap_new W0 _)
    · rw [← hW1]; exact (hbel0.alloc (by omega) _).alloc (by simp; omega) _
  refine ⟨w.heap.size + 3, [{ target := .collected (w.heap.size + 2), args := #[] }], W1, { target := .fn (.func 216) #[.pointer (some ⟨w.heap.size + 1, 0, none⟩)], args := #[.func (.yield (w.heap.size + 3)) #[] #[]] }, W1, 216,
    #[.func (.yield (w.heap.size + 3)) #[] #[], .pointer (some ⟨w.heap.size + 1, 0, none⟩)], W1, ?_, ?_, fun _ _ => trivial, ?_, fun _ => by omega, ?_⟩
  · rw [← hW1]
    have := run_enterLoop_outer (P := Tryz.prog) (w := W0) fn (layTmps s w.heap.size) #[7] layAssign layBody
    rw [hs0] at this
    exact this
  · simp [resolve, go_sem]
  · simp [invoke, go_sem]
  · refine (lines_in 3 (by omega) (w.heap.size + 3) (w.heap.size + 1) (fun rest W => ∃ out, Mid s w (layRec fn s w.heap.size .ready none) rest out W)
      (fun rest W ⟨out, h⟩ => h.c) (fun rest W ⟨out, h⟩ => by have := h.le; omega) (fun rest W ⟨out, h⟩ => ⟨out, h.drew⟩)
      (fun s0 line rest W ⟨out, h⟩ happ hl => lay_round 2 (by omega) fn s w hs s0 line rest out W h happ hl) s W1 ⟨[], hM⟩).mono ?_
    rintro e W2 ⟨⟨v, rfl⟩, out, h2⟩
    have hend := run_endLoop (P := Tryz.prog) h2.L (by simp [layRec])
    have hg3 := grownBy_putObj' W2 (w.heap.size + 3) (.loop { layRec fn s w.heap.size .ready none with state := .exhausted })
    have hlt3 : w.heap.size + 3 < W2.heap.size := (Array.getElem?_eq_some_iff.1 h2.L).1
    obtain ⟨W3, hW3⟩ : ∃ W3, W2.putObj (w.heap.size + 3) (.loop { layRec fn s w.heap.size .ready none with state := .exhausted }) = W3 := ⟨_, rfl⟩
    rw [hW3] at hend hg3
    have hK3 : W3.heap[w.heap.size + 2]? = some (.deferred (some [])) := by rw [← hW3]; exact (World.putObj_heap_other (by omega)).trans h2.K
    have hb3 : Lib.IsBuilderF 212 5 w.heap.size w.heap.size (Lib.byteCells out) W3 := IsBuilderF.keptBy h2.b hg3 (by omega) h2.L (by rintro c fz e; cases e)
    have hbel3 : Below w.heap.size w W3 := by rw [← hW3]; exact h2.bel.trans (belowK_b (w := w) (by omega) W2 _ _ _ (by omega) h2.L rfl rfl)
    have hout : out = layB true s.data.toList := by
      have := h2.law
      rw [show (ByteArray.empty).data.toList = ([] : List UInt8) from rfl] at this
      simpa [layB] using this
    have hlen : out.length ≤ 2 * s.size := by
      have h2 := layB_len true s.data.toList
      rw [dlen] at h2
      rw [hout]; exact h2
    have hsz3 := hbel3.size
    refine ⟨none, W3, hend, ?_⟩
    have hwr := Tryz.Builder_WriteString_z w.heap.size w.heap.size (Lib.byteCells out) ⟨#[46, 13, 10]⟩ W3 hb3 (by rw [Lib.byteCells_length]; show _ + 3 ≤ _; omega) hbel3.size
    gi_wp2_with (refine ⟨trivial, ?_⟩; gi_at_call 203; refine (callsIn_wide.2 hwr).mono ?_; rintro e w4 ⟨rfl, hb4, hbl4, hok4⟩)
    refine ⟨trivial, ?_⟩
    have hout4 : Lib.byteCells out ++ Lib.strCells ⟨#[46, 13, 10]⟩ = Lib.byteCells (layB true s.data.toList ++ [46, 13, 10]) := by
      rw [← hout]; simp [Lib.byteCells, Lib.strCells]
    rw [hout4] at hb4
    refine (callsIn_wide.2 (Tryz.Builder_String_any_z w.heap.size w.heap.size (layB true s.data.toList ++ [46, 13, 10]) w4 (.inr hb4) (by have := hbl4.size; omega))).mono ?_
    rintro e w5 ⟨rfl, hbl5, hok5⟩
    gi_wp2
    have hK5 : w5.heap[w.heap.size + 2]? = some (.deferred (some [])) := kept_tmp (T := 212) (hok4.trans hok5) hK3 (by omega) (by rintro c fz e; cases e)
    have hsz4 := hbl4.size
    have hsz5 := hbl5.size
    refine ⟨by simp, .inl ⟨_, _, rfl, run_takeDeferred hK5, ?_⟩⟩
    refine ⟨_, results_tmp rfl _ _ _, rfl, ?_⟩
    exact ((hbel3.trans hbl4).trans hbl5).trans (belowK_b (w := w) (Nat.le_refl _) w5 (w.heap.size + 2) _ _ (by omega) hK5 rfl rfl)
end Go.Proofs.YtilagaapfbfkkaaGreatDoor.Dt
namespace Go.Proofs.YtilagaapfbfkkaaGreatDoor.Ab
open Go Go.RowKit Go.Proofs.YtilagaapfbfkkaaGreatDoorW.PrintWords
set_option maxRecDepth 100000
variable {G : World → Prop}
theorem condT {α : Type} {b : Bool} (x y : α) (h : b = true) : (bif b then x else y) = x := by rw [h]; rfl
theorem condF {α : Type} {b : Bool} (x y : α) (h : b = false) : (bif b then x else y) = y := by rw [h]; rfl
def layO (s : ByteArray) : ByteArray := ⟨(Dt.layB true s.data.toList ++ [46, 13, 10]).toArray⟩
theorem layO_size (s : ByteArray) : (layO s).size ≤ 2 * s.size + 3 := by
  have h1 := Dt.layB_len true s.data.toList
  have h2 : (layO s).size = (Dt.layB true s.data.toList).length + 3 := by
    show (Dt.layB true s.data.toList ++ [46, 13, 10]).toArray.size = _
    simp
  rw [Dt.dlen] at h1
  omega
def q176 : Sense := pureS fun xs K => ∃ s : ByteArray, xs = [.one (.str s)] ∧ s.size ≤ big ∧ K (.ret (.one (.str (layO s))))
theorem qk176 : SenseOK G Tryz.prog 176 q176 := SenseOK.lib fun xs K h => by
  obtain ⟨s, rfl, hs, hk⟩ := h
  refine ⟨[.string s], fun w I lk vs hv => ?_, .ret (.one (.str (layO s))), .returned (.string (layO s)), hk, fun w I lk => ⟨_, rfl, rfl⟩, fun w _ => Dt.lay_calls s w (by simp only [big] at hs; omega)⟩
  match vs, hv with
  | [v], ⟨h1, _⟩ =>
    have : v = .string s := h1
    rw [this]
def Γ141q : Sems := ext 172 q172 (ext 173 q173 (ext 174 q174 (ext 175 q175 (Γ0))))
theorem Γ141q.ok : SemsOK G Tryz.prog Γ141q := ((((Γ0.ok.ext Tryz.func175 rfl (by decide) qk175).ext Tryz.func174 rfl (by decide) qk174).ext Tryz.func173 rfl (by decide) qk173).ext Tryz.func172 rfl (by decide) qk172)
def namedM (m : Md) (s : Sd) (o : ByteArray) (c : Int) : Sd × ByteArray :=
  let s2 : Sd := bif goodC c then { s with tk := s.tk ++ [s.at_], at_ := s.at_ + 1 } else { s with cd := s.cd.set s.at_.toNat c, at_ := s.at_ + 1 }
  if s2.at_ < s2.rc.length then (s2, nameO m s2 o)
  else if s2.tk.length = 0 then (quitS s2, quitO o)
  else ({ s2 with st := 4, at_ := 0 }, sayO o (⟨#[68, 65, 84, 65]⟩ : ByteArray))
def q141 : Sense := ⟨false, fun os xs K => ∃ (s : Sd) (m : Md) (h o : ByteArray) (c : Int), stS 96 [.one (.int .i64 c)] (stpO m h o ∧ (wfS m s ∧ ((0 ≤ s.at_ ∧ s.at_ < s.rc.length) ∧ s.tk.length ≤ s.rc.length))) s m h o (namedM m s o c).1 (namedM m s o c).2 os xs K⟩
theorem qk141 : SenseOK G Tryz.prog 141 q141 := SenseOK.anyL Γ141q.ok (fun _ => []) [.mv 2] Tryz.func141 fun os xs K hh => by
  obtain ⟨s, m, h, o, c, rfl, rfl, ⟨⟨hb, hh, had⟩, ⟨hs, ⟨hr0, hrc⟩, hcd⟩, ⟨ha0, ha1⟩, htk⟩, hk⟩ := hh
  have hb' := hb
  simp only [huge] at hb'
  have hl0 := hs.1
  simp only [big] at hl0
  obtain ⟨n, hn⟩ : ∃ n : Nat, s.at_ = n := ⟨s.at_.toNat, by omega⟩
  have w1 := IntWalk.i64_in (s.at_ + 1) (by omega)
  have hd : ((⟨#[68, 65, 84, 65]⟩ : ByteArray)).size = 4 := rfl
  have fin : ∀ s2 : Sd, s2.rc = s.rc → s2.at_ = s.at_ + 1 → (bif goodC c then { s with tk := s.tk ++ [s.at_], at_ := s.at_ + 1 } else { s with cd := s.cd.set s.at_.toNat c, at_ := s.at_ + 1 } : Sd) = s2 →
      namedM m s o c = if s.at_ + 1 < s.rc.length then (s2, nameO m s2 o) else if s2.tk.length = 0 then (quitS s2, quitO o) else ({ s2 with st := 4, at_ := 0 }, sayO o (⟨#[68, 65, 84, 65]⟩ : ByteArray)) := fun s2 h1 h2 h3 => by
    rw [namedM]
    simp only [h3, h1, h2]
  cases g1 : goodC c with
  | true =>
    have hq := fin { s with tk := s.tk ++ [s.at_], at_ := s.at_ + 1 } rfl rfl (by rw [g1]; rfl)
    rw [hq] at hk
    have hcap : s.tk.length + 1 ≤ 17592186044416 := by omega
    refine zs1 g1 ?_
    refine ⟨[2], (.take 0 (.take 1 (.take 2 (.take 3 (.take 4 (.take 5 (.take 6 (.take 7 (.take 8 (.take 9 (.take 10 (.br 11 (.br 12 (.rest 13) .nil) .nil)))))))))))), ⟨by kernel_rfl⟩, ?_⟩
    refine zs1 w1 ?_
    by_cases g2 : s.at_ + 1 < s.rc.length
    · have e2 : decide (s.at_ + 1 < s.rc.length) = true := decide_eq_true g2
      rw [if_pos g2] at hk
      refine ⟨[], (.take 0 (.take 1 (.take 2 (.take 3 (.take 4 (.take 5 (.take 6 (.take 7 (.take 8 (.take 9 (.take 10 (.take 11 (.take 12 (.take 13 .done)))))))))))))), ⟨by kernel_rfl⟩, ?_⟩
      refine zs1 e2 ?_
      refine ⟨{ s with tk := s.tk ++ [s.at_], at_ := s.at_ + 1 }, m, h, o, rfl, rfl, ⟨hb, ⟨⟨Int.le_add_one ha0, g2⟩, hrc⟩, had⟩, ?_⟩
      refine zy ?_
      exact hk
    · have e2 : decide (s.at_ + 1 < s.rc.length) = false := decide_eq_false g2
      have h0 : ¬ (s.tk ++ [s.at_]).length = 0 := by simp
      have h0' : (((s.tk ++ [s.at_]).length : Int) == 0) = false := by simp; omega
      rw [if_neg g2, if_neg h0] at hk
      refine ⟨[], (.take 0 (.take 1 (.take 2 (.take 3 (.take 4 (.take 5 (.take 6 (.take 7 (.take 8 (.take 9 (.take 10 (.take 11 (.take 12 (.take 13 .done)))))))))))))), ⟨by kernel_rfl⟩, ?_⟩
      refine zs2 e2 h0' ?_
      refine ⟨{ s with tk := s.tk ++ [s.at_], at_ := s.at_ + 1 }, m, h, o, _, rfl, rfl, (by simp only [huge]; omega), ?_⟩
      refine zy ?_
      exact hk
  | false =>
    have hq := fin { s with cd := s.cd.set s.at_.toNat c, at_ := s.at_ + 1 } rfl rfl (by rw [g1]; rfl)
    rw [hq] at hk
    have ic : (0 : Int) ≤ s.at_ ∧ s.at_ < s.cd.length := ⟨ha0, by omega⟩
    refine zs1 g1 ?_
    refine ⟨[], (.take 0 (.take 1 (.take 2 (.take 3 (.take 4 (.take 5 (.take 6 (.take 7 (.take 8 (.take 9 (.take 10 (.rest 11)))))))))))), ⟨by kernel_rfl⟩, ?_⟩
    refine zs1 w1 ?_
    by_cases g2 : s.at_ + 1 < s.rc.length
    · have e2 : decide (s.at_ + 1 < s.rc.length) = true := decide_eq_true g2
      rw [if_pos g2] at hk
      refine ⟨[], (.take 0 (.take 1 (.take 2 (.take 3 (.take 4 (.take 5 (.take 6 (.take 7 (.take 8 (.take 9 (.take 10 (.take 11 (.take 12 (.take 13 .done)))))))))))))), ⟨by kernel_rfl⟩, ?_⟩
      refine zs1 e2 ?_
      refine ⟨{ s with cd := s.cd.set s.at_.toNat c, at_ := s.at_ + 1 }, m, h, o, rfl, rfl, ⟨hb, ⟨⟨Int.le_add_one ha0, g2⟩, hrc⟩, had⟩, ?_⟩
      refine zy ?_
      exact hk
    · have e2 : decide (s.at_ + 1 < s.rc.length) = false := decide_eq_false g2
      rw [if_neg g2] at hk
      by_cases h0 : s.tk.length = 0
      · have h0' : ((s.tk.length : Int) == 0) = true := by simpa using h0
        have hk' : K (stB 96 (quitS { s with cd := s.cd.set s.at_.toNat c, at_ := s.at_ + 1 }) m h (quitO o) :: (quitS { s with cd := s.cd.set s.at_.toNat c, at_ := s.at_ + 1 }).os3T) (.ret (.tup [])) := by
          rw [if_pos (show ({ s with cd := s.cd.set s.at_.toNat c, at_ := s.at_ + 1 } : Sd).tk.length = 0 from h0)] at hk; exact hk
        refine ⟨[], (.take 0 (.take 1 (.take 2 (.take 3 (.take 4 (.take 5 (.take 6 (.take 7 (.take 8 (.take 9 (.take 10 (.take 11 (.take 12 (.take 13 .done)))))))))))))), ⟨by kernel_rfl⟩, ?_⟩
        refine zs2 e2 h0' ?_
        refine ⟨{ s with cd := s.cd.set s.at_.toNat c, at_ := s.at_ + 1 }, m, h, o, rfl, rfl, (by simp only [huge]; omega), ?_⟩
        refine zy ?_
        exact hk'
      · have h0' : ((s.tk.length : Int) == 0) = false := by simpa using h0
        rw [if_neg (show ¬ ({ s with cd := s.cd.set s.at_.toNat c, at_ := s.at_ + 1 } : Sd).tk.length = 0 from h0)] at hk
        refine ⟨[], (.take 0 (.take 1 (.take 2 (.take 3 (.take 4 (.take 5 (.take 6 (.take 7 (.take 8 (.take 9 (.take 10 (.take 11 (.take 12 (.take 13 .done)))))))))))))), ⟨by kernel_rfl⟩, ?_⟩
        refine zs2 e2 h0' ?_
        refine ⟨{ s with cd := s.cd.set s.at_.toNat c, at_ := s.at_ + 1 }, m, h, o, _, rfl, rfl, (by simp only [huge]; omega), ?_⟩
        refine zy ?_
        exact hk
def Γ142q : Sems := ext 172 q172 (ext 174 q174 (ext 176 q176 (ext 177 q177 (Γ0))))
theorem Γ142q.ok : SemsOK G Tryz.prog Γ142q := ((((Γ0.ok.ext Tryz.func177 rfl (by decide) qk177).ext Tryz.func176 rfl (by decide) qk176).ext Tryz.func174 rfl (by decide) qk174).ext Tryz.func172 rfl (by decide) qk172)
def askedM (m : Md) (s : Sd) (o : ByteArray) (c : Int) : Sd × ByteArray :=
  if c = 354 then ({ s with st := 5, at_ := 0 }, o ++ layO m.body)
  else (quitS { s with cd := fillT s.tk s.cd (bif goodC c then 451 else c) }, quitO o)
def q142 : Sense := ⟨false, fun os xs K => ∃ (s : Sd) (m : Md) (h o : ByteArray) (c : Int), stS 96 [.one (.int .i64 c)] ((stpO m h o ∧ m.body.size ≤ big) ∧ (s.tk.length ≤ big ∧ toksOK s)) s m h o (askedM m s o c).1 (askedM m s o c).2 os xs K⟩
theorem qk142 : SenseOK G Tryz.prog 142 q142 := SenseOK.anyL Γ142q.ok (fun _ => []) [.mv 2] Tryz.func142 fun os xs K hh => by
  obtain ⟨s, m, h, o, c, rfl, rfl, ⟨⟨⟨hb, hh, had⟩, hbd⟩, htk, htok⟩, hk⟩ := hh
  have hb' := hb
  have hbd' := hbd
  simp only [huge] at hb'
  simp only [big] at hbd'
  by_cases g0 : c = 354
  · have e0 : (c == 354) = true := by simpa using g0
    have hl := layO_size m.body
    rw [askedM, if_pos g0] at hk
    refine zs1 e0 ?_
    refine ⟨[], (.take 0 (.take 1 (.take 2 (.take 3 (.take 4 (.take 5 (.take 6 (.take 7 (.take 8 (.br 9 (.rest 10) .nil)))))))))), ⟨by kernel_rfl⟩, ?_⟩
    refine zv ?_
    exact hk
  have e0 : (c == 354) = false := by simpa using g0
  rw [askedM, if_neg g0] at hk
  cases g1 : goodC c with
  | true =>
    rw [g1] at hk
    refine zs2 e0 g1 ?_
    refine ⟨s, m, h, o, 451, rfl, rfl, ⟨htk, htok⟩, ?_⟩
    refine zy ?_
    refine ⟨{ s with cd := fillT s.tk s.cd 451 }, m, h, o, rfl, rfl, (by simp only [huge]; omega), ?_⟩
    refine zy ?_
    exact hk
  | false =>
    rw [g1] at hk
    refine zs2 e0 g1 ?_
    refine ⟨s, m, h, o, c, rfl, rfl, ⟨htk, htok⟩, ?_⟩
    refine zy ?_
    refine ⟨{ s with cd := fillT s.tk s.cd c }, m, h, o, rfl, rfl, (by simp only [huge]; omega), ?_⟩
    refine zy ?_
    exact hk
def Γ143q : Sems := ext 174 q174 (ext 177 q177 (Γ0))
theorem Γ143q.ok : SemsOK G Tryz.prog Γ143q := ((Γ0.ok.ext Tryz.func177 rfl (by decide) qk177).ext Tryz.func174 rfl (by decide) qk174)
def c451 (c : Int) : Int := bif decide (c ≥ 300) && decide (c < 400) then 451 else c
def bodiedM (s : Sd) (o : ByteArray) (c : Int) : Sd × ByteArray :=
  bif s.lm then
    (let s2 : Sd := { s with cd := s.cd.set (rdx s.tk s.at_.toNat IT.dflt).toNat (c451 c), at_ := s.at_ + 1 }
     if s.at_ + 1 = s.tk.length then (quitS s2, quitO o) else (s2, o))
  else (quitS { s with cd := fillT s.tk s.cd (c451 c) }, quitO o)
def q143 : Sense := ⟨false, fun os xs K => ∃ (s : Sd) (m : Md) (h o : ByteArray) (c : Int), stS 96 [.one (.int .i64 c)] (stpO m h o ∧ ((s.tk.length ≤ big ∧ toksOK s) ∧ (0 ≤ s.at_ ∧ s.at_ < s.tk.length))) s m h o (bodiedM s o c).1 (bodiedM s o c).2 os xs K⟩
theorem qk143 : SenseOK G Tryz.prog 143 q143 := SenseOK.anyL Γ143q.ok (fun _ => []) [.mv 2] Tryz.func143 fun os xs K hh => by
  obtain ⟨s, m, h, o, c, rfl, rfl, ⟨⟨hb, hh, had⟩, ⟨htk, htok⟩, ha0, ha1⟩, hk⟩ := hh
  have hb' := hb
  have htk' := htk
  simp only [huge] at hb'
  simp only [big] at htk'
  have w1 := IntWalk.i64_in (s.at_ + 1) (by omega)
  have step : ∀ d : Int, c451 c = d → (s.lm = false → K (stB 96 (quitS { s with cd := fillT s.tk s.cd d }) m h (quitO o) :: (quitS { s with cd := fillT s.tk s.cd d }).os3T) (.ret (.tup []))) ∧
      (s.lm = true → s.at_ + 1 = s.tk.length → K (stB 96 (quitS { s with cd := s.cd.set (rdx s.tk s.at_.toNat IT.dflt).toNat d, at_ := s.at_ + 1 }) m h (quitO o) :: (quitS { s with cd := s.cd.set (rdx s.tk s.at_.toNat IT.dflt).toNat d, at_ := s.at_ + 1 }).os3T) (.ret (.tup []))) ∧
      (s.lm = true → ¬ s.at_ + 1 = s.tk.length → K (stB 96 { s with cd := s.cd.set (rdx s.tk s.at_.toNat IT.dflt).toNat d, at_ := s.at_ + 1 } m h o :: ({ s with cd := s.cd.set (rdx s.tk s.at_.toNat IT.dflt).toNat d, at_ := s.at_ + 1 } : Sd).os3T) (.ret (.tup []))) := fun d hd => by
    subst hd
    refine ⟨fun hl => ?_, fun hl h2 => ?_, fun hl h2 => ?_⟩
    · rw [bodiedM, condF _ _ hl] at hk; exact hk
    · rw [bodiedM, condT _ _ hl] at hk; simp only [if_pos h2] at hk; exact hk
    · rw [bodiedM, condT _ _ hl] at hk; simp only [if_neg h2] at hk; exact hk
  clear hk
  obtain ⟨x, hx⟩ : ∃ x, s.tk[s.at_.toNat]? = some x := ⟨_, List.getElem?_eq_getElem (by omega)⟩
  have rx : rdx s.tk s.at_.toNat IT.dflt = x := by rw [rdx, List.getD_eq_getElem?_getD, hx]; rfl
  have hxt := htok x (List.mem_of_getElem? hx)
  have ix : (0 : Int) ≤ s.at_ ∧ s.at_ < s.tk.length := ⟨ha0, ha1⟩
  rw [rx] at step
  cases g1 : decide (c ≥ 300) with
  | false =>
    obtain ⟨k1, k2, k3⟩ := step c (by unfold c451; rw [g1]; rfl)
    refine zs1 g1 ?_
    refine Br.mk (fun g3 => ?_) (fun g3 => ?_)
    · have g4 : s.lm = false := by simpa using g3
      refine zs0 ?_
      refine ⟨s, m, h, o, c, rfl, rfl, ⟨htk, htok⟩, ?_⟩
      refine zy ?_
      refine ⟨{ s with cd := fillT s.tk s.cd c }, m, h, o, rfl, rfl, (by simp only [huge]; omega), ?_⟩
      refine zy ?_
      exact k1 g4
    have g4 : s.lm = true := by simpa using g3
    refine zs0 ?_
    refine ⟨[], (.take 0 (.take 1 (.take 2 (.take 3 (.take 4 (.take 5 (.take 6 (.take 7 (.take 8 (.take 9 (.take 10 (.take 11 (.take 12 (.take 13 (.take 14 (.take 15 (.take 16 (.take 17 (.rest 18))))))))))))))))))), ⟨by kernel_rfl⟩, ?_⟩
    refine zs2 rx w1 ?_
    refine ⟨[], (.take 0 (.take 1 (.take 2 (.take 3 (.take 4 (.take 5 (.take 6 (.take 7 (.take 8 (.take 9 (.take 10 (.take 11 .done)))))))))))), ⟨by kernel_rfl⟩, ?_⟩
    by_cases g5 : s.at_ + 1 = s.tk.length
    · have e5 : (s.at_ + 1 == (s.tk.length : Int)) = true := by simpa using g5
      refine zs2 w1 e5 ?_
      refine ⟨{ s with cd := s.cd.set x.toNat c, at_ := s.at_ + 1 }, m, h, o, rfl, rfl, (by simp only [huge]; omega), ?_⟩
      refine zy ?_
      exact k2 g4 g5
    · have e5 : (s.at_ + 1 == (s.tk.length : Int)) = false := by simpa using g5
      refine zs2 w1 e5 ?_
      exact k3 g4 g5
  | true =>
  cases g2 : decide (c < 400) with
  | false =>
    obtain ⟨k1, k2, k3⟩ := step c (by unfold c451; rw [g1, g2]; rfl)
    refine zs2 g1 g2 ?_
    refine Br.mk (fun g3 => ?_) (fun g3 => ?_)
    · have g4 : s.lm = false := by simpa using g3
      refine zs0 ?_
      refine ⟨s, m, h, o, c, rfl, rfl, ⟨htk, htok⟩, ?_⟩
      refine zy ?_
      refine ⟨{ s with cd := fillT s.tk s.cd c }, m, h, o, rfl, rfl, (by simp only [huge]; omega), ?_⟩
      refine zy ?_
      exact k1 g4
    have g4 : s.lm = true := by simpa using g3
    refine zs0 ?_
    refine ⟨[], (.take 0 (.take 1 (.take 2 (.take 3 (.take 4 (.take 5 (.take 6 (.take 7 (.take 8 (.take 9 (.take 10 (.take 11 (.take 12 (.take 13 (.take 14 (.take 15 (.take 16 (.take 17 (.rest 18))))))))))))))))))), ⟨by kernel_rfl⟩, ?_⟩
    refine zs2 rx w1 ?_
    refine ⟨[], (.take 0 (.take 1 (.take 2 (.take 3 (.take 4 (.take 5 (.take 6 (.take 7 (.take 8 (.take 9 (.take 10 (.take 11 .done)))))))))))), ⟨by kernel_rfl⟩, ?_⟩
    by_cases g5 : s.at_ + 1 = s.tk.length
    · have e5 : (s.at_ + 1 == (s.tk.length : Int)) = true := by simpa using g5
      refine zs2 w1 e5 ?_
      refine ⟨{ s with cd := s.cd.set x.toNat c, at_ := s.at_ + 1 }, m, h, o, rfl, rfl, (by simp only [huge]; omega), ?_⟩
      refine zy ?_
      exact k2 g4 g5
    · have e5 : (s.at_ + 1 == (s.tk.length : Int)) = false := by simpa using g5
      refine zs2 w1 e5 ?_
      exact k3 g4 g5
  | true =>
    obtain ⟨k1, k2, k3⟩ := step 451 (by unfold c451; rw [g1, g2]; rfl)
    refine zs2 g1 g2 ?_
    refine Br.mk (fun g3 => ?_) (fun g3 => ?_)
    · have g4 : s.lm = false := by simpa using g3
      refine zs0 ?_
      refine ⟨s, m, h, o, 451, rfl, rfl, ⟨htk, htok⟩, ?_⟩
      refine zy ?_
      refine ⟨{ s with cd := fillT s.tk s.cd 451 }, m, h, o, rfl, rfl, (by simp only [huge]; omega), ?_⟩
      refine zy ?_
      exact k1 g4
    have g4 : s.lm = true := by simpa using g3
    refine zs0 ?_
    refine ⟨[], (.take 0 (.take 1 (.take 2 (.take 3 (.take 4 (.take 5 (.take 6 (.take 7 (.take 8 (.take 9 (.take 10 (.take 11 (.take 12 (.take 13 (.take 14 (.take 15 (.take 16 (.take 17 (.rest 18))))))))))))))))))), ⟨by kernel_rfl⟩, ?_⟩
    refine zs2 rx w1 ?_
    refine ⟨[], (.take 0 (.take 1 (.take 2 (.take 3 (.take 4 (.take 5 (.take 6 (.take 7 (.take 8 (.take 9 (.take 10 (.take 11 .done)))))))))))), ⟨by kernel_rfl⟩, ?_⟩
    by_cases g5 : s.at_ + 1 = s.tk.length
    · have e5 : (s.at_ + 1 == (s.tk.length : Int)) = true := by simpa using g5
      refine zs2 w1 e5 ?_
      refine ⟨{ s with cd := s.cd.set x.toNat 451, at_ := s.at_ + 1 }, m, h, o, rfl, rfl, (by simp only [huge]; omega), ?_⟩
      refine zy ?_
      exact k2 g4 g5
    · have e5 : (s.at_ + 1 == (s.tk.length : Int)) = false := by simpa using g5
      refine zs2 w1 e5 ?_
      exact k3 g4 g5
def Γ105q : Sems := ext 141 q141 (ext 142 q142 (ext 143 q143 (ext 144 q144 (Γ0))))
theorem Γ105q.ok : SemsOK G Tryz.prog Γ105q := ((((Γ0.ok.ext Tryz.func144 rfl (by decide) qk144).ext Tryz.func143 rfl (by decide) qk143).ext Tryz.func142 rfl (by decide) qk142).ext Tryz.func141 rfl (by decide) qk141)
def goesM (m : Md) (h : ByteArray) (s : Sd) (o : ByteArray) (c : Int) : Sd × ByteArray :=
  if s.st = 3 then namedM m s o c else if s.st = 4 then askedM m s o c else if s.st = 5 then bodiedM s o c else if s.st = 6 then ({ s with st := 7 }, o) else beginM m h s o c
def stdS (s : Sd) : Prop := (s.st = 3 → (0 ≤ s.at_ ∧ s.at_ < s.rc.length) ∧ s.tk.length ≤ s.rc.length) ∧ (s.st = 4 → toksOK s) ∧ (s.st = 5 → toksOK s ∧ (0 ≤ s.at_ ∧ s.at_ < s.tk.length))
def q105 : Sense := ⟨false, fun os xs K => ∃ (s : Sd) (m : Md) (h o : ByteArray) (c : Int), stS 96 [.one (.int .i64 c)] ((stpO m h o ∧ m.body.size ≤ big) ∧ (wfS m s ∧ stdS s)) s m h o (goesM m h s o c).1 (goesM m h s o c).2 os xs K⟩
theorem qk105 : SenseOK G Tryz.prog 105 q105 := SenseOK.anyL Γ105q.ok (fun _ => []) [.mv 2] Tryz.func105 fun os xs K hh => by
  obtain ⟨s, m, h, o, c, rfl, rfl, ⟨⟨hb, hbd⟩, hw, hs3, hs4, hs5⟩, hk⟩ := hh
  by_cases h3 : s.st = 3
  · have e3 : (s.st == 3) = true := by simpa using h3
    rw [goesM, if_pos h3] at hk
    refine zs1 e3 ?_
    refine ⟨s, m, h, o, c, rfl, rfl, ⟨hb, hw, hs3 h3⟩, ?_⟩
    refine zy ?_
    exact hk
  have e3 : (s.st == 3) = false := by simpa using h3
  by_cases h4 : s.st = 4
  · have e4 : (s.st == 4) = true := by simpa using h4
    rw [goesM, if_neg h3, if_pos h4] at hk
    refine zs2 e3 e4 ?_
    refine ⟨s, m, h, o, c, rfl, rfl, ⟨⟨hb, hbd⟩, hw.1.2.1, hs4 h4⟩, ?_⟩
    refine zy ?_
    exact hk
  have e4 : (s.st == 4) = false := by simpa using h4
  by_cases h5 : s.st = 5
  · have e5 : (s.st == 5) = true := by simpa using h5
    rw [goesM, if_neg h3, if_neg h4, if_pos h5] at hk
    refine zs3 e3 e4 e5 ?_
    refine ⟨s, m, h, o, c, rfl, rfl, ⟨hb, ⟨hw.1.2.1, (hs5 h5).1⟩, (hs5 h5).2⟩, ?_⟩
    refine zy ?_
    exact hk
  have e5 : (s.st == 5) = false := by simpa using h5
  by_cases h6 : s.st = 6
  · have e6 : (s.st == 6) = true := by simpa using h6
    rw [goesM, if_neg h3, if_neg h4, if_neg h5, if_pos h6] at hk
    refine zs4 e3 e4 e5 e6 ?_
    exact hk
  have e6 : (s.st == 6) = false := by simpa using h6
  rw [goesM, if_neg h3, if_neg h4, if_neg h5, if_neg h6] at hk
  refine zs4 e3 e4 e5 e6 ?_
  refine ⟨s, m, h, o, c, rfl, rfl, ⟨hb, hw⟩, ?_⟩
  refine zy ?_
  exact hk
end Go.Proofs.YtilagaapfbfkkaaGreatDoor.Ab
namespace Go.Proofs.YtilagaapfbfkkaaGreatDoor.Ab
open Go Go.RowKit Go.Proofs.YtilagaapfbfkkaaGreatDoorW.PrintWords
variable {X : Cx} {P : Program} {T : Tab} {Γ : Sems}
def swp (i j k : Nat) : Nat := bif Nat.beq k i then j else bif Nat.beq k j then i else k
theorem swp_i (i j : Nat) : swp i j i = j := by simp [swp]
theorem swp_j (i j : Nat) : swp i j j = i := by
  unfold swp
  cases h : Nat.beq j i with
  | true => exact Nat.eq_of_beq_eq_true h
  | false => simp
theorem swp_o {i j k : Nat} (h1 : k ≠ i) (h2 : k ≠ j) : swp i j k = k := by
  have e1 : Nat.beq k i = false := by cases h : Nat.beq k i with | true => exact absurd (Nat.eq_of_beq_eq_true h) h1 | false => rfl
  have e2 : Nat.beq k j = false := by cases h : Nat.beq k j with | true => exact absurd (Nat.eq_of_beq_eq_true h) h2 | false => rfl
  simp [swp, e1, e2]
inductive Hm where
  | box (b p i : Nat)
  | out (p i : Nat)
def swapK (i j : Nat) (σ : St) (Q : St → Prop) : Prop :=
  bif Nat.beq i j then Q σ else match nth σ.objs i, nth σ.objs j with
  | some (.own e t xs ap _), some (.own e' t' xs' ap' _) => St.mkAll ⟨σ.tmps.map (V.map (C.ren (swp i j))), (setL (setL σ.objs i (.own e' t' xs' ap' true)) j (.own e t xs ap true)).map (Ob.map (C.ren (swp i j)))⟩ Q
  | _, _ => Q σ
def home1 (h : Hm) (σ : St) (Q : St → Prop) : Prop :=
  match h with
  | .box b p i => match nth σ.objs b with
    | some (.box _ l) => match nth l p with
      | some (.own j) => swapK i j σ Q
      | _ => Q σ
    | _ => Q σ
  | .out p i => match σ.tmps with
    | [v] => match v.cellP p with
      | some (.own j) => swapK i j σ Q
      | _ => Q σ
    | _ => Q σ
def homeS : List Hm → St → (St → Prop) → Prop
  | [], σ, Q => Q σ
  | p :: l, σ, Q => home1 p σ fun σ' => homeS l σ' Q
def homeP (hs : List Hm) (m : Nat) (K : List Ob → Out → Prop) (os : List Ob) (out : Out) : Prop :=
  match out with
  | .ret v => homeS hs ⟨[v], os⟩ fun σ => gc m [0] σ fun σ2 => match σ2.tmps with
    | [v] => K σ2.objs (.ret v)
    | _ => False
  | .pan c => K os (.pan c)
theorem swap_get {α : Type} {l : List α} {i j : Nat} {u v : α} (hij : i ≠ j) (hi : i < l.length) (hj : j < l.length) (k : Nat) : (setL (setL l i v) j u)[k]? = if k = i then some v else if k = j then some u else l[k]? := by
  rw [setL_eq, setL_eq, List.getElem?_set]
  by_cases h1 : j = k
  · subst h1
    rw [if_pos rfl, if_pos (by rw [List.length_set]; exact hj), if_neg (fun e => hij e.symm), if_pos rfl]
  · rw [if_neg h1, List.getElem?_set]
    by_cases h2 : i = k
    · subst h2; rw [if_pos rfl, if_pos hi, if_pos rfl]
    · rw [if_neg h2, if_neg (fun e => h2 e.symm), if_neg (fun e => h1 e.symm)]
theorem swapK_sound {M : Nat → Prop} {w0 w : World} {lk : List Value} {σ : St} {a : Act} {i j : Nat} {Q : St → Prop} (h : swapK i j σ Q) (hr : Rel X w lk σ a) (hi : Inv X M w0 w lk) :
    ∃ σ' lk', Q σ' ∧ Rel X w lk' σ' a ∧ Inv X M w0 w lk' := by
  unfold swapK at h
  cases hb : Nat.beq i j with
  | true => rw [hb] at h; exact ⟨σ, lk, h, hr, hi⟩
  | false =>
  have hij : i ≠ j := fun e => by subst e; simp at hb
  rw [hb] at h
  simp only [cond_false] at h
  rw [nth_get, nth_get] at h
  split at h
  · rename_i e t xs ap m e' t' xs' ap' m' hoi hoj
    rw [St.mkAll_iff] at h
    have hil : i < lk.length := by rw [hr.lsz]; exact (List.getElem?_eq_some_iff.1 hoi).1
    have hjl : j < lk.length := by rw [hr.lsz]; exact (List.getElem?_eq_some_iff.1 hoj).1
    have hvi : lk[i]? = some lk[i] := List.getElem?_eq_getElem hil
    have hvj : lk[j]? = some lk[j] := List.getElem?_eq_getElem hjl
    have hget : ∀ k, (setL (setL lk i lk[j]) j lk[i])[k]? = lk[swp i j k]? := fun k => by
      rw [swap_get hij hil hjl]
      by_cases h1 : k = i
      · subst h1; rw [if_pos rfl, swp_i, hvj]
      · rw [if_neg h1]
        by_cases h2 : k = j
        · subst h2; rw [if_pos rfl, swp_j, hvi]
        · rw [if_neg h2, swp_o h1 h2]
    have hinv : ∀ k, swp i j (swp i j k) = k := fun k => by
      by_cases h1 : k = i
      · subst h1; rw [swp_i, swp_j]
      · by_cases h2 : k = j
        · subst h2; rw [swp_j, swp_i]
        · rw [swp_o h1 h2, swp_o h1 h2]
    have hog : ∀ k o, ((setL (setL σ.objs i (.own e' t' xs' ap' true)) j (.own e t xs ap true)).map (Ob.map (C.ren (swp i j))))[k]? = some o →
        ∃ o0, σ.objs[swp i j k]? = some o0 ∧ ((o = o0.map (C.ren (swp i j)) ∧ k ≠ i ∧ k ≠ j) ∨ (keepsO o = false ∧ ∀ w I lk v, ORep w I lk o0 v → ORep w I lk o v)) := fun k o ho => by
      obtain ⟨o1, ho1, rfl⟩ := get_map ho
      rw [swap_get hij (by rw [← hr.lsz]; exact hil) (by rw [← hr.lsz]; exact hjl)] at ho1
      by_cases h1 : k = i
      · subst h1
        rw [if_pos rfl] at ho1
        simp only [Option.some.injEq] at ho1
        subst ho1
        rw [swp_i]
        exact ⟨_, hoj, .inr ⟨rfl, fun w I lk v h => h⟩⟩
      · rw [if_neg h1] at ho1
        by_cases h2 : k = j
        · subst h2
          rw [if_pos rfl] at ho1
          simp only [Option.some.injEq] at ho1
          subst ho1
          rw [swp_j]
          exact ⟨_, hoi, .inr ⟨rfl, fun w I lk v h => h⟩⟩
        · rw [if_neg h2] at ho1
          rw [swp_o h1 h2]
          exact ⟨o1, ho1, .inl ⟨rfl, h1, h2⟩⟩
    have hmem : ∀ v, v ∈ setL (setL lk i lk[j]) j lk[i] → v ∈ lk := fun v hv => by
      obtain ⟨k, hk⟩ := List.mem_iff_getElem?.1 hv
      rw [hget] at hk
      exact List.mem_of_getElem? hk
    have hlen : (setL (setL lk i lk[j]) j lk[i]).length = lk.length := by rw [setL_eq, setL_eq, List.length_set, List.length_set]
    have hg : Goes w (Imm X w lk) w (Imm X w (setL (setL lk i lk[j]) j lk[i])) := fun b hb => ⟨rfl, hb.1, fun v hv => hb.2.1 v (hmem v hv), hb.2.2⟩
    have hf : ∀ c u, CRep w (Imm X w lk) lk c u → CRep w (Imm X w (setL (setL lk i lk[j]) j lk[i])) (setL (setL lk i lk[j]) j lk[i]) (c.ren (swp i j)) u := fun c u hc =>
      CRep.ren hg (fun k _ v hv => by rw [hget, hinv]; exact hv) hc
    refine ⟨_, _, h, ORel.toR ⟨?_, fun k o v ho hk => ?_, fun k k' v v' b hkk hk hk' hb => ?_, fun k v b hk hb => ?_, fun k v b hk hb => ?_, ?_, fun q v0 o hq ho hko => ?_⟩ ?_ (fun t x hx => ?_) hr.df, ⟨hi.keep, fun v hv => hi.news v (hmem v hv), hi.xl, hi.xm, hi.gr⟩⟩
    · rw [hlen, List.length_map, setL_eq, setL_eq, List.length_set, List.length_set, hr.lsz]
    · rw [hget] at hk
      obtain ⟨o0, ho0, hor⟩ := hog k o ho
      have h0 := hr.ob _ o0 v ho0 hk
      rcases hor with ⟨rfl, _⟩ | ⟨_, h2⟩
      · exact Ob.map_rep hg hf (fun _ _ => rfl) h0
      · refine h2 _ _ _ _ ?_
        have := Ob.map_rep (f := C.ren (swp i j)) hg hf (fun _ _ => rfl) h0
        by_cases h3 : k = i
        · subst h3; rw [swp_i, hoj] at ho0; cases ho0; exact this
        · by_cases h4 : k = j
          · subst h4; rw [swp_j, hoi] at ho0; cases ho0; exact this
          · cases o0 with
            | box e l =>
              exfalso
              obtain ⟨o1, ho1, ho2⟩ := get_map ho
              rw [swap_get hij (by rw [← hr.lsz]; exact hil) (by rw [← hr.lsz]; exact hjl), if_neg h3, if_neg h4] at ho1
              rw [swp_o h3 h4, ho1] at ho0
              cases ho0
              subst ho2
              rename_i h5
              exact absurd h5 (by simp [Ob.map, keepsO])
            | _ => exact this
    · rw [hget] at hk hk'
      exact hr.dj _ _ v v' b (fun e => hkk (by rw [← hinv k, e, hinv])) hk hk' hb
    · rw [hget] at hk; exact hr.lt _ v b hk hb
    · rw [hget] at hk; exact hr.nx _ v b hk hb
    · rw [hlen]; exact hr.ll
    · obtain ⟨o0, ho0, hor⟩ := hog q o ho
      rcases hor with ⟨rfl, h1, h2⟩ | ⟨h1, _⟩
      · rw [hget, swp_o h1 h2]
        rw [swp_o h1 h2] at ho0
        exact hr.kp q v0 o0 hq ho0 (by cases o0 <;> exact hko)
      · rw [h1] at hko; cases hko
    · rw [List.length_map]; exact hr.tsz
    · obtain ⟨x0, hx0, rfl⟩ := get_map hx
      exact V.map_rep hf (hr.tm t x0 hx0)
  · exact ⟨σ, lk, h, hr, hi⟩
theorem home1_sound {M : Nat → Prop} {w0 w : World} {lk : List Value} {σ : St} {a : Act} {hm : Hm} {Q : St → Prop} (h : home1 hm σ Q) (hr : Rel X w lk σ a) (hi : Inv X M w0 w lk) :
    ∃ σ' lk', Q σ' ∧ Rel X w lk' σ' a ∧ Inv X M w0 w lk' := by
  unfold home1 at h
  split at h
  · split at h
    · split at h
      · exact swapK_sound h hr hi
      · exact ⟨σ, lk, h, hr, hi⟩
    · exact ⟨σ, lk, h, hr, hi⟩
  · split at h
    · split at h
      · exact swapK_sound h hr hi
      · exact ⟨σ, lk, h, hr, hi⟩
    · exact ⟨σ, lk, h, hr, hi⟩
theorem homeS_sound {M : Nat → Prop} {w0 w : World} {a : Act} : ∀ {hs : List Hm} {σ : St} {lk : List Value} {Q : St → Prop}, homeS hs σ Q → Rel X w lk σ a → Inv X M w0 w lk → ∃ σ' lk', Q σ' ∧ Rel X w lk' σ' a ∧ Inv X M w0 w lk'
  | [], σ, lk, _, h, hr, hi => ⟨σ, lk, h, hr, hi⟩
  | p :: ps, σ, lk, _, h, hr, hi => by
    obtain ⟨σ1, lk1, h1, hr1, hi1⟩ := home1_sound h hr hi
    exact homeS_sound h1 hr1 hi1
theorem SenseOK.home {G : World → Prop} {f : FuncId} (hs : List Hm) {s s0 : Sense} (h : SenseOK G P f s0) (hro : s.ro = s0.ro) (hf : ∀ os xs K, s.f os xs K → s0.f os xs (homeP hs (len os) K)) : SenseOK G P f s := by
  refine SenseOK.mk fun X w lk os as_ vs K hdf hO hl0 hX hXG hgr has hs => ?_
  have hml : X.l0.length = len os := by rw [hl0, len_length, hO.lsz]
  refine (h X w lk os as_ vs _ hO hl0 hX hXG hgr has (hf _ _ _ hs)).mono ?_
  rw [hro]
  rintro e w' ⟨os', lk', out, hK, hO', hk, hn, hout⟩
  cases out with
  | pan c => exact ⟨os', lk', .pan c, hK, hO', hk, hn, hout⟩
  | ret v =>
    obtain ⟨u, rfl, hv⟩ := hout
    have hi : Inv X (fun b => ∃ v ∈ lk, blk v = some b) w w' lk' := ⟨⟨hk.os, hk.tape, hk.output, hk.size, fun k hk1 hk2 => hk.block k hk1 fun h => hk2 h.2⟩, hn, hX, fun b hb ⟨v, hv, hvb⟩ => by
      obtain ⟨i, hi⟩ := List.mem_iff_getElem?.1 hv
      exact hO.nx i v b hi hvb hb, hgr⟩
    have hr : Rel X w' lk' ⟨[v], os'⟩ { tmps := #[u], defers := [] } := ORel.toR hO' rfl (fun t x hx => by
      cases t with
      | zero => simp at hx; subst hx; exact hv
      | succ t => simp at hx) hdf.symm
    obtain ⟨σ1, lk1, h1, hr1, hi1⟩ := homeS_sound hK hr hi
    obtain ⟨σ2, lk2, h2, hr2, hi2⟩ := gc_sound h1 hr1 hi1 hml
    obtain ⟨ts, os2⟩ := σ2
    match ts, h2, hr2 with
    | [x], h2, hr2 => exact ⟨os2, lk2, .ret x, h2, hr2.toO, hk, hi2.news, u, rfl, hr2.tm 0 x rfl⟩
    | [], h2, _ => exact h2.elim
    | _ :: _ :: _, h2, _ => exact h2.elim
end Go.Proofs.YtilagaapfbfkkaaGreatDoor.Ab
namespace Go.Proofs.YtilagaapfbfkkaaGreatDoor.Ab
open Go Go.RowKit Go.Proofs.YtilagaapfbfkkaaGreatDoorW.PrintWords
set_option maxRecDepth 100000
variable {G : World → Prop}
theorem SenseOK.anyH {Γ : Sems} (hΓ : SemsOK G Tryz.prog Γ) {f : FuncId} {fn : Func} (L : Nat → List Nat) (hs : List Hm) (ps : List Plc) {s : List Ob → List V → (List Ob → Out → Prop) → Prop} (hf : Tryz.prog.funcs[f]? = some fn)
    (h : ∀ os xs K, s os xs K → evFn TT Γ L fn os xs (homeP hs (len os) (liftP ps (len os) K))) : SenseOK G Tryz.prog f ⟨false, s⟩ :=
  SenseOK.lift ps (SenseOK.home hs (s := ⟨false, fun os xs K => evFn TT Γ L fn os xs (homeP hs (len os) K)⟩) (SenseOK.any hΓ L hf (s := fun os xs K => evFn TT Γ L fn os xs K) fun _ _ _ h => h) rfl fun _ _ _ h => h) rfl h
def stL (e : TypeId) (s : Sd) (m : Md) (h o : ByteArray) : Ob := .box e (s.ow 1 ++ (m.cs (.sl RT m.rc) ++ [.str h, .str o]))
def Sd.osT (s : Sd) : List Ob := [.own 3 IT s.rc true false, .own 3 IT s.tk true true, .own 3 IT s.cd true false, .own 9 ST s.ln true true]
def lineM (m : Md) (h : ByteArray) (s : Sd) (o : ByteArray) (x : LT.den) : Sd × ByteArray :=
  bif x.2 then (brkS s, o)
  else if (rpParse ((s.ln ++ [x.1]).map bl)).1 = 0 then goesM m h { s with ln := [] } o (rpParse ((s.ln ++ [x.1]).map bl)).2
  else if (rpParse ((s.ln ++ [x.1]).map bl)).1 = 7 ∧ ((s.ln ++ [x.1]).length : Int) < 16 then ({ s with ln := s.ln ++ [x.1] }, o)
  else (brkS s, o)
theorem goes_ln (m : Md) (h : ByteArray) (s : Sd) (o : ByteArray) (c : Int) : (goesM m h s o c).1.ln = s.ln := by
  unfold goesM namedM askedM bodiedM beginM
  repeat' split
  all_goals first
    | rfl
    | (cases goodC c <;> dsimp only [cond_true, cond_false] <;> (repeat' split) <;> rfl)
    | (cases s.lm <;> dsimp only [cond_true, cond_false] <;> (repeat' split) <;> rfl)
def Γ61q : Sems := ext 62 (lendS q62) (ext 94 (lendS q94) (ext 104 q104 (ext 105 q105 (Γ0))))
theorem Γ61q.ok : SemsOK Gr Tryz.prog Γ61q := ((((Γ0.ok.ext Tryz.func105 rfl (by decide) qk105).ext Tryz.func104 rfl (by decide) qk104).ext Tryz.func94 rfl (by decide) (SenseOK.lendL qk94)).ext Tryz.func62 rfl (by decide) (SenseOK.lendL qk62))
def linO (s : Sd) (x : LT.den) : Prop := x.1.size ≤ big ∧ (∀ y ∈ s.ln, y.size ≤ big) ∧ s.ln.length + 1 ≤ big
def q61 : Sense := ⟨false, fun os xs K => ∃ (s : Sd) (m : Md) (h o : ByteArray) (x : LT.den), xs = [.one (.ref 0 0), .agg [.str x.1, .bool x.2]] ∧ os = stL 96 s m h o :: s.osF ∧ ((stpO m h o ∧ m.body.size ≤ big) ∧ ((wfS m s ∧ stdS s) ∧ linO s x)) ∧
  K (stL 96 (lineM m h s o x).1 m h (lineM m h s o x).2 :: (lineM m h s o x).1.osT) (.ret (.tup []))⟩
theorem qk61 : SenseOK Gr Tryz.prog 61 q61 := SenseOK.anyH Γ61q.ok (fun _ => []) [.box 0 13 4] [.mv 2, .box 0 8 3 IT, .box 0 13 9 ST, .mv 4] Tryz.func61 fun os xs K hh => by
  obtain ⟨s, m, h, o, ⟨x, lg⟩, rfl, rfl, ⟨⟨hst, hbd⟩, ⟨hw, hsd⟩, hx, hy, hl⟩, hk⟩ := hh
  simp only at hx hk
  have hx' := hx
  have hl' := hl
  simp only [big] at hx' hl'
  refine zy ?_
  refine Br.mk (fun g1 => ?_) (fun g1 => ?_)
  · have hq : lineM m h s o (x, lg) = (brkS s, o) := by rw [lineM, condT _ _ g1]
    rw [hq] at hk
    refine zy ?_
    refine ⟨s, m, .sl RT m.rc, h, o, trr, trr, .inr rfl, ?_⟩
    refine zy ?_
    exact hk
  have hq : lineM m h s o (x, lg) = if (rpParse ((s.ln ++ [x]).map bl)).1 = 0 then goesM m h { s with ln := [] } o (rpParse ((s.ln ++ [x]).map bl)).2
      else if (rpParse ((s.ln ++ [x]).map bl)).1 = 7 ∧ ((s.ln ++ [x]).length : Int) < 16 then ({ s with ln := s.ln ++ [x] }, o) else (brkS s, o) := by rw [lineM, condF _ _ g1]
  rw [hq] at hk
  clear hq
  have hlen : (s.ln ++ [x]).length ≤ big := by rw [List.length_append]; exact hl
  have hall : ∀ y ∈ s.ln ++ [x], y.size ≤ big := fun y hm => by
    rcases List.mem_append.1 hm with hm | hm
    · exact hy y hm
    · rw [List.mem_singleton] at hm; subst hm; exact hx
  have hwf : wfS m { s with ln := [] } := ⟨⟨hw.1.1, hw.1.2.1, hw.1.2.2.1, Nat.zero_le _⟩, hw.2.1, hw.2.2⟩
  refine zy ?_
  refine ⟨[], (.take 0 (.take 1 (.take 2 (.take 3 (.take 4 (.take 6 (.take 7 (.br 5 (.br 8 (.rest 9) .nil) (.br 8 (.br 5 (.rest 9) .nil) .nil))))))))), ⟨by kernel_rfl⟩, ?_⟩
  ((conv => whnf); repeat' ((first | refine Both.mk ?_ ?_ | refine Br.t ?_ | refine Br.f ?_ | refine ob ?_ | refine ⟨_, rfl, ?_⟩ | refine ⟨_, _, rfl, ?_⟩ | refine ⟨_, _, _, rfl, ?_⟩ | refine ⟨_, _, _, _, rfl, ?_⟩ | simp only []); all_goals (conv => whnf)))
  all_goals
    refine ⟨[.one (.sl ST s.ln)], rfl, lnt, ?_⟩
    refine zy ?_
    refine ⟨s.ln, rfl, rfl, hw.1.2.2.2, fun mv => ?_⟩
    refine zs0 ?_
    refine ⟨[.one (.sl ST (s.ln ++ [x]))], rfl, lnt, ?_⟩
    refine zy ?_
    refine ⟨s.ln ++ [x], rfl, rfl, hlen, hall, fun g => ?_, fun g => ?_, fun c g T mv => ?_⟩
    · rw [if_neg (by rw [g]; decide), if_neg (by rw [g]; exact fun h => absurd h.1 (by decide))] at hk
      refine zs0 ?_
      refine ⟨s, m, .sl RT m.rc, h, o, trr, trr, .inr rfl, ?_⟩
      refine zy ?_
      exact hk
    · rw [if_neg (by rw [g]; decide)] at hk
      by_cases g2 : ((s.ln ++ [x]).length : Int) < 16
      · have e2 : decide (((s.ln ++ [x]).length : Int) < 16) = true := decide_eq_true g2
        rw [if_pos ⟨g, g2⟩] at hk
        refine zs1 e2 ?_
        exact hk
      · have e2 : decide (((s.ln ++ [x]).length : Int) < 16) = false := decide_eq_false g2
        rw [if_neg (fun h => g2 h.2)] at hk
        refine zs1 e2 ?_
        refine ⟨s, m, .sl RT m.rc, h, o, trr, trr, .inr rfl, ?_⟩
        refine zy ?_
        exact hk
    · rw [if_pos (by rw [g]), g] at hk
      have hln := goes_ln m h { s with ln := [] } o c
      generalize hgo : goesM m h { s with ln := [] } o c = p at hk hln
      obtain ⟨s', o'⟩ := p
      refine zs0 ?_
      refine ⟨{ s with ln := [] }, m, h, o, c, trr, trr, ⟨⟨hst, hbd⟩, hwf, hsd⟩, ?_⟩
      rw [hgo]
      refine zy ?_
      have hk2 : K (stL 96 s' m h o' :: s'.osT) (.ret (.tup [])) := hk
      rw [Sd.osT, hln] at hk2
      exact hk2
def stdI (s : Sd) : Prop := (0 ≤ s.st ∧ s.st ≤ 7) ∧ (s.st < 3 → s.tk = []) ∧ (s.st = 3 → ((0 ≤ s.at_ ∧ s.at_ < s.rc.length) ∧ (s.tk.length : Int) ≤ s.at_) ∧ toksOK s) ∧ (s.st = 4 → s.tk ≠ [] ∧ toksOK s) ∧ (s.st = 5 → (0 ≤ s.at_ ∧ s.at_ < s.tk.length) ∧ toksOK s)
theorem stdI.std {s : Sd} (h : stdI s) : stdS s := by
  obtain ⟨_, _, h3, h4, h5⟩ := h
  refine ⟨fun e => ?_, fun e => (h4 e).2, fun e => ⟨(h5 e).2, (h5 e).1⟩⟩
  obtain ⟨⟨h, h'⟩, _⟩ := h3 e
  exact ⟨h, by omega⟩
def grow : Nat := 2147484672
theorem sayO_size (o l : ByteArray) : (sayO o l).size = o.size + l.size + 2 := by
  have h1 : (⟨#[13, 10]⟩ : ByteArray).size = 2 := rfl
  rw [sayO, ByteArray.size_append, ByteArray.size_append, h1]; omega
theorem quitO_size (o : ByteArray) : (quitO o).size = o.size + 6 := by
  rw [quitO, sayO_size]
  have h1 : (⟨#[81, 85, 73, 84]⟩ : ByteArray).size = 4 := rfl
  omega
theorem nameO_size {m : Md} {s : Sd} {o : ByteArray} (h : atOK m s) (ha : m.adrs) : (nameO m s o).size ≤ o.size + grow := by
  obtain ⟨n, k, r, _, _, _, hw, _, _, h1, h2⟩ := at_get h ha
  have h3 : (⟨#[82, 67, 80, 84, 32, 84, 79, 58, 60]⟩ : ByteArray).size = 9 := rfl
  have h4 : (⟨#[62]⟩ : ByteArray).size = 1 := rfl
  have h5 := adr_size r.1.1 r.1.2
  simp only [big] at h1 h2
  rw [nameO, sayO_size, nameL, hw, ByteArray.size_append, ByteArray.size_append]
  simp only [grow]
  omega
theorem fill_toks {s : Sd} {l : List Int} (h : toksOK s) (hl : l.length = s.cd.length) {s' : Sd} (h1 : s'.tk = s.tk) (h2 : s'.cd = l) : toksOK s' := fun k hk => by
  rw [h1] at hk; rw [h2, hl]; exact h k hk
theorem quit_inv {m : Md} {s : Sd} (hw : wfS m s) {l : List Int} (hl : l.length = s.cd.length) : wfS m (quitS { s with cd := l }) ∧ stdI (quitS { s with cd := l }) := by
  refine ⟨⟨⟨hw.1.1, Nat.zero_le _, by show l.length ≤ big; rw [hl]; exact hw.1.2.2.1, hw.1.2.2.2⟩, hw.2.1, by show l.length = _; rw [hl]; exact hw.2.2⟩, (show (0 : Int) ≤ 6 ∧ (6 : Int) ≤ 7 by decide), fun h => absurd h (by show ¬ (6 : Int) < 3; decide), fun h => absurd h (by show ¬ (6 : Int) = 3; decide), fun h => absurd h (by show ¬ (6 : Int) = 4; decide), fun h => absurd h (by show ¬ (6 : Int) = 5; decide)⟩
theorem goes_inv {m : Md} {h : ByteArray} {s : Sd} {o : ByteArray} {c : Int} (hh : h.size ≤ big) (ha : m.adrs) (hb : m.body.size ≤ big) (hw : wfS m s) (hi : stdI s) (h7 : s.st ≠ 7) :
    (wfS m (goesM m h s o c).1 ∧ stdI (goesM m h s o c).1) ∧ (goesM m h s o c).2.size ≤ o.size + grow := by
  have hi' := hi
  obtain ⟨⟨s0, s7⟩, hlt, h3, h4, h5⟩ := hi
  obtain ⟨⟨l0, l1, l2, l3⟩, ⟨hr0, hrc⟩, hcd⟩ := hw
  have hw : wfS m s := ⟨⟨l0, l1, l2, l3⟩, ⟨hr0, hrc⟩, hcd⟩
  have qs : ∀ l : List Int, l.length = s.cd.length → (wfS m (quitS { s with cd := l }) ∧ stdI (quitS { s with cd := l })) ∧ (quitO o).size ≤ o.size + grow := fun l hl => ⟨quit_inv hw hl, by rw [quitO_size]; simp only [grow]; omega⟩
  unfold goesM
  by_cases e3 : s.st = 3
  · rw [if_pos e3]
    obtain ⟨⟨⟨a0, a1⟩, a2⟩, a3⟩ := h3 e3
    have two : ∀ s2 : Sd, s2.rc = s.rc → s2.ln = s.ln → s2.st = s.st → s2.at_ = s.at_ + 1 → (s2.tk.length : Int) ≤ s.at_ + 1 → s2.cd.length = s.cd.length → toksOK s2 →
        (wfS m (if s2.at_ < s2.rc.length then (s2, nameO m s2 o) else if s2.tk.length = 0 then (quitS s2, quitO o) else ({ s2 with st := 4, at_ := 0 }, sayO o ⟨#[68, 65, 84, 65]⟩)).1 ∧
        stdI (if s2.at_ < s2.rc.length then (s2, nameO m s2 o) else if s2.tk.length = 0 then (quitS s2, quitO o) else ({ s2 with st := 4, at_ := 0 }, sayO o ⟨#[68, 65, 84, 65]⟩)).1) ∧
        (if s2.at_ < s2.rc.length then (s2, nameO m s2 o) else if s2.tk.length = 0 then (quitS s2, quitO o) else ({ s2 with st := 4, at_ := 0 }, sayO o ⟨#[68, 65, 84, 65]⟩)).2.size ≤ o.size + grow := by
      intro s2 r1 r2 r3 r4 r5 r6 r7
      have hw2 : wfS m s2 := ⟨⟨by rw [r1]; exact l0, by omega, by rw [r6]; exact l2, by rw [r2]; exact l3⟩, by rw [r1]; exact ⟨hr0, hrc⟩, by rw [r6, r1]; exact hcd⟩
      by_cases c1 : s2.at_ < s2.rc.length
      · rw [if_pos c1]
        refine ⟨⟨hw2, ⟨by rw [r3]; exact ⟨s0, s7⟩, fun h => by rw [r3, e3] at h; omega, fun _ => ⟨⟨⟨by show 0 ≤ s2.at_; omega, c1⟩, by show (s2.tk.length : Int) ≤ s2.at_; omega⟩, r7⟩, fun h => by rw [r3, e3] at h; omega, fun h => by rw [r3, e3] at h; omega⟩⟩, nameO_size ⟨⟨by omega, c1⟩, by rw [r1]; exact hrc⟩ ha⟩
      · rw [if_neg c1]
        by_cases c2 : s2.tk.length = 0
        · rw [if_pos c2]
          exact ⟨quit_inv (l := s2.cd) hw2 rfl, by rw [quitO_size]; simp only [grow]; omega⟩
        · rw [if_neg c2]
          refine ⟨⟨hw2, ⟨(show (0 : Int) ≤ 4 ∧ (4 : Int) ≤ 7 by decide), fun h => absurd h (by show ¬ (4 : Int) < 3; decide), fun h => absurd h (by show ¬ (4 : Int) = 3; decide), fun _ => ⟨fun e => c2 (by rw [show s2.tk = [] from e]; rfl), r7⟩, fun h => absurd h (by show ¬ (4 : Int) = 5; decide)⟩⟩, ?_⟩
          rw [sayO_size]
          have h1 : (⟨#[68, 65, 84, 65]⟩ : ByteArray).size = 4 := rfl
          simp only [grow]; omega
    cases hg : goodC c with
    | true =>
      have := two { s with tk := s.tk ++ [s.at_], at_ := s.at_ + 1 } rfl rfl rfl rfl (by simp; omega) rfl (fun k hk => by
        rcases List.mem_append.1 hk with hk | hk
        · exact a3 k hk
        · rw [List.mem_singleton] at hk; subst hk; exact ⟨a0, by show s.at_ < s.cd.length; omega⟩)
      rw [namedM, hg]
      exact this
    | false =>
      have := two { s with cd := s.cd.set s.at_.toNat c, at_ := s.at_ + 1 } rfl rfl rfl rfl (by show (s.tk.length : Int) ≤ _; omega) (by simp) (fill_toks (s := s) a3 (by simp) rfl rfl)
      rw [namedM, hg]
      exact this
  rw [if_neg e3]
  by_cases e4 : s.st = 4
  · rw [if_pos e4]
    obtain ⟨a0, a1⟩ := h4 e4
    unfold askedM
    by_cases c1 : c = 354
    · rw [if_pos c1]
      have h1 := layO_size m.body
      simp only [big] at hb
      refine ⟨⟨hw, ⟨(show (0 : Int) ≤ 5 ∧ (5 : Int) ≤ 7 by decide), fun h => absurd h (by show ¬ (5 : Int) < 3; decide), fun h => absurd h (by show ¬ (5 : Int) = 3; decide), fun h => absurd h (by show ¬ (5 : Int) = 4; decide), fun _ => ⟨⟨Int.le_refl 0, ?_⟩, a1⟩⟩⟩, ?_⟩
      · have := List.length_pos_iff.2 a0
        show (0 : Int) < s.tk.length
        omega
      · rw [ByteArray.size_append]; simp only [grow]; omega
    · rw [if_neg c1]
      exact qs _ (fillT_len _ _ _)
  rw [if_neg e4]
  by_cases e5 : s.st = 5
  · rw [if_pos e5]
    obtain ⟨⟨a0, a1⟩, a2⟩ := h5 e5
    unfold bodiedM
    by_cases hl : s.lm = true
    · rw [condT _ _ hl]
      simp only
      by_cases c1 : s.at_ + 1 = s.tk.length
      · rw [if_pos c1]
        exact qs (s.cd.set _ _) (by simp)
      · rw [if_neg c1]
        refine ⟨⟨⟨⟨l0, l1, by show (s.cd.set _ _).length ≤ big; rw [List.length_set]; exact l2, l3⟩, ⟨hr0, hrc⟩, by show (s.cd.set _ _).length = _; rw [List.length_set]; exact hcd⟩, ⟨⟨s0, s7⟩, hlt, fun h => absurd h e3, fun h => absurd h e4, fun _ => ⟨⟨by show 0 ≤ s.at_ + 1; omega, by show s.at_ + 1 < s.tk.length; omega⟩, fill_toks (s := s) a2 (by simp) rfl rfl⟩⟩⟩, Nat.le_add_right _ _⟩
    · rw [condF _ _ (by simpa using hl)]
      exact qs _ (fillT_len _ _ _)
  rw [if_neg e5]
  by_cases e6 : s.st = 6
  · rw [if_pos e6]
    exact ⟨⟨hw, ⟨(show (0 : Int) ≤ 7 ∧ (7 : Int) ≤ 7 by decide), fun h => absurd h (by show ¬ (7 : Int) < 3; decide), fun h => absurd h (by show ¬ (7 : Int) = 3; decide), fun h => absurd h (by show ¬ (7 : Int) = 4; decide), fun h => absurd h (by show ¬ (7 : Int) = 5; decide)⟩⟩, Nat.le_add_right _ _⟩
  rw [if_neg e6]
  have htk : s.tk = [] := hlt (by omega)
  unfold beginM
  cases hg : goodC c with
  | false => exact qs _ (by simp)
  | true =>
    simp only [cond_true]
    have h1 : (⟨#[76, 72, 76, 79, 32]⟩ : ByteArray).size = 5 := rfl
    have h2 : (⟨#[69, 72, 76, 79, 32]⟩ : ByteArray).size = 5 := rfl
    have h3' : (⟨#[77, 65, 73, 76, 32, 70, 82, 79, 77, 58, 60]⟩ : ByteArray).size = 11 := rfl
    have h4' : (⟨#[62]⟩ : ByteArray).size = 1 := rfl
    have h5' : (⟨#[]⟩ : ByteArray).size = 0 := rfl
    simp only [big] at hh
    obtain ⟨ha1, ha2, ha3⟩ := ha
    have ha : m.adrs := ⟨ha1, ha2, ha3⟩
    by_cases c0 : s.st = 0
    · rw [if_pos c0]
      refine ⟨⟨hw, ⟨(show (0 : Int) ≤ 1 ∧ (1 : Int) ≤ 7 by decide), fun _ => htk, fun h => absurd h (by show ¬ (1 : Int) = 3; decide), fun h => absurd h (by show ¬ (1 : Int) = 4; decide), fun h => absurd h (by show ¬ (1 : Int) = 5; decide)⟩⟩, ?_⟩
      rw [sayO_size, ByteArray.size_append]
      cases s.lm <;> simp only [cond_true, cond_false, grow] <;> omega
    rw [if_neg c0]
    by_cases c1 : s.st = 1
    · rw [if_pos c1]
      refine ⟨⟨hw, ⟨(show (0 : Int) ≤ 2 ∧ (2 : Int) ≤ 7 by decide), fun _ => htk, fun h => absurd h (by show ¬ (2 : Int) = 3; decide), fun h => absurd h (by show ¬ (2 : Int) = 4; decide), fun h => absurd h (by show ¬ (2 : Int) = 5; decide)⟩⟩, ?_⟩
      have h6 := adr_size m.fl m.fd
      simp only [big] at ha2 ha3
      rw [sayO_size, ByteArray.size_append, ByteArray.size_append]
      cases m.nul <;> simp only [cond_true, cond_false, grow] <;> omega
    rw [if_neg c1]
    have hp := List.length_pos_iff.2 hr0
    refine ⟨⟨hw, ⟨(show (0 : Int) ≤ 3 ∧ (3 : Int) ≤ 7 by decide), fun h => absurd h (by show ¬ (3 : Int) < 3; decide), fun _ => ⟨⟨⟨Int.le_refl 0, by show (0 : Int) < s.rc.length; omega⟩, by show (s.tk.length : Int) ≤ 0; rw [htk]; exact Int.le_refl 0⟩, fun k hk => by rw [show ({ s with st := 3, at_ := 0 } : Sd).tk = [] from htk] at hk; cases hk⟩, fun h => absurd h (by show ¬ (3 : Int) = 4; decide), fun h => absurd h (by show ¬ (3 : Int) = 5; decide)⟩⟩, nameO_size ⟨⟨Int.le_refl 0, by show (0 : Int) < s.rc.length; omega⟩, hrc⟩ ha⟩
def lnI_ (m : Md) (s : Sd) : Prop := (wfS m s ∧ stdI s) ∧ (∀ y ∈ s.ln, y.size ≤ big) ∧ s.ln.length < 16
theorem brk_inv {m : Md} {s : Sd} (h : lnI_ m s) : lnI_ m (brkS s) := by
  have h1 : wfS m (brkS s) := ⟨⟨h.1.1.1.1, Nat.zero_le _, h.1.1.1.2.2.1, Nat.zero_le _⟩, h.1.1.2.1, h.1.1.2.2⟩
  have h2 : stdI (brkS s) := ⟨(show (0 : Int) ≤ 7 ∧ (7 : Int) ≤ 7 by decide), fun _ => rfl, fun h => absurd h (by show ¬ (7 : Int) = 3; decide), fun h => absurd h (by show ¬ (7 : Int) = 4; decide), fun h => absurd h (by show ¬ (7 : Int) = 5; decide)⟩
  exact ⟨⟨h1, h2⟩, fun y hy => (by cases hy), by show (0 : Nat) < 16; decide⟩
theorem line_inv {m : Md} {h : ByteArray} {s : Sd} {o : ByteArray} {x : LT.den} (hh : h.size ≤ big) (ha : m.adrs) (hb : m.body.size ≤ big) (hi : lnI_ m s) (h7 : s.st ≠ 7) (hx : x.1.size ≤ big) :
    lnI_ m (lineM m h s o x).1 ∧ (lineM m h s o x).2.size ≤ o.size + grow := by
  unfold lineM
  by_cases g : x.2 = true
  · rw [condT _ _ g]; exact ⟨brk_inv hi, Nat.le_add_right _ _⟩
  rw [condF _ _ (by simpa using g)]
  obtain ⟨⟨hw, hd⟩, hy, hl⟩ := hi
  by_cases c1 : (rpParse ((s.ln ++ [x.1]).map bl)).1 = 0
  · rw [if_pos c1]
    have hw0 : wfS m { s with ln := [] } := ⟨⟨hw.1.1, hw.1.2.1, hw.1.2.2.1, Nat.zero_le _⟩, hw.2.1, hw.2.2⟩
    have := goes_inv (o := o) (c := (rpParse ((s.ln ++ [x.1]).map bl)).2) hh ha hb hw0 hd h7
    have hln := goes_ln m h { s with ln := [] } o (rpParse ((s.ln ++ [x.1]).map bl)).2
    exact ⟨⟨this.1, by rw [hln]; exact fun y hy => (by cases hy), by rw [hln]; show (0 : Nat) < 16; decide⟩, this.2⟩
  rw [if_neg c1]
  by_cases c2 : (rpParse ((s.ln ++ [x.1]).map bl)).1 = 7 ∧ ((s.ln ++ [x.1]).length : Int) < 16
  · rw [if_pos c2]
    have h2 := c2.2
    refine ⟨⟨⟨⟨⟨hw.1.1, hw.1.2.1, hw.1.2.2.1, by show (s.ln ++ [x.1]).length ≤ big; simp only [big]; omega⟩, hw.2.1, hw.2.2⟩, hd⟩, fun y hm => ?_, by show (s.ln ++ [x.1]).length < 16; omega⟩, Nat.le_add_right _ _⟩
    rcases List.mem_append.1 hm with hm | hm
    · exact hy y hm
    · rw [List.mem_singleton] at hm; subst hm; exact hx
  · rw [if_neg c2]; exact ⟨brk_inv ⟨⟨hw, hd⟩, hy, hl⟩, Nat.le_add_right _ _⟩
def hearL (m : Md) (h : ByteArray) : List LT.den → Sd → ByteArray → Sd × ByteArray
  | [], s, o => (s, o)
  | x :: l, s, o => if s.st = 7 then (s, o) else hearL m h l (lineM m h s o x).1 (lineM m h s o x).2
theorem hearL_done (m : Md) (h : ByteArray) {s : Sd} (o : ByteArray) (h7 : s.st = 7) : ∀ l : List LT.den, hearL m h l s o = (s, o)
  | [] => rfl
  | x :: l => by rw [hearL, if_pos h7]
def lnU (p : List Int × Bool) : LT.den := (strOfNums p.1, p.2)
def heardM (m : Md) (h : ByteArray) (s : Sd) (b : List Int) : Sd × ByteArray :=
  hearL m h ((frmM (bl s.rest) s.skip b).2.map lnU) { s with wt := 0, rest := strOfNums (frmM (bl s.rest) s.skip b).1.1, skip := (frmM (bl s.rest) s.skip b).1.2 } ByteArray.empty
theorem bl_byts (s : ByteArray) : ∀ c ∈ bl s, 0 ≤ c ∧ c ≤ 255 := fun c hc => by
  rw [bl] at hc
  obtain ⟨b, _, rfl⟩ := List.mem_map.1 hc
  have := b.toNat_lt
  omega
theorem nums_bl (s : ByteArray) : strOfNums (bl s) = s := bl_inj (bl_nums _ (bl_byts s))
theorem lnU_lnB (x : LT.den) : lnU (lnB x) = x := by
  rw [lnU, lnB, nums_bl]
theorem lines_of {T : List LT.den} {l : List (List Int × Bool)} (h : T.map lnB = l) : T = l.map lnU := by
  rw [← h, List.map_map]
  conv => lhs; rw [← List.map_id T]
  exact List.map_congr_left fun x _ => (lnU_lnB x).symm
theorem scan_len : ∀ (b u : List Int) (s : Bool), (scanI u s b).1.length ≤ b.length ∧ ∀ p ∈ (scanI u s b).1, p.1.length ≤ 512
  | [], u, s => ⟨Nat.le_refl _, fun p hp => by cases hp⟩
  | c :: cs, u, s => by
    rw [scanI]
    split
    · obtain ⟨h1, h2⟩ := scan_len cs [] false
      refine ⟨by simp; exact h1, fun p hp => ?_⟩
      rcases List.mem_cons.1 hp with rfl | hp
      · unfold lnI; split
        · exact Nat.zero_le _
        · simp only; omega
      · exact h2 p hp
    · obtain ⟨h1, h2⟩ := scan_len cs (u ++ [c]) s
      exact ⟨Nat.le_succ_of_le h1, h2⟩
def Γ36q : Sems := ext 37 (lendS q37) (ext 60 q60 (ext 61 q61 (Γ0)))
theorem Γ36q.ok : SemsOK Gr Tryz.prog Γ36q := (((Γ0.ok.ext Tryz.func61 rfl (by decide) qk61).ext Tryz.func60 rfl (by decide) qk60).ext Tryz.func37 rfl (by decide) (SenseOK.lendL qk37))
def hearO (m : Md) (s : Sd) (h : ByteArray) (b : List Int) : Prop := ((h.size ≤ big ∧ m.adrs) ∧ m.body.size ≤ big) ∧ ((s.st ≠ 7 → lnI_ m s) ∧ s.sml) ∧ ((s.rest.size + b.length ≤ big ∧ Byts b) ∧ cutI (bl s.rest) = none)
def zSd : List C := [.int .i64 0, .int .i64 0, .int .i64 0, .str ByteArray.empty, .nil, .bool false, .int .i64 0, .int .i64 0, .nil, .nil, .int .i64 0, .str ByteArray.empty, .bool false, .nil]
def q36 : Sense := ⟨false, fun os xs K => ∃ (s : Sd) (m : Md) (h : ByteArray) (b : List Int), xs = [.agg (s.ow 0), .agg (m.cs (.sl RT m.rc)), .one (.sl (.int .u8) b), .one (.str h)] ∧ os = s.osF ∧ hearO m s h b ∧
  (s.st = 7 → K s.osF (.ret (.tup [.agg (s.ow 0), .one (.str ⟨#[]⟩)]))) ∧
  (s.st ≠ 7 → ∀ m0 m1 m2 m3, K (s.osF ++ [.own 3 IT (heardM m h s b).1.rc true m0, .own 3 IT (heardM m h s b).1.tk true m1, .own 3 IT (heardM m h s b).1.cd true m2, .own 9 ST (heardM m h s b).1.ln true m3]) (.ret (.tup [.agg ((heardM m h s b).1.ow 4), .one (.str (heardM m h s b).2)])))⟩
theorem qk36 : SenseOK Gr Tryz.prog 36 q36 := SenseOK.any Γ36q.ok (fun _ => [8, 10, 44, 45, 46]) Tryz.func36 fun os xs K hq => by
  obtain ⟨s, m, h, b, rfl, rfl, ⟨⟨⟨hh, had⟩, hbd⟩, ⟨hln, hsm⟩, ⟨hb, hby⟩, hcut⟩, hk7, hk⟩ := hq
  by_cases h7 : s.st = 7
  · have e7 : (s.st == 7) = true := by simpa using h7
    refine zs1 e7 ?_
    exact hk7 h7
  have e7 : (s.st == 7) = false := by simpa using h7
  clear hk7
  have hk := hk h7
  have hln := hln h7
  have hb' := hb
  simp only [big] at hb'
  have hsc := scan_len b (bl s.rest) s.skip
  refine zs1 e7 ?_
  refine ⟨[], (.take 0 (.take 2 (.take 3 (.br 1 (.rest 4) .nil)))), ⟨by kernel_rfl⟩, ?_⟩
  refine zs0 ?_
  refine ⟨[.agg s.fz], trr, lnt, ?_⟩
  refine zy ?_
  refine ⟨s, rfl, rfl, hsm, fun m0 m1 m2 m3 => ?_⟩
  refine zs0 ?_
  refine ⟨fun hn r hr => ?_, fun T hT hne mv r hr => ?_⟩
  · have hr2 : r = strOfNums (frmM (bl s.rest) s.skip b).1.1 := by rw [← hr, nums_bl]
    have hm : heardM m h s b = ({ s with wt := 0, rest := r, skip := (frmM (bl s.rest) s.skip b).1.2 }, ByteArray.empty) := by
      rw [heardM, hn, hr2]; rfl
    rw [hm] at hk
    refine zs0 ?_
    refine ⟨[11, 7, 8, 9, 10], (.take 0 (.take 1 (.take 2 (.take 3 (.take 4 (.take 5 (.br 6 (.take 7 (.take 8 (.take 9 (.br 10 .done .nil)))) .nil))))))), ⟨by kernel_rfl⟩, ?_⟩
    refine zs0 ?_
    refine iter_of (I := fun n σ => ∃ f0 f1 f2 f3 : Bool, n = 0 ∧ σ = ⟨slots 68 [(8, .one (.ref 4 0)), (10, .one (.ref 5 0)), (44, .one .nil), (45, .one (.int .i64 0)), (46, .one (.int .i64 0))], [.own 3 IT s.rc true false, .own 3 IT s.tk true false, .own 3 IT s.cd true false, .own 9 ST s.ln true false, .box 43 zSd, .box 96 (({ s with wt := 0, rest := r, skip := (frmM (bl s.rest) s.skip b).1.2 } : Sd).ow 6 ++ (m.cs (.sl RT m.rc) ++ [.str h, .str ByteArray.empty])), .own 3 IT s.rc true f0, .own 3 IT s.tk true f1, .own 3 IT s.cd true f2, .own 9 ST s.ln true f3]⟩) ?_ 0 ⟨_, _, _, _, rfl, rfl⟩
    rintro n σ K' ⟨f0, f1, f2, f3, rfl, rfl⟩ _
    refine zs0 ?_
    refine ⟨[4, 6, 7, 8, 9], (.take 0 (.take 1 (.take 2 (.take 3 (.take 4 (.take 5 (.take 6 (.take 7 (.br 8 (.take 9 .done) .nil))))))))), ⟨by kernel_rfl⟩, ?_⟩
    refine zs0 ?_
    exact hk _ _ _ _
  have hr2 : r = strOfNums (frmM (bl s.rest) s.skip b).1.1 := by rw [← hr, nums_bl]
  have hT2 := lines_of hT
  have hTl : T.length ≤ b.length := by
    have h1 := congrArg List.length hT
    rw [List.length_map] at h1
    rw [h1]; exact hsc.1
  have hTx : ∀ x ∈ T, x.1.size ≤ big := fun x hx => by
    have h1 : lnB x ∈ (frmM (bl s.rest) s.skip b).2 := by rw [← hT]; exact List.mem_map_of_mem hx
    have h2 := hsc.2 _ h1
    rw [show (lnB x).1 = bl x.1 from rfl, bl_length] at h2
    simp only [big]; omega
  refine zs0 ?_
  refine ⟨[11, 7, 8, 9, 10], (.take 0 (.take 1 (.take 2 (.take 3 (.take 4 (.take 5 (.br 6 (.take 7 (.take 8 (.take 9 (.br 10 .done .nil)))) .nil))))))), ⟨by kernel_rfl⟩, ?_⟩
  refine zs0 ?_
  refine iter_of (I := fun n σ => ∃ (j : Nat) (s' : Sd) (o' : ByteArray) (f0 f1 f2 f3 f : Bool), n = T.length - j ∧ j ≤ T.length ∧ hearL m h (T.drop j) s' o' = heardM m h s b ∧ lnI_ m s' ∧ o'.size ≤ j * grow ∧
    σ = ⟨slots 68 [(8, .one (.ref 4 0)), (10, .one (.ref 5 0)), (44, .one (.own 6)), (45, .one (.int .i64 T.length)), (46, .one (.int .i64 j))], [.own 3 IT s.rc true false, .own 3 IT s.tk true false, .own 3 IT s.cd true false, .own 9 ST s.ln true false, .box 43 zSd, .box 96 (s'.ow 7 ++ (m.cs (.sl RT m.rc) ++ [.str h, .str o'])), .own 101 LT T true f, .own 3 IT s'.rc true f0, .own 3 IT s'.tk true f1, .own 3 IT s'.cd true f2, .own 9 ST s'.ln true f3]⟩) ?_ T.length
    ⟨0, { s with wt := 0, rest := r, skip := (frmM (bl s.rest) s.skip b).1.2 }, ByteArray.empty, _, _, _, _, _, rfl, Nat.zero_le _, by rw [List.drop_zero, heardM, hT2, hr2], hln, Nat.le_refl _, rfl⟩
  rintro n σ K' ⟨j, s', o', f0, f1, f2, f3, f, rfl, hj, hm, hi, ho, rfl⟩ hK'
  have w1 := IntWalk.i64_in ((j : Int) + 1) (by omega)
  by_cases g1 : j < T.length
  case neg =>
    have e1 : decide ((j : Int) < T.length) = false := decide_eq_false (by omega)
    rw [List.drop_of_length_le (by omega), hearL] at hm
    rw [← hm] at hk
    refine zs1 e1 ?_
    refine ⟨[4, 7, 8, 9, 10], (.take 0 (.take 1 (.take 2 (.take 3 (.take 4 (.take 5 (.take 6 (.take 7 (.br 8 (.take 9 .done) .nil))))))))), ⟨by kernel_rfl⟩, ?_⟩
    refine zs0 ?_
    exact hk _ _ _ _
  have e1 : decide ((j : Int) < T.length) = true := decide_eq_true (by omega)
  obtain ⟨x, hx⟩ : ∃ x, T[j]? = some x := ⟨_, List.getElem?_eq_getElem g1⟩
  have rx := nth_of hx LT.dflt
  have ix : (0 : Int) ≤ j ∧ (j : Int) < T.length := ⟨by omega, by omega⟩
  have hd : T.drop j = x :: T.drop (j + 1) := by
    obtain ⟨h1, h2⟩ := List.getElem?_eq_some_iff.1 hx
    rw [List.drop_eq_getElem_cons h1, h2]
  have hxs := hTx x (List.mem_of_getElem? hx)
  by_cases g7 : s'.st = 7
  · have e2 : (s'.st != 7) = false := by simp [bne, g7]
    have hm2 : hearL m h (T.drop (j + 1)) s' o' = heardM m h s b := by rw [← hm, hearL_done m h o' g7, hearL_done m h o' g7]
    have ho2 : o'.size ≤ (j + 1) * grow := Nat.le_trans ho (Nat.mul_le_mul_right _ (Nat.le_succ j))
    refine zs4 e1 rx e2 w1 ?_
    exact hK' _ _ (by omega) ⟨j + 1, s', o', f0, f1, f2, f3, f, rfl, by omega, hm2, hi, ho2, rfl⟩
  · have e2 : (s'.st != 7) = true := by simpa [bne] using g7
    have hm2 : hearL m h (T.drop (j + 1)) (lineM m h s' o' x).1 (lineM m h s' o' x).2 = heardM m h s b := by rw [← hm, hd, hearL, if_neg g7]
    have hnx := line_inv (o := o') hh had hbd hi g7 hxs
    have hst : stpO m h o' := ⟨by simp only [grow, huge] at ho ⊢; omega, hh, had⟩
    refine zs3 e1 rx e2 ?_
    refine ⟨s', m, h, o', x, trr, trr, ⟨⟨hst, hbd⟩, ⟨hi.1.1, hi.1.2.std⟩, hxs, hi.2.1, by have := hi.2.2; simp only [big]; omega⟩, ?_⟩
    refine zs1 w1 ?_
    exact hK' _ _ (by omega) ⟨j + 1, (lineM m h s' o' x).1, (lineM m h s' o' x).2, _, _, _, _, _, rfl, by omega, hm2, hnx.1, by have := hnx.2; simp only [grow] at ho this ⊢; omega, rfl⟩
theorem ris_len {m : Int} : ∀ {l : List Int} {p : Option Int} {b : Int}, risF m p l = true → (∀ q, p = some q → b ≤ q) → (p = none → b = -1) → (l = [] → b ≤ m - 1 ∨ b = -1) → l ≠ [] → (l.length : Int) ≤ m - 1 - b
  | [], _, _, _, _, _, _, h => absurd rfl h
  | x :: l, p, b, hr, hp, hn, _, _ => by
    rw [risF_cons] at hr
    simp only [Bool.and_eq_true, decide_eq_true_eq] at hr
    obtain ⟨⟨h1, h2⟩, h3, h4⟩ := hr
    have hbx : b < x := by
      cases p with
      | none => rw [hn rfl]; omega
      | some q =>
        simp only [prevB, decide_eq_true_eq] at h3
        have := hp q rfl
        omega
    cases l with
    | nil => simp only [List.length_cons, List.length_nil]; omega
    | cons y l =>
      have := ris_len (b := x) h4 (fun q hq => by simp only [Option.some.injEq] at hq; omega) (fun h => by cases h) (fun h => by cases h) (by simp)
      simp only [List.length_cons] at this ⊢
      omega
theorem ris_count {m : Int} {l : List Int} (h : risB l m = true) (hm : 0 ≤ m) : (l.length : Int) ≤ m := by
  by_cases hl : l = []
  · subst hl; exact hm
  · have := ris_len (b := -1) h (fun q hq => by cases hq) (fun _ => rfl) (fun _ => .inr rfl) hl
    omega
theorem may_inv {s : Sd} {m : Md} (hf : s.fit) (h : maySd s m = true) : (0 ≤ s.wt ∧ s.wt ≤ 100) ∧ fmP (bl s.rest) s.skip = true ∧ lnI_ m s := by
  unfold maySd at h
  simp only [Bool.and_eq_true, decide_eq_true_eq] at h
  obtain ⟨⟨_, hj, ⟨hs0, hs7⟩, ⟨hw0, hw1⟩, hfm⟩, hcd, _, hp, hln⟩ := h
  have hcd : s.cd.length = s.rc.length := by
    have : (s.cd.length : Int) = s.rc.length := by simpa using hcd
    omega
  unfold jobP at hj
  simp only [Bool.and_eq_true] at hj
  obtain ⟨_, _, _, hne, hris, _⟩ := hj
  have hrc : s.rc ≠ [] := fun e => by
    have : s.jb.rc = [] := e
    rw [this] at hne; cases hne
  have hin : ∀ k ∈ s.rc, 0 ≤ k ∧ k < m.rc.length := ris_in hris
  have tin : ∀ {a : Int}, a ≤ s.cd.length → risB s.tk a = true → toksOK s := fun ha hr k hk => by
    have := ris_in hr k hk
    exact ⟨this.1, by omega⟩
  have hst : stdI s := by
    unfold placeP at hp
    by_cases h3 : s.st = 3
    · rw [if_pos h3] at hp
      simp only [Bool.and_eq_true, decide_eq_true_eq] at hp
      obtain ⟨⟨a0, a1⟩, hr⟩ := hp
      exact ⟨⟨hs0, hs7⟩, fun h => by omega, fun _ => ⟨⟨⟨a0, by omega⟩, ris_count hr a0⟩, tin (by omega) hr⟩, fun h => by omega, fun h => by omega⟩
    rw [if_neg h3] at hp
    by_cases h4 : s.st = 4
    · rw [if_pos h4] at hp
      simp only [Bool.and_eq_true, decide_eq_true_eq] at hp
      obtain ⟨_, hpos, hr⟩ := hp
      exact ⟨⟨hs0, hs7⟩, fun h => by omega, fun h => by omega, fun _ => ⟨fun e => (by rw [e] at hpos; cases hpos), tin (by omega) hr⟩, fun h => by omega⟩
    rw [if_neg h4] at hp
    by_cases h5 : s.st = 5
    · rw [if_pos h5] at hp
      simp only [Bool.and_eq_true, Bool.or_eq_true, decide_eq_true_eq] at hp
      obtain ⟨hpos, hr, ha⟩ := hp
      refine ⟨⟨hs0, hs7⟩, fun h => by omega, fun h => by omega, fun h => by omega, fun _ => ⟨?_, tin (by omega) hr⟩⟩
      rcases ha with ha | ⟨_, ha0, ha1⟩
      · have : s.at_ = 0 := by simpa using ha
        omega
      · omega
    rw [if_neg h5] at hp
    simp only [Bool.and_eq_true] at hp
    have ht : s.tk = [] := by
      have : (s.tk.length : Int) = 0 := by simpa using hp.2
      exact List.length_eq_zero_iff.1 (by omega)
    exact ⟨⟨hs0, hs7⟩, fun _ => ht, fun h => absurd h h3, fun h => absurd h h4, fun h => absurd h h5⟩
  have hl : s.ln.length < 16 := by
    unfold lnsP at hln
    simp only [Bool.or_eq_true, Bool.and_eq_true, decide_eq_true_eq] at hln
    rcases hln with h | h
    · have : (s.ln.length : Int) = 0 := by simpa using h
      omega
    · omega
  exact ⟨⟨hw0, hw1⟩, hfm, ⟨⟨hf.1, ⟨hrc, hin⟩, hcd⟩, hst⟩, hf.2.2.2, hl⟩
def Md.fit (m : Md) : Prop := m.sml ∧ m.body.size ≤ big
theorem Md.sml.adrs {m : Md} (h : m.sml) : m.adrs := by
  obtain ⟨h1, h2, h3⟩ := h
  refine ⟨fun r hr => ?_, ?_⟩
  · have := h2 r hr
    simp only [small, mid, big] at this ⊢
    omega
  · simp only [mid, big] at h1 ⊢
    omega
def Γ21q : Sems := ext 32 s37 (ext 33 q33 (ext 34 s38 (ext 35 s39 (ext 36 q36 (ext 37 q37 (Γ0))))))
theorem Γ21q.ok : SemsOK Gr Tryz.prog Γ21q := ((((((Γ0.ok.ext Tryz.func37 rfl (by decide) qk37).ext Tryz.func36 rfl (by decide) qk36).ext Tryz.func35 rfl (by decide) ok39).ext Tryz.func34 rfl (by decide) ok38).ext Tryz.func33 rfl (by decide) qk33).ext Tryz.func32 rfl (by decide) ok37)
theorem mid_big' {s : ByteArray} (h : s.size ≤ mid) : s.size ≤ big := by simp only [mid, big] at h ⊢; omega
def hearS (m : Md) (h : ByteArray) (s : Sd) (b : List Int) : Sd × ByteArray := if s.st = 7 then (s, ⟨#[]⟩) else heardM m h s b
def hostP (h : ByteArray) : Bool := domL (bl h) && !pre [91] (bl h)
def mayHr (m : Md) (h : ByteArray) (s : Sd) : Bool := (mailP m.ml && maySd s m) && hostP h
def Sd.osA (s : Sd) (m0 m1 m2 m3 : Bool) : List Ob := [.own 3 IT s.rc true m0, .own 3 IT s.tk true m1, .own 3 IT s.cd true m2, .own 9 ST s.ln true m3]
def q21 : Sense := ⟨false, fun os xs K => ∃ (s : Sd) (m : Md) (h : ByteArray) (b : List Int), xs = [.agg s.fz, .agg (m.cs (.sl RT m.rc)), .one (.sl (.int .u8) b), .one (.str h)] ∧ os = [] ∧ ((s.fit ∧ m.fit) ∧ (h.size ≤ mid ∧ (s.rest.size + b.length ≤ big ∧ Byts b))) ∧
  (mayHr m h s = false → K [] (.ret (.tup [.agg zSd, .one (.str ⟨#[]⟩), .one (.int .i64 1)]))) ∧
  (mayHr m h s = true → ∀ m0 m1 m2 m3, K ((hearS m h s b).1.osA m0 m1 m2 m3) (.ret (.tup [.agg ((hearS m h s b).1.ow 0), .one (.str (hearS m h s b).2), .one (.int .i64 0)])))⟩
theorem qk21 : SenseOK Gr Tryz.prog 21 q21 := SenseOK.any Γ21q.ok (fun _ => []) Tryz.func21 fun os xs K hq => by
  obtain ⟨s, m, h, b, rfl, rfl, ⟨⟨hf, hm, hbd⟩, hh, hb, hy⟩, hk0, hk1⟩ := hq
  have hml := hm.2.2
  have hsm := hf.1
  refine zy ?_
  refine ⟨m, .sl RT m.rc, rfl, .inl ⟨rfl, rfl⟩, hm, ?_⟩
  cases g1 : mailP m.ml with
  | false =>
    refine zs1 g1 ?_
    exact hk0 (by rw [mayHr, g1]; rfl)
  | true =>
  refine zs1 g1 ?_
  cases g2 : maySd s m with
  | false =>
    refine zs1 g2 ?_
    exact hk0 (by rw [mayHr, g1, g2]; rfl)
  | true =>
  cases g3 : domL (bl h) with
  | false =>
    refine zs2 g2 g3 ?_
    exact hk0 (by rw [mayHr, hostP, g1, g2, g3]; rfl)
  | true =>
  cases g4 : pre [91] (bl h) with
  | true =>
    refine zs3 g2 g3 g4 ?_
    exact hk0 (by rw [mayHr, hostP, g1, g2, g3, g4]; rfl)
  | false =>
  have hk := hk1 (by rw [mayHr, hostP, g1, g2, g3, g4]; rfl)
  clear hk0 hk1
  obtain ⟨_, hfm, hin⟩ := may_inv hf g2
  have hho : hearO m s h b := ⟨⟨⟨mid_big' hh, hm.adrs⟩, hbd⟩, ⟨fun _ => hin, hf.1⟩, ⟨hb, hy⟩, fmP_cut hfm⟩
  refine zs3 g2 g3 g4 ?_
  refine ⟨[], (.take 0 (.take 2 (.take 3 (.take 4 (.br 1 (.br 5 (.take 6 (.take 7 (.take 8 (.br 9 (.br 10 (.take 11 .done) .nil) .nil)))) (.br 9 (.br 5 (.take 6 (.take 7 (.take 8 (.br 10 (.take 11 .done) .nil)))) .nil) .nil)) (.br 9 (.br 1 (.br 5 (.take 6 (.take 7 (.take 8 (.br 10 (.take 11 .done) .nil)))) .nil) .nil) .nil)))))), ⟨by kernel_rfl⟩, ?_⟩
  ((conv => whnf); repeat' ((first | refine Both.mk ?_ ?_ | refine Br.t ?_ | refine Br.f ?_ | refine ob ?_ | refine ⟨_, rfl, ?_⟩ | refine ⟨_, _, rfl, ?_⟩ | refine ⟨_, _, _, rfl, ?_⟩ | refine ⟨_, _, _, _, rfl, ?_⟩ | simp only []); all_goals (conv => whnf)))
  all_goals
    intro m0 m1 m2 m3
    ((conv => whnf); repeat' ((first | refine Both.mk ?_ ?_ | refine Br.t ?_ | refine Br.f ?_ | refine ob ?_ | refine ⟨_, rfl, ?_⟩ | refine ⟨_, _, rfl, ?_⟩ | refine ⟨_, _, _, rfl, ?_⟩ | refine ⟨_, _, _, _, rfl, ?_⟩ | simp only []); all_goals (conv => whnf)))
    all_goals
      refine ⟨fun h7 => ?_, fun h7 n0 n1 n2 n3 => ?_⟩
      · rw [show hearS m h s b = (s, ⟨#[]⟩) from if_pos h7] at hk
        ((conv => whnf); repeat' ((first | refine Both.mk ?_ ?_ | refine Br.t ?_ | refine Br.f ?_ | refine ob ?_ | refine ⟨_, rfl, ?_⟩ | refine ⟨_, _, rfl, ?_⟩ | refine ⟨_, _, _, rfl, ?_⟩ | refine ⟨_, _, _, _, rfl, ?_⟩ | simp only []); all_goals (conv => whnf)))
        all_goals exact hk _ _ _ _
      · rw [show hearS m h s b = heardM m h s b from if_neg h7] at hk
        generalize heardM m h s b = p at hk
        ((conv => whnf); repeat' ((first | refine Both.mk ?_ ?_ | refine Br.t ?_ | refine Br.f ?_ | refine ob ?_ | refine ⟨_, rfl, ?_⟩ | refine ⟨_, _, rfl, ?_⟩ | refine ⟨_, _, _, rfl, ?_⟩ | refine ⟨_, _, _, _, rfl, ?_⟩ | simp only []); all_goals (conv => whnf)))
        all_goals exact hk _ _ _ _
def Γ22q : Sems := ext 32 s37 (ext 33 q33 (ext 38 q38 (Γ0)))
theorem Γ22q.ok : SemsOK Gr Tryz.prog Γ22q := (((Γ0.ok.ext Tryz.func38 rfl (by decide) qk38).ext Tryz.func33 rfl (by decide) qk33).ext Tryz.func32 rfl (by decide) ok37)
def codesL (s : Sd) (m : Md) : List Int × Int := bif mailP m.ml && maySd s m then (if s.st = 6 ∨ s.st = 7 then (s.cd, 0) else ([], 6)) else ([], 1)
def q22 : Sense := ⟨false, fun os xs K => ∃ (s : Sd) (m : Md), xs = [.agg s.fz, .agg (m.cs (.sl RT m.rc))] ∧ os = [] ∧ (s.fit ∧ m.sml) ∧ ∀ mv, K [.own 3 IT (codesL s m).1 true mv] (.ret (.tup [.one (.own 0), .one (.int .i64 (codesL s m).2)]))⟩
theorem qk22 : SenseOK Gr Tryz.prog 22 q22 := SenseOK.anyL Γ22q.ok (fun _ => []) [.out 0 3 IT] Tryz.func22 fun os xs K hq => by
  obtain ⟨s, m, rfl, rfl, ⟨hf, hm⟩, hk⟩ := hq
  have hml := hm.2.2
  have hsm := hf.1
  have hk' : ∀ p, codesL s m = p → ∀ mv, K [.own 3 IT p.1 true mv] (.ret (.tup [.one (.own 0), .one (.int .i64 p.2)])) := fun p hp => hp ▸ hk
  clear hk
  unfold codesL at hk'
  refine zy ?_
  refine ⟨m, .sl RT m.rc, rfl, .inl ⟨rfl, rfl⟩, hm, ?_⟩
  cases g1 : mailP m.ml with
  | false =>
    rw [g1] at hk'
    refine zs1 g1 ?_
    exact hk' _ rfl _
  | true =>
  rw [g1] at hk'
  refine zs1 g1 ?_
  cases g2 : maySd s m with
  | false =>
    rw [g2] at hk'
    refine zs1 g2 ?_
    exact hk' _ rfl _
  | true =>
  rw [g2] at hk'
  have hk' : ∀ p, (if s.st = 6 ∨ s.st = 7 then (s.cd, 0) else ([], 6)) = p → ∀ mv, K [.own 3 IT p.1 true mv] (.ret (.tup [.one (.own 0), .one (.int .i64 p.2)])) := hk'
  have hcl := hf.1.2.2.1
  by_cases h6 : s.st = 6
  · have e6 : (s.st != 6) = false := by simp [bne, h6]
    rw [if_pos (.inl h6)] at hk'
    refine zs2 g2 e6 ?_
    intro mv
    refine zs0 ?_
    exact hk' _ rfl _
  have e6 : (s.st != 6) = true := by simpa [bne] using h6
  by_cases h7 : s.st = 7
  · have e7 : (s.st != 7) = false := by simp [bne, h7]
    rw [if_pos (.inr h7)] at hk'
    refine zs3 g2 e6 e7 ?_
    intro mv
    refine zs0 ?_
    exact hk' _ rfl _
  · have e7 : (s.st != 7) = true := by simpa [bne] using h7
    rw [if_neg (fun h => h.elim h6 h7)] at hk'
    refine zs3 g2 e6 e7 ?_
    exact hk' _ rfl _
def Γ27q : Sems := ext 32 s37 (ext 33 q33 (ext 37 q37 (ext 41 q41 (Γ0))))
theorem Γ27q.ok : SemsOK Gr Tryz.prog Γ27q := ((((Γ0.ok.ext Tryz.func41 rfl (by decide) qk41).ext Tryz.func37 rfl (by decide) qk37).ext Tryz.func33 rfl (by decide) qk33).ext Tryz.func32 rfl (by decide) ok37)
abbrev sdR (g : Bool) (s : Sd) (K : List Ob → Out → Prop) : Prop := (g = false → K [] (.ret (.tup [.agg zSd, .one (.int .i64 1)]))) ∧ (g = true → ∀ m0 m1 m2 m3, K (s.osA m0 m1 m2 m3) (.ret (.tup [.agg (s.ow 0), .one (.int .i64 0)])))
def tickR (s : Sd) : Sd := if s.wt + 1 < 100 then { s with wt := s.wt + 1 } else brk0 s
def q27 : Sense := ⟨false, fun os xs K => ∃ (s : Sd) (m : Md), xs = [.agg s.fz, .agg (m.cs (.sl RT m.rc))] ∧ os = [] ∧ (s.fit ∧ m.sml) ∧ sdR (mailP m.ml && maySd s m) (tickR s) K⟩
theorem qk27 : SenseOK Gr Tryz.prog 27 q27 := SenseOK.any Γ27q.ok (fun _ => []) Tryz.func27 fun os xs K hq => by
  obtain ⟨s, m, rfl, rfl, ⟨hf, hm⟩, hk0, hk⟩ := hq
  have hml := hm.2.2
  have hsm := hf.1
  refine zy ?_
  refine ⟨m, .sl RT m.rc, rfl, .inl ⟨rfl, rfl⟩, hm, ?_⟩
  cases g1 : mailP m.ml with
  | false =>
    refine zs1 g1 ?_
    exact hk0 (by rw [g1]; rfl)
  | true =>
  refine zs1 g1 ?_
  cases g2 : maySd s m with
  | false =>
    refine zs1 g2 ?_
    exact hk0 (by rw [g1, g2]; rfl)
  | true =>
  have hk := hk (by rw [g1, g2]; rfl)
  obtain ⟨⟨w0, w1⟩, _⟩ := may_inv hf g2
  refine zs1 g2 ?_
  intro m0 m1 m2 m3
  refine zs0 ?_
  refine ⟨fun h => ?_, fun h n0 n1 n2 n3 => ?_⟩
  · rw [tickR, if_pos h] at hk
    refine zs0 ?_
    exact hk _ _ _ _
  · rw [tickR, if_neg h] at hk
    refine zs0 ?_
    exact hk _ _ _ _
def Γ73q : Sems := ext 32 s37 (ext 33 q33 (ext 65 q65 (Γ0)))
theorem Γ73q.ok : SemsOK Gr Tryz.prog Γ73q := (((Γ0.ok.ext Tryz.func65 rfl (by decide) qk65).ext Tryz.func33 rfl (by decide) qk33).ext Tryz.func32 rfl (by decide) ok37)
def Γ17q : Sems := ext 31 q31 (ext 32 s37 (ext 33 (lendS q33) (Γ0)))
theorem Γ17q.ok : SemsOK Gr Tryz.prog Γ17q := (((Γ0.ok.ext Tryz.func33 rfl (by decide) (SenseOK.lendL qk33)).ext Tryz.func32 rfl (by decide) ok37).ext Tryz.func31 rfl (by decide) qk31)
def q17 : Sense := ⟨false, fun os xs K => ∃ (id : Int) (j : Jb) (lm : Bool) (m : Md), xs = [.one (.int .i64 id), .agg j.fz, .one (.bool lm), .agg (m.cs (.sl RT m.rc))] ∧ os = [] ∧ (j.sml ∧ m.sml) ∧ sdR (mailP m.ml && maySd (newSd id j lm) m) (newSd id j lm) K⟩
theorem qk17 : SenseOK Gr Tryz.prog 17 q17 := SenseOK.any Γ17q.ok (fun _ => []) Tryz.func17 fun os xs K hq => by
  obtain ⟨id, j, lm, m, rfl, rfl, ⟨⟨hj, hjd⟩, hm⟩, hk0, hk⟩ := hq
  have hml := hm.2.2
  have hf : (newSd id j lm).fit := ⟨⟨hj, Nat.zero_le _, by simpa [newSd] using hj, Nat.zero_le _⟩, hjd, Nat.zero_le _, fun x hx => by cases hx⟩
  refine zy ?_
  refine ⟨id, j, lm, rfl, rfl, hj, fun m0 m1 m2 m3 => ?_⟩
  generalize hs : newSd id j lm = s at *
  refine zy ?_
  refine ⟨m, .sl RT m.rc, rfl, .inl ⟨rfl, rfl⟩, hm, ?_⟩
  cases g1 : mailP m.ml with
  | false =>
    refine zs1 g1 ?_
    exact hk0 (by rw [g1]; rfl)
  | true =>
  refine zs1 g1 ?_
  refine ⟨[.agg s.fz, .agg (m.cs (.sl RT m.rc))], trr, lnt, ?_⟩
  refine zy ?_
  refine ⟨s, m, trr, trr, hf, hml, ?_⟩
  cases g2 : maySd s m with
  | false =>
    refine zs1 g2 ?_
    exact hk0 (by rw [g1, g2]; rfl)
  | true =>
  have hk := hk (by rw [g1, g2]; rfl)
  refine zs1 g2 ?_
  exact hk _ _ _ _
theorem SenseOK.or {f : FuncId} {s s1 s2 : Sense} (h1 : SenseOK G Tryz.prog f s1) (h2 : SenseOK G Tryz.prog f s2) (hr1 : s.ro = s1.ro) (hr2 : s.ro = s2.ro) (hf : ∀ os xs K, s.f os xs K → s1.f os xs K ∨ s2.f os xs K) : SenseOK G Tryz.prog f s := by
  intro X w lk os xs vs K hO hl0 hX hXG hgr has hs
  rcases hf _ _ _ hs with h | h
  · rw [hr1]; exact h1 X w lk os xs vs K hO hl0 hX hXG hgr has h
  · rw [hr2]; exact h2 X w lk os xs vs K hO hl0 hX hXG hgr has h
def bA : ByteArray := ⟨#[97]⟩
def bX : ByteArray := ⟨#[120]⟩
def mM : Md := ⟨1, 0, false, bA, bX, [((bA, bX), (0, (0, (0, 0))))], ByteArray.empty, 0, false, false⟩
def s19 : Sense := ⟨false, fun os xs K => xs = [] ∧ os = [] ∧ ∀ mv, K [.own 39 RT mM.rc true mv] (.ret (.agg (mM.cs (.own 0))))⟩
theorem ok19 : SenseOK G Tryz.prog 15 s19 := SenseOK.any Γ0.ok (fun _ => []) Tryz.func15 fun os xs K h => by
  obtain ⟨rfl, rfl, hk⟩ := h
  refine zv ?_
  exact hk _
theorem mM_P : mailP mM.ml = true := by decide +kernel
theorem mM_sml : mM.sml := ⟨by decide, fun r hr => by simp [mM] at hr; subst hr; simp [small, bA, bX, mid, ByteArray.size], by decide⟩
theorem bl_bytm (s : ByteArray) : Byts (bl s) := fun c hc => by have := bl_range hc; omega
def Γ27 : Sems := ext 67 s35 Γ0
theorem Γ27.ok : SemsOK G Tryz.prog Γ27 := Γ0.ok.ext Tryz.func67 rfl (by decide) ok35
def jS : Jb := ⟨1, 0, ⟨#[120]⟩, [0]⟩
def hS : ByteArray := ⟨#[104]⟩
def atW (s : Sd) (n : Int) : Sd := { s with wt := n }
theorem may_wt {s : Sd} {m : Md} {n : Int} (h : maySd s m = true) (h0 : 0 ≤ n) (h1 : n ≤ 100) : maySd (atW s n) m = true := by
  unfold maySd at h ⊢
  simp only [Bool.and_eq_true, decide_eq_true_eq] at h ⊢
  obtain ⟨⟨a, hj, hs, _, hf⟩, r⟩ := h
  exact ⟨⟨a, hj, hs, ⟨h0, h1⟩, hf⟩, r⟩
theorem fit_wt {s : Sd} (n : Int) (h : s.fit) : (atW s n).fit := h
theorem tick_wt {s : Sd} {n : Int} (h : n + 1 < 100) : tickR (atW s n) = atW s (n + 1) := if_pos h
theorem tick_end (s : Sd) : tickR (atW s 99) = brk0 (atW s 99) := if_neg (by show ¬ (99 : Int) + 1 < 100; decide)
def aW (lm : Bool) : Sd := newSd 1 jS lm
def bB (lm : Bool) : Sd := { newSd 1 jS lm with rest := ⟨#[50]⟩ }
def whS : List Int := [119, 104, 97, 116, 13, 10, 50, 50, 48, 32, 97, 13, 10]
def yW (lm : Bool) : Sd := (hearS mM hS (atW (bB lm) 99) whS).1
theorem aW_may : ∀ lm, maySd (aW lm) mM = true := by decide +kernel
theorem bB_may : ∀ lm, maySd (bB lm) mM = true := by decide +kernel
theorem aW_hr : ∀ lm, mayHr mM hS (atW (aW lm) 99) = true := by decide +kernel
theorem aW_hear : ∀ lm, hearS mM hS (atW (aW lm) 99) [50] = (bB lm, ⟨#[]⟩) := by decide +kernel
theorem bB_hr : ∀ lm, mayHr mM hS (atW (bB lm) 99) = true := by decide +kernel
theorem bB_hear : ∀ lm, hearS mM hS (atW (bB lm) 99) whS = (yW lm, ⟨#[]⟩) := by decide +kernel
theorem yW_st : ∀ lm, (yW lm).st = 7 := by decide +kernel
theorem bB_codes : ∀ lm, codesL (brk0 (atW (bB lm) 99)) mM = ([0], 0) := by decide +kernel
theorem aW_fit (lm : Bool) : (aW lm).fit := by cases lm <;> exact ⟨⟨by decide, by decide, by decide, by decide⟩, by decide, by decide, fun x hx => by cases hx⟩
theorem bB_fit (lm : Bool) : (bB lm).fit := by cases lm <;> exact ⟨⟨by decide, by decide, by decide, by decide⟩, by decide, by decide, fun x hx => by cases hx⟩
theorem brk_fit {s : Sd} (h : s.fit) : (brk0 s).fit := ⟨⟨h.1.1, Nat.zero_le _, h.1.2.2.1, Nat.zero_le _⟩, h.2.1, Nat.zero_le _, fun x hx => by cases hx⟩
theorem hS_mid : hS.size ≤ mid := by decide
theorem byts50 : Byts [50] := fun x hx => by
  simp only [List.mem_cons, List.not_mem_nil, or_false] at hx
  omega
theorem bytsWh : Byts whS := fun x hx => by
  simp only [whS, List.mem_cons, List.not_mem_nil, or_false] at hx
  omega
theorem mM_fit : mM.fit := ⟨mM_sml, by decide⟩
def q18 : Sense := pureS fun xs K => ∃ e, xs = [.one (.int .i64 e)] ∧ K (.ret (.one (.int .i64 e)))
theorem qk18 : SenseOK G Tryz.prog 18 q18 := SenseOK.pure Γ0.ok (fun _ => []) Tryz.func18 fun xs K h => by
  obtain ⟨e, rfl, hk⟩ := h
  refine zv ?_
  exact hk
theorem u64_wrap (n : Int) : IntKind.u64.wrap n = n % 18446744073709551616 := rfl
def q16 : Sense := pureS fun xs K => ∃ d n : Int, xs = [.one (.int .i64 d), .one (.int .i64 n)] ∧ (0 < n ∧ n ≤ 1073741824) ∧ ∀ r, ((0 ≤ r ∧ r < n) ∧ (0 ≤ d ∧ d < n → r = d)) → K (.ret (.one (.int .i64 r)))
theorem qk16 : SenseOK G Tryz.prog 16 q16 := SenseOK.pure Γ0.ok (fun _ => []) Tryz.func16 fun xs K h => by
  obtain ⟨d, n, rfl, ⟨h0, h1⟩, hk⟩ := h
  have hn : IntKind.u64.wrap n = n := by rw [u64_wrap, Int.emod_eq_of_lt (by omega) (by omega)]
  have hd : 0 ≤ IntKind.u64.wrap d := by rw [u64_wrap]; exact Int.emod_nonneg _ (by decide)
  have hr : (IntKind.u64.wrap d).tmod n = IntKind.u64.wrap d % n := Int.tmod_eq_emod_of_nonneg hd
  have hr0 : 0 ≤ IntKind.u64.wrap d % n := Int.emod_nonneg _ (by omega)
  have hr1 : IntKind.u64.wrap d % n < n := Int.emod_lt_of_pos _ h0
  have hne : n ≠ 0 := by omega
  have w1 : IntKind.i64.wrap (IntKind.u64.wrap d % n) = IntKind.u64.wrap d % n := IntWalk.i64_in _ (by omega)
  have fin := hk (IntKind.u64.wrap d % n) ⟨⟨hr0, hr1⟩, fun h => by rw [u64_wrap, Int.emod_eq_of_lt (by omega) (by omega), Int.emod_eq_of_lt (by omega) (by omega)]⟩
  refine zs3 hn hr w1 ?_
  exact fin
def jW : Jb := ⟨1, 0, ⟨#[120]⟩, [0]⟩
def bW : List Int := [50, 50, 48, 32, 97, 13, 10]
def hW : ByteArray := ⟨#[104]⟩
theorem w_open : (mailP mM.ml && maySd (newSd 1 jW false) mM) = true := by decide +kernel
theorem w_hear : mayHr mM hW (newSd 1 jW false) = true := by decide +kernel
theorem w_out : (hearS mM hW (newSd 1 jW false) bW).2 = (⟨#[69, 72, 76, 79, 32, 104, 13, 10]⟩ : ByteArray) := by decide +kernel
theorem w_st : (hearS mM hW (newSd 1 jW false) bW).1.st = 1 := by decide +kernel
def Γ26q : Sems := ext 15 s19 (ext 17 (lendS q17) (ext 18 q18 (ext 21 (lendS q21) (Γ0))))
theorem Γ26q.ok : SemsOK Gr Tryz.prog Γ26q := ((((Γ0.ok.ext Tryz.func21 rfl (by decide) (SenseOK.lendL qk21)).ext Tryz.func18 rfl (by decide) qk18).ext Tryz.func17 rfl (by decide) (SenseOK.lendL qk17)).ext Tryz.func15 rfl (by decide) ok19)
def q26 : Sense := ⟨false, fun os xs K => xs = [] ∧ os = [] ∧ K [] (.ret (.one (.bool true)))⟩
theorem qk26 : SenseOK Gr Tryz.prog 26 q26 := SenseOK.any Γ26q.ok (fun _ => []) Tryz.func26 fun os xs K hq => by
  obtain ⟨rfl, rfl, hk⟩ := hq
  have hf : (newSd 1 jW false).fit := ⟨⟨by decide, by decide, by decide, by decide⟩, by decide, by decide, fun x hx => by cases hx⟩
  have hm : mM.fit := ⟨mM_sml, by decide⟩
  have hb : (newSd 1 jW false).rest.size + bW.length ≤ big ∧ Byts bW := ⟨by decide, fun x hx => by
    simp only [bW, List.mem_cons, List.not_mem_nil, or_false] at hx
    omega⟩
  have ho := w_out
  have hs := w_st
  have hh := w_hear
  have hop := w_open
  generalize hn : newSd 1 jW false = s0 at *
  generalize hr : hearS mM hW s0 bW = p at *
  refine zs0 ?_
  intro mv
  refine zs0 ?_
  refine ⟨[.one (.int .i64 1), .agg jW.fz, .one (.bool false), .agg (mM.cs (.sl RT mM.rc))], trr, lnt, ?_⟩
  refine zy ?_
  refine ⟨1, jW, false, mM, rfl, rfl, ⟨⟨by decide, by decide⟩, mM_sml⟩, ?_⟩
  rw [hn]
  refine ⟨fun h => (by rw [hop] at h; cases h), fun _ m0 m1 m2 m3 => ?_⟩
  refine zs0 ?_
  refine ⟨[.agg s0.fz, .agg (mM.cs (.sl RT mM.rc)), .one (.sl (.int .u8) bW), .one (.str hW)], trr, lnt, ?_⟩
  refine zy ?_
  refine ⟨s0, mM, hW, bW, rfl, rfl, ⟨⟨hf, hm⟩, by decide, hb⟩, fun h => (by rw [hh] at h; cases h), fun _ n0 n1 n2 n3 => ?_⟩
  rw [hr]
  obtain ⟨w, ou⟩ := p
  simp only at ho hs
  subst ho
  have h1 : (w.st == 1) = true := by simpa using hs
  have hll : ∀ x : ByteArray, (x.toList == x.toList) = true := fun x => beq_self_eq_true _
  refine zs2 h1 hll ?_
  exact hk
def tkC (b : ByteArray) (n : Int) (lm : Bool) (c z : List Int) : List C := [.str b, .int .i64 n, .bool lm, .sl IT c, .sl IT z]
def Γ6q : Sems := ext 15 s19 (ext 17 (lendS q17) (ext 18 q18 (ext 21 (lendS q21) (ext 22 (lendS q22) (ext 23 (lendS q23) (ext 27 (lendS q27) (ext 26 q26 (Γ0))))))))
theorem Γ6q.ok : SemsOK Gr Tryz.prog Γ6q := ((((((((Γ0.ok.ext Tryz.func26 rfl (by decide) qk26).ext Tryz.func27 rfl (by decide) (SenseOK.lendL qk27)).ext Tryz.func23 rfl (by decide) (SenseOK.lendL qk23)).ext Tryz.func22 rfl (by decide) (SenseOK.lendL qk22)).ext Tryz.func21 rfl (by decide) (SenseOK.lendL qk21)).ext Tryz.func18 rfl (by decide) qk18).ext Tryz.func17 rfl (by decide) (SenseOK.lendL qk17)).ext Tryz.func15 rfl (by decide) ok19)
def osS (t : List C) (s : Sd) (f0 f1 f2 f3 f4 : Bool) : List Ob := [.box 24 t, .box 32 (mM.cs (.own 3)), .box 43 (s.ow 4), .own 39 RT mM.rc true f0, .own 3 IT s.rc true f1, .own 3 IT s.tk true f2, .own 3 IT s.cd true f3, .own 9 ST s.ln true f4]
def sR (lm : Bool) : Nat → Sd
  | 0 => aW lm
  | 1 => bB lm
  | _ => atW (bB lm) 99
def q6 : Sense := ⟨false, fun os xs K => ∃ (b : ByteArray) (n : Int) (lm : Bool) (c z : List Int), xs = [.agg (tkC b n lm c z)] ∧ os = [] ∧ K [] (.ret (.one (.bool true)))⟩
theorem qk6 : SenseOK Gr Tryz.prog 6 q6 := SenseOK.any Γ6q.ok (fun n => match n with | 6 => [1, 3, 4, 6] | 9 => [1, 3, 4, 6, 7] | _ => []) Tryz.func6 fun os xs K hq => by
  obtain ⟨b, n, lm, c, z, rfl, rfl, hk⟩ := hq
  have hll : ∀ x : ByteArray, (x.toList == x.toList) = true := fun x => beq_self_eq_true _
  have hop : (mailP mM.ml && maySd (newSd 1 jS lm) mM) = true := by
    rw [mM_P, Bool.true_and]; exact aW_may lm
  have hpm := mM_P
  refine zs0 ?_
  intro f0
  refine zs0 ?_
  refine ⟨[.one (.int .i64 1), .agg jS.fz, .one (.bool lm), .agg (mM.cs (.sl RT mM.rc))], trr, lnt, ?_⟩
  refine zy ?_
  refine ⟨1, jS, lm, mM, trr, trr, ⟨⟨by decide, by decide⟩, mM_sml⟩, ?_⟩
  refine ⟨fun h => (by rw [hop] at h; cases h), fun _ m0 m1 m2 m3 => ?_⟩
  rw [show newSd 1 jS lm = sR lm 0 from rfl]
  refine zs0 ?_
  refine iter_of (I := fun k σ => ∃ (r : Nat) (f0 f1 f2 f3 f4 : Bool), k = 2 - r ∧ r ≤ 2 ∧ σ = ⟨slots 148 [(1, .one (.ref 0 0)), (3, .one (.ref 1 0)), (4, .one (.ref 2 0)), (6, .one (.int .i64 r))], osS (tkC b n lm c z) (sR lm r) f0 f1 f2 f3 f4⟩) ?_ 2 ⟨0, _, _, _, _, _, rfl, by decide, rfl⟩
  rintro k σ K' ⟨r, f0, f1, f2, f3, f4, rfl, hr, rfl⟩ hK'
  by_cases hr2 : r = 2
  case neg =>
    have e1 : decide ((r : Int) < 2) = true := decide_eq_true (by omega)
    obtain ⟨S, hS0, hSf, hSm, hSw, hSs⟩ : ∃ S : Sd, sR lm r = S ∧ S.fit ∧ maySd S mM = true ∧ S.wt = 0 ∧ S.st = 0 := by
      obtain rfl | rfl : r = 0 ∨ r = 1 := by omega
      · exact ⟨_, rfl, aW_fit lm, aW_may lm, rfl, rfl⟩
      · exact ⟨_, rfl, bB_fit lm, bB_may lm, rfl, rfl⟩
    rw [hS0]
    have w0 := IntWalk.i64_in ((r : Int) + 1) (by omega)
    refine zs1 e1 ?_
    refine iter_of (I := fun k σ => ∃ (t : Nat) (w : Int) (g0 g1 g2 g3 g4 : Bool), k = 100 - t ∧ (w + 1 = t ∧ t ≤ 100 ∧ 0 ≤ w) ∧ σ = ⟨slots 148 [(1, .one (.ref 0 0)), (3, .one (.ref 1 0)), (4, .one (.ref 2 0)), (6, .one (.int .i64 r)), (7, .one (.int .i64 t))], osS (tkC b n lm c z) (atW S w) g0 g1 g2 g3 g4⟩) ?_ 99 ⟨1, S.wt, _, _, _, _, _, rfl, ⟨by rw [hSw]; rfl, by decide, by rw [hSw]; decide⟩, rfl⟩
    rintro k2 σ2 K2 ⟨t, w, g0, g1, g2, g3, g4, rfl, ⟨hw, ht, hw0⟩, rfl⟩ hK2
    have hmw : (mailP mM.ml && maySd (atW S w) mM) = true := by rw [mM_P, Bool.true_and]; exact may_wt hSm hw0 (by omega)
    by_cases ht1 : t = 100
    case neg =>
      have e2 : decide ((t : Int) < 100) = true := decide_eq_true (by omega)
      have w1 := IntWalk.i64_in ((t : Int) + 1) (by omega)
      refine zs1 e2 ?_
      refine ⟨[.agg (atW S w).fz, .agg (mM.cs (.sl RT mM.rc))], trr, lnt, ?_⟩
      refine zy ?_
      refine ⟨atW S w, mM, trr, trr, ⟨fit_wt _ hSf, mM_sml⟩, fun h => (by rw [hmw] at h; cases h), fun _ m0 m1 m2 m3 => ?_⟩
      obtain ⟨X, hX⟩ : ∃ X, tickR (atW S w) = X := ⟨_, rfl⟩
      have hX2 : atW S t = X := by rw [← hX, tick_wt (by omega), hw]
      have x1 : (X.st == 7) = false := by rw [← hX2]; show (S.st == 7) = false; rw [hSs]; rfl
      have x2 : (X.wt != (t : Int)) = false := by rw [← hX2]; show ((t : Int) != t) = false; simp
      rw [hX]
      refine zs3 x1 x2 w1 ?_
      subst hX2
      exact hK2 _ _ (by omega) ⟨t + 1, t, _, _, _, _, _, rfl, ⟨by omega, by omega, by omega⟩, rfl⟩
    obtain rfl : w = 99 := by omega
    subst ht1
    obtain rfl | rfl : r = 0 ∨ r = 1 := by omega
    · obtain rfl : aW lm = S := hS0
      have hhr := aW_hr lm
      have hrs : (atW (aW lm) 99).rest.size + [(50 : Int)].length ≤ big := by cases lm <;> decide
      refine zs0 ?_
      refine ⟨[.agg (atW (aW lm) 99).fz, .agg (mM.cs (.sl RT mM.rc)), .one (.sl (.int .u8) [50]), .one (.str hS)], trr, lnt, ?_⟩
      refine zy ?_
      refine ⟨atW (aW lm) 99, mM, hS, [50], trr, trr, ⟨⟨fit_wt _ (aW_fit lm), mM_fit⟩, hS_mid, hrs, byts50⟩, fun h => (by rw [hhr] at h; cases h), fun _ n0 n1 n2 n3 => ?_⟩
      rw [aW_hear lm]
      obtain ⟨Y, hY⟩ : ∃ Y, bB lm = Y := ⟨_, rfl⟩
      have y1 : (Y.wt != 0) = false := by rw [← hY]; rfl
      rw [hY]
      refine zs3 y1 hll w0 ?_
      exact hK' _ _ (by omega) ⟨1, _, _, _, _, _, rfl, by omega, by rw [← hY]; rfl⟩
    · obtain rfl : bB lm = S := hS0
      refine zs1 w0 ?_
      exact hK' _ _ (by omega) ⟨2, _, _, _, _, _, rfl, by omega, rfl⟩
  subst hr2
  have hbm : (mailP mM.ml && maySd (atW (bB lm) 99) mM) = true := by rw [mM_P, Bool.true_and]; exact may_wt (bB_may lm) (by omega) (by omega)
  rw [show sR lm 2 = atW (bB lm) 99 from rfl]
  have hcd := bB_codes lm
  have hbr := bB_hr lm
  have hyw := bB_hear lm
  have hys := yW_st lm
  have hbf : (atW (bB lm) 99).fit := fit_wt _ (bB_fit lm)
  have hrs : (atW (bB lm) 99).rest.size + whS.length ≤ big := by cases lm <;> decide
  have htk := tick_end (bB lm)
  generalize hs : atW (bB lm) 99 = s at *
  refine zs0 ?_
  refine ⟨[.agg s.fz, .agg (mM.cs (.sl RT mM.rc))], trr, lnt, ?_⟩
  refine zy ?_
  refine ⟨s, mM, trr, trr, ⟨hbf, mM_sml⟩, fun h => (by rw [hbm] at h; cases h), fun _ m0 m1 m2 m3 => ?_⟩
  rw [htk]
  obtain ⟨x, hx⟩ : ∃ x, brk0 s = x := ⟨_, rfl⟩
  have hxf : x.fit := hx ▸ brk_fit hbf
  have x7 : (x.st == 7) = true := by rw [← hx]; rfl
  rw [hx] at hcd ⊢
  refine zs0 ?_
  refine ⟨[.agg x.fz, .agg (mM.cs (.sl RT mM.rc))], trr, lnt, ?_⟩
  refine zy ?_
  refine ⟨x, mM, trr, trr, ⟨hxf, mM_sml⟩, fun f5 => ?_⟩
  rw [hcd]
  refine zs0 ?_
  refine ⟨[.agg s.fz, .agg (mM.cs (.sl RT mM.rc)), .one (.sl (.int .u8) whS), .one (.str hS)], trr, lnt, ?_⟩
  refine zy ?_
  refine ⟨s, mM, hS, whS, trr, trr, ⟨⟨hbf, mM_fit⟩, hS_mid, hrs, bytsWh⟩, fun h => (by rw [hbr] at h; cases h), fun _ n0 n1 n2 n3 => ?_⟩
  rw [hyw]
  obtain ⟨Y, hY⟩ : ∃ Y, yW lm = Y := ⟨_, rfl⟩
  have y7 : (Y.st == 7) = true := by rw [← hY, hys]; rfl
  have hcl : decide ((c.length : Int) ≥ 0) = true := decide_eq_true (by omega)
  rw [hY]
  refine zs4 x7 y7 hll hcl ?_
  refine ⟨[.one (.sl IT [0]), .one (.sl IT [0])], trr, lnt, ?_⟩
  refine zy ?_
  refine ⟨[0], [0], trr, trr, by decide, by decide, ?_⟩
  refine zs4 x7 y7 hll hcl ?_
  exact hk
theorem opT9 : Opn Tryz.prog 9 .str (fun x => x.size ≤ 140737488351232) := Opn.string (by kernel_rfl) Tryz.underlying9
theorem opT3 : Opn Tryz.prog 3 (.int .i64) (fun x => (Lit.int .i64 x).wf = true) := Opn.int (by kernel_rfl) Tryz.underlying3
theorem opT4 : Opn Tryz.prog 4 .bool (fun _ => True) := Opn.bool (by kernel_rfl) Tryz.underlying4
theorem opT22 : Opn Tryz.prog 22 (.slice 3 (.int .i64)) (fun l => l.length ≤ 140737488351232) :=
  (Opn.slice (by kernel_rfl) Tryz.underlying22 opT3).imp fun l h => by
    have e : Tryz.prog.bytesOf 3 = 8 := by kernel_rfl
    have := h.1
    rw [e] at this
    omega
abbrev TkT : Ty := .pair .str (.pair (.int .i64) (.pair .bool (.pair (.slice 3 (.int .i64)) (.slice 3 (.int .i64)))))
def tkO (x : TkT.den) : Prop := x.1.size ≤ 140737488351232 ∧ (x.2.2.2.1.length ≤ 140737488351232 ∧ x.2.2.2.2.length ≤ 140737488351232)
theorem opT24 : Opn Tryz.prog 24 TkT tkO :=
  (Opn.struct (by kernel_rfl) Tryz.underlying24 (OpnFs.cons opT9 rfl (OpnFs.cons opT3 rfl (OpnFs.cons opT4 rfl (OpnFs.cons opT22 rfl (OpnFs.one opT22 rfl)))))).imp fun x h => ⟨h.1, h.2.2.2.1, h.2.2.2.2⟩
def rL (c : UInt8) : RT.den := ((⟨#[c]⟩, ⟨#[120]⟩), (0, (0, (0, 0))))
def rcL (n : Nat) : List RT.den := [rL 97, rL 98, rL 99, rL 100].take n
def icL (n : Nat) : List Int := [(0 : Int), 1, 2, 3].take n
def mL : Md := { mM with rc := rcL 4 }
def jL : Jb := ⟨1, 0, ⟨#[120]⟩, icL 4⟩
def b1L : List Int := [50, 50, 48, 32, 97, 13, 10, 50, 53, 48, 32, 98, 13, 10, 50, 53, 48, 32, 99, 13, 10, 50, 53, 48, 32, 100, 13, 10, 53, 53, 48, 32, 101, 13, 10, 50, 53, 48, 32, 102, 13, 10, 50, 53, 48, 32, 103, 13, 10, 51, 53, 52, 32, 104, 13, 10]
def b2L : List Int := [50, 53, 48, 32, 105, 13, 10, 52, 53, 49, 32, 106, 13, 10, 53, 53, 50, 32, 107, 13, 10]
def fitB (s : Sd) : Bool := decide (s.rest.size ≤ 4 ∧ s.ln = [] ∧ s.rc.length ≤ 4 ∧ s.tk.length ≤ 4 ∧ s.cd.length ≤ 4 ∧ s.dom.size ≤ 4)
def s1L (lm : Bool) : Sd := (hearS mL hS (newSd 1 jL lm) b1L).1
def s2L (lm : Bool) : Sd := (hearS mL hS (s1L lm) b2L).1
def cdL (lm : Bool) : List Int := bif lm then [250, 550, 451, 552] else [250, 550, 250, 250]
theorem mL_P : mailP mL.ml = true := by decide +kernel
theorem mL_may : ∀ lm, maySd (newSd 1 jL lm) mL = true := by decide +kernel
theorem mL_hr : ∀ lm, mayHr mL hS (newSd 1 jL lm) = true := by decide +kernel
theorem s1L_st : ∀ lm, (s1L lm).st = 5 := by decide +kernel
theorem s1L_hr : ∀ lm, mayHr mL hS (s1L lm) = true := by decide +kernel
theorem s1L_len : ∀ lm, fitB (s1L lm) = true := by decide +kernel
theorem s2L_len : ∀ lm, fitB (s2L lm) = true := by decide +kernel
theorem s2L_out : ∀ lm, (hearS mL hS (s1L lm) b2L).2 = ⟨#[81, 85, 73, 84, 13, 10]⟩ := by decide +kernel
theorem s2L_codes : ∀ lm, codesL (s2L lm) mL = (cdL lm, 0) := by decide +kernel
theorem fit_of {s : Sd} (h : fitB s = true) : s.fit := by
  obtain ⟨h1, h2, h3, h4, h5, h6⟩ := of_decide_eq_true h
  refine ⟨⟨?_, ?_, ?_, ?_⟩, ?_, ?_, fun x hx => ?_⟩
  · exact Nat.le_trans h3 (by decide)
  · exact Nat.le_trans h4 (by decide)
  · exact Nat.le_trans h5 (by decide)
  · rw [h2]; decide
  · exact Nat.le_trans h6 (by decide)
  · exact Nat.le_trans h1 (by decide)
  · rw [h2] at hx; cases hx
theorem mL_fit : mL.fit := ⟨⟨by decide, fun r hr => by
  simp only [mL, rcL, rL, List.take, List.mem_cons, List.not_mem_nil, or_false] at hr
  rcases hr with rfl | rfl | rfl | rfl <;> (show (2 : Nat) < mid; decide), by decide⟩, by decide⟩
theorem b1L_byts : Byts b1L := fun x hx => by
  simp only [b1L, List.mem_cons, List.not_mem_nil, or_false] at hx
  omega
theorem b2L_byts : Byts b2L := fun x hx => by
  simp only [b2L, List.mem_cons, List.not_mem_nil, or_false] at hx
  omega
def xs : Nat → ByteArray
  | 0 => ⟨#[]⟩
  | n + 1 => xs n ++ ⟨#[120]⟩
theorem xs_size : ∀ n, (xs n).size = n
  | 0 => rfl
  | n + 1 => by rw [xs, ByteArray.size_append, xs_size n]; rfl
def mys : Nat → ByteArray
  | 0 => ⟨#[]⟩
  | n + 1 => mys n ++ ⟨#[50, 53, 48, 45, 120, 13, 10]⟩
theorem mys_size : ∀ n, (mys n).size = 7 * n
  | 0 => rfl
  | n + 1 => by rw [mys, ByteArray.size_append, mys_size n]; rfl
def badG : List ByteArray := [(⟨#[50, 53, 48, 32]⟩ : ByteArray) ++ xs 512 ++ ⟨#[13, 10]⟩, mys 16, ⟨#[50, 53, 48, 45, 97, 13, 10, 50, 53, 49, 32, 98, 13, 10]⟩, ⟨#[104, 101, 108, 108, 111, 13, 10]⟩, ⟨#[50, 53, 13, 10]⟩, ⟨#[54, 53, 48, 32, 120, 13, 10]⟩]
def mG : Md := { mM with rc := mM.rc ++ [rL 98] }
def jG : Jb := ⟨1, 0, ⟨#[120]⟩, [0, 1]⟩
def b1G : List Int := [50, 50, 48, 32, 97, 13, 10, 50, 53, 48, 32, 98, 13, 10, 50, 53, 48, 32, 99, 13, 10, 53, 53, 48, 32, 110, 111, 13, 10]
def s1G (lm : Bool) : Sd := (hearS mG hS (newSd 1 jG lm) b1G).1
def s2G (lm : Bool) (b : ByteArray) : Sd := (hearS mG hS (s1G lm) (bl b)).1
theorem s1G_eq (lm : Bool) : hearS mG hS (newSd 1 jG lm) b1G = (s1G lm, (hearS mG hS (newSd 1 jG lm) b1G).2) := by rw [s1G]
theorem s2G_eq (lm : Bool) (b : ByteArray) : hearS mG hS (s1G lm) (bl b) = (s2G lm b, (hearS mG hS (s1G lm) (bl b)).2) := by rw [s2G]
theorem mG_may : ∀ lm, maySd (newSd 1 jG lm) mG = true := by decide +kernel
theorem mG_P : mailP mG.ml = true := by decide +kernel
theorem mG_hr : ∀ lm, mayHr mG hS (newSd 1 jG lm) = true := by decide +kernel
theorem s1G_st : ∀ lm, (s1G lm).st = 3 ∧ (s1G lm).at_ = 1 := by decide +kernel
theorem s1G_hr : ∀ lm, mayHr mG hS (s1G lm) = true := by decide +kernel
theorem s1G_len : ∀ lm, fitB (s1G lm) = true := by decide +kernel
theorem nG_len : ∀ lm, fitB (newSd 1 jG lm) = true := by decide +kernel
theorem nL_len : ∀ lm, fitB (newSd 1 jL lm) = true := by decide +kernel
theorem b1G_byts : Byts b1G := fun x hx => by
  simp only [b1G, List.mem_cons, List.not_mem_nil, or_false] at hx
  omega
theorem mG_fit : mG.fit := ⟨⟨by decide, fun r hr => by
  simp only [mG, mM, List.cons_append, List.nil_append, List.mem_cons, List.not_mem_nil, or_false] at hr
  rcases hr with rfl | rfl <;> (show (2 : Nat) < mid; decide), by decide⟩, by decide⟩
theorem s2G_all : ∀ lm, badG.all (fun b => decide ((s2G lm b).st = 7 ∧ (hearS mG hS (s1G lm) (bl b)).2 = ⟨#[]⟩ ∧ fitB (s2G lm b) = true ∧ (s1G lm).rest.size + (bl b).length ≤ 1000 ∧ codesL (s2G lm b) mG = ([550, 0], 0))) = true := by decide +kernel
def Γ5q : Sems := ext 15 s19 (ext 17 (lendS q17) (ext 18 q18 (ext 21 (lendS q21) (ext 22 (lendS q22) (ext 23 (lendS q23) (ext 26 q26 (Γ0)))))))
theorem Γ5q.ok : SemsOK Gr Tryz.prog Γ5q := (((((((Γ0.ok.ext Tryz.func26 rfl (by decide) qk26).ext Tryz.func23 rfl (by decide) (SenseOK.lendL qk23)).ext Tryz.func22 rfl (by decide) (SenseOK.lendL qk22)).ext Tryz.func21 rfl (by decide) (SenseOK.lendL qk21)).ext Tryz.func18 rfl (by decide) qk18).ext Tryz.func17 rfl (by decide) (SenseOK.lendL qk17)).ext Tryz.func15 rfl (by decide) ok19)
def q5 : Sense := ⟨false, fun os xs K => ∃ (b : ByteArray) (n : Int) (lm : Bool) (c z : List Int), xs = [.agg (tkC b n lm c z)] ∧ os = [] ∧ K [] (.ret (.one (.bool true)))⟩
def osL (t : List C) (i : Nat) (f0 f1 : Bool) : List Ob := match i with
  | 0 => [.box 24 t, .box 32 ({ mM with rc := [] }.cs .nil), .box 36 (({ jL with rc := [] } : Jb).cs .nil)]
  | i => [.box 24 t, .box 32 (mM.cs (.own 3)), .box 36 (jL.cs (.own 4)), .own 39 RT (rcL i) true f0, .own 3 IT (icL i) true f1]
theorem qk5 : SenseOK Gr Tryz.prog 5 q5 := SenseOK.any Γ5q.ok (fun n => match n with | 5 => [1, 3, 4, 5] | 10 => [1, 3, 4, 6] | _ => []) Tryz.func5 fun os xs K hq => by
  obtain ⟨b, n, lm, c, z, rfl, rfl, hk⟩ := hq
  have hll : ∀ x : ByteArray, (x.toList == x.toList) = true := fun x => beq_self_eq_true _
  refine zs0 ?_
  intro f0
  refine zs0 ?_
  refine iter_of (I := fun k σ => ∃ (i : Nat) (f0 f1 : Bool), k = 4 - i ∧ i ≤ 4 ∧ σ = ⟨slots 119 [(1, .one (.ref 0 0)), (3, .one (.ref 1 0)), (4, .one (.ref 2 0)), (5, .one (.int .i64 i))], osL (tkC b n lm c z) i f0 f1⟩) ?_ 4 ⟨0, false, false, rfl, by decide, rfl⟩
  rintro k σ K' ⟨i, f0, f1, rfl, hi, rfl⟩ hK'
  obtain rfl | rfl | rfl | rfl | rfl : i = 0 ∨ i = 1 ∨ i = 2 ∨ i = 3 ∨ i = 4 := by omega
  · have c0 : strOfNums [IntKind.u8.wrap (IntKind.i64.wrap (97 + ((0 : Nat) : Int)))] = ⟨#[97]⟩ := by decide +kernel
    refine zs1 c0 ?_
    exact hK' _ _ (by omega) ⟨1, _, _, rfl, by omega, rfl⟩
  · have c0 : strOfNums [IntKind.u8.wrap (IntKind.i64.wrap (97 + ((1 : Nat) : Int)))] = ⟨#[98]⟩ := by decide +kernel
    refine zs0 ?_
    refine ⟨by decide, ?_⟩
    refine zs1 c0 ?_
    refine ⟨by decide, ?_⟩
    refine zs0 ?_
    exact hK' _ _ (by omega) ⟨2, _, _, rfl, by omega, rfl⟩
  · have c0 : strOfNums [IntKind.u8.wrap (IntKind.i64.wrap (97 + ((2 : Nat) : Int)))] = ⟨#[99]⟩ := by decide +kernel
    refine zs0 ?_
    refine ⟨by decide, ?_⟩
    refine zs1 c0 ?_
    refine ⟨by decide, ?_⟩
    refine zs0 ?_
    exact hK' _ _ (by omega) ⟨3, _, _, rfl, by omega, rfl⟩
  · have c0 : strOfNums [IntKind.u8.wrap (IntKind.i64.wrap (97 + ((3 : Nat) : Int)))] = ⟨#[100]⟩ := by decide +kernel
    refine zs0 ?_
    refine ⟨by decide, ?_⟩
    refine zs1 c0 ?_
    refine ⟨by decide, ?_⟩
    refine zs0 ?_
    exact hK' _ _ (by omega) ⟨4, _, _, rfl, by omega, rfl⟩
  · refine zs0 ?_
    refine iter_of (I := fun k σ => ∃ (r : Nat) (f0 f1 : Bool), k = 2 - r ∧ r ≤ 2 ∧ σ = ⟨slots 119 [(1, .one (.ref 0 0)), (3, .one (.ref 1 0)), (4, .one (.ref 2 0)), (6, .one (.int .i64 r))], osL (tkC b n lm c z) 4 f0 f1⟩) ?_ 2 ⟨0, _, _, rfl, by decide, rfl⟩
    rintro k σ K2 ⟨r, f0, f1, rfl, hr, rfl⟩ hK2
    have hcl : decide ((c.length : Int) ≥ 0) = true := decide_eq_true (by omega)
    obtain rfl | rfl | rfl : r = 0 ∨ r = 1 ∨ r = 2 := by omega
    · have hop : (mailP mL.ml && maySd (newSd 1 jL false) mL) = true := by rw [mL_P, Bool.true_and]; exact mL_may false
      have hr0 := mL_hr false
      have hr1 := s1L_hr false
      have h5 := s1L_st false
      have hf0 := fit_of (nL_len false)
      have hf1 := fit_of (s1L_len false)
      have hf2 := fit_of (s2L_len false)
      have hz0 : (newSd 1 jL false).rest.size + b1L.length ≤ big := by decide
      have hz1 : (s1L false).rest.size + b2L.length ≤ big := by decide +kernel
      have hou := s2L_out false
      have hcd : codesL (s2L false) mL = ([250, 550, 250, 250], 0) := s2L_codes false
      refine zs0 ?_
      refine ⟨[.one (.int .i64 1), .agg jL.fz, .one (.bool false), .agg (mL.cs (.sl RT mL.rc))], trr, lnt, ?_⟩
      refine zy ?_
      refine ⟨1, jL, false, mL, trr, trr, ⟨⟨by decide, by decide⟩, mL_fit.1⟩, fun h => (by rw [hop] at h; cases h), fun _ m0 m1 m2 m3 => ?_⟩
      obtain ⟨s2, e2⟩ : ∃ s2, s2L false = s2 := ⟨_, rfl⟩
      obtain ⟨s1, e1⟩ : ∃ s1, s1L false = s1 := ⟨_, rfl⟩
      obtain ⟨s0, e0⟩ : ∃ s0, newSd 1 jL false = s0 := ⟨_, rfl⟩
      obtain ⟨o1, he1⟩ : ∃ o1, hearS mL hS s0 b1L = (s1, o1) := ⟨_, by rw [← e1, ← e0]; rfl⟩
      have he2 : hearS mL hS s1 b2L = (s2, ⟨#[81, 85, 73, 84, 13, 10]⟩) := by
        rw [← e2, ← e1, s2L, ← hou]
      rw [e0] at hr0 hf0 hz0 ⊢
      rw [e1] at hr1 h5 hf1 hz1
      rw [e2] at hf2 hcd
      have x5 : (s1.st != 5) = false := by rw [h5]; rfl
      refine zs0 ?_
      refine ⟨[.agg s0.fz, .agg (mL.cs (.sl RT mL.rc)), .one (.sl (.int .u8) b1L), .one (.str hS)], trr, lnt, ?_⟩
      refine zy ?_
      refine ⟨s0, mL, hS, b1L, trr, trr, ⟨⟨hf0, mL_fit⟩, hS_mid, hz0, b1L_byts⟩, fun h => (by rw [hr0] at h; cases h), fun _ n0 n1 n2 n3 => ?_⟩
      rw [he1]
      refine zs1 x5 ?_
      refine ⟨[.agg s1.fz, .agg (mL.cs (.sl RT mL.rc)), .one (.sl (.int .u8) b2L), .one (.str hS)], trr, lnt, ?_⟩
      refine zy ?_
      refine ⟨s1, mL, hS, b2L, trr, trr, ⟨⟨hf1, mL_fit⟩, hS_mid, hz1, b2L_byts⟩, fun h => (by rw [hr1] at h; cases h), fun _ k0 k1 k2 k3 => ?_⟩
      rw [he2]
      refine zs0 ?_
      refine ⟨[.agg s2.fz, .agg (mL.cs (.sl RT mL.rc))], trr, lnt, ?_⟩
      refine zy ?_
      refine ⟨s2, mL, trr, trr, ⟨hf2, mL_fit.1⟩, fun f5 => ?_⟩
      rw [hcd]
      refine zs1 hll ?_
      refine ⟨[.one (.sl IT [250, 550, 250, 250]), .one (.sl IT [250, 550, 250, 250])], trr, lnt, ?_⟩
      refine zy ?_
      refine ⟨[250, 550, 250, 250], [250, 550, 250, 250], trr, trr, by decide, by decide, ?_⟩
      refine zs1 hll ?_
      exact hK2 _ _ (by omega) ⟨1, _, _, rfl, by omega, rfl⟩
    · have hop : (mailP mL.ml && maySd (newSd 1 jL true) mL) = true := by rw [mL_P, Bool.true_and]; exact mL_may true
      have hr0 := mL_hr true
      have hr1 := s1L_hr true
      have h5 := s1L_st true
      have hf0 := fit_of (nL_len true)
      have hf1 := fit_of (s1L_len true)
      have hf2 := fit_of (s2L_len true)
      have hz0 : (newSd 1 jL true).rest.size + b1L.length ≤ big := by decide
      have hz1 : (s1L true).rest.size + b2L.length ≤ big := by decide +kernel
      have hou := s2L_out true
      have hcd : codesL (s2L true) mL = ([250, 550, 451, 552], 0) := s2L_codes true
      refine zs0 ?_
      refine ⟨[.one (.int .i64 1), .agg jL.fz, .one (.bool true), .agg (mL.cs (.sl RT mL.rc))], trr, lnt, ?_⟩
      refine zy ?_
      refine ⟨1, jL, true, mL, trr, trr, ⟨⟨by decide, by decide⟩, mL_fit.1⟩, fun h => (by rw [hop] at h; cases h), fun _ m0 m1 m2 m3 => ?_⟩
      obtain ⟨s2, e2⟩ : ∃ s2, s2L true = s2 := ⟨_, rfl⟩
      obtain ⟨s1, e1⟩ : ∃ s1, s1L true = s1 := ⟨_, rfl⟩
      obtain ⟨s0, e0⟩ : ∃ s0, newSd 1 jL true = s0 := ⟨_, rfl⟩
      obtain ⟨o1, he1⟩ : ∃ o1, hearS mL hS s0 b1L = (s1, o1) := ⟨_, by rw [← e1, ← e0]; rfl⟩
      have he2 : hearS mL hS s1 b2L = (s2, ⟨#[81, 85, 73, 84, 13, 10]⟩) := by
        rw [← e2, ← e1, s2L, ← hou]
      rw [e0] at hr0 hf0 hz0 ⊢
      rw [e1] at hr1 h5 hf1 hz1
      rw [e2] at hf2 hcd
      have x5 : (s1.st != 5) = false := by rw [h5]; rfl
      refine zs0 ?_
      refine ⟨[.agg s0.fz, .agg (mL.cs (.sl RT mL.rc)), .one (.sl (.int .u8) b1L), .one (.str hS)], trr, lnt, ?_⟩
      refine zy ?_
      refine ⟨s0, mL, hS, b1L, trr, trr, ⟨⟨hf0, mL_fit⟩, hS_mid, hz0, b1L_byts⟩, fun h => (by rw [hr0] at h; cases h), fun _ n0 n1 n2 n3 => ?_⟩
      rw [he1]
      refine zs1 x5 ?_
      refine ⟨[.agg s1.fz, .agg (mL.cs (.sl RT mL.rc)), .one (.sl (.int .u8) b2L), .one (.str hS)], trr, lnt, ?_⟩
      refine zy ?_
      refine ⟨s1, mL, hS, b2L, trr, trr, ⟨⟨hf1, mL_fit⟩, hS_mid, hz1, b2L_byts⟩, fun h => (by rw [hr1] at h; cases h), fun _ k0 k1 k2 k3 => ?_⟩
      rw [he2]
      refine zs0 ?_
      refine ⟨[.agg s2.fz, .agg (mL.cs (.sl RT mL.rc))], trr, lnt, ?_⟩
      refine zy ?_
      refine ⟨s2, mL, trr, trr, ⟨hf2, mL_fit.1⟩, fun f5 => ?_⟩
      rw [hcd]
      refine zs1 hll ?_
      refine ⟨[.one (.sl IT [250, 550, 451, 552]), .one (.sl IT [250, 550, 451, 552])], trr, lnt, ?_⟩
      refine zy ?_
      refine ⟨[250, 550, 451, 552], [250, 550, 451, 552], trr, trr, by decide, by decide, ?_⟩
      refine zs1 hll ?_
      exact hK2 _ _ (by omega) ⟨2, _, _, rfl, by omega, rfl⟩
    · refine zs1 hcl ?_
      exact hk
def Γ4q : Sems := ext 15 s19 (ext 17 (lendS q17) (ext 18 q18 (ext 21 (lendS q21) (ext 22 (lendS q22) (ext 23 (lendS q23) (ext 26 q26 (Γ0)))))))
theorem Γ4q.ok : SemsOK Gr Tryz.prog Γ4q := (((((((Γ0.ok.ext Tryz.func26 rfl (by decide) qk26).ext Tryz.func23 rfl (by decide) (SenseOK.lendL qk23)).ext Tryz.func22 rfl (by decide) (SenseOK.lendL qk22)).ext Tryz.func21 rfl (by decide) (SenseOK.lendL qk21)).ext Tryz.func18 rfl (by decide) qk18).ext Tryz.func17 rfl (by decide) (SenseOK.lendL qk17)).ext Tryz.func15 rfl (by decide) ok19)
def q4 : Sense := ⟨false, fun os xs K => ∃ (b : ByteArray) (n : Int) (lm : Bool) (c z : List Int), xs = [.agg (tkC b n lm c z)] ∧ os = [] ∧ K [] (.ret (.one (.bool true)))⟩
theorem qk4 : SenseOK Gr Tryz.prog 4 q4 := SenseOK.any Γ4q.ok (fun n => match n with | 4 => [1, 3, 4] | 8 => [1, 3, 4, 5, 6] | 13 => [1, 3, 7, 8] | _ => []) Tryz.func4 fun os xs K hq => by
  obtain ⟨b, n, lm, c, z, rfl, rfl, hk⟩ := hq
  have hll : ∀ x : ByteArray, (x.toList == x.toList) = true := fun x => beq_self_eq_true _
  refine zs0 ?_
  intro f0
  refine zs0 ?_
  refine ⟨by decide, ?_⟩
  refine zs0 ?_
  refine iter_of (I := fun k σ => ∃ (i : Nat) (f0 : Bool), k = 512 - i ∧ i ≤ 512 ∧ σ = ⟨slots 126 [(1, .one (.ref 0 0)), (3, .one (.ref 1 0)), (4, .one (.str (xs i)))], [.box 24 (tkC b n lm c z), .box 32 (mG.cs (.own 2)), .own 39 RT mG.rc true f0]⟩) ?_ 512 ⟨0, _, rfl, by decide, rfl⟩
  rintro k σ K1 ⟨i, f0, rfl, hi, rfl⟩ hK1
  have hxs := xs_size i
  by_cases hi1 : i = 512
  case neg =>
    have e1 : decide (((xs i).size : Int) < 512) = true := decide_eq_true (by omega)
    refine zs1 e1 ?_
    refine ⟨by rw [hxs]; show i + 1 ≤ _; omega, ?_⟩
    refine zs0 ?_
    exact hK1 _ _ (by omega) ⟨i + 1, _, rfl, by omega, rfl⟩
  subst hi1
  have e1 : decide (((xs 512).size : Int) < 512) = false := decide_eq_false (by omega)
  generalize hx5 : xs 512 = x5 at *
  refine zs1 e1 ?_
  refine iter_of (I := fun k σ => ∃ (i : Nat) (f0 : Bool), k = 16 - i ∧ i ≤ 16 ∧ σ = ⟨slots 126 [(1, .one (.ref 0 0)), (3, .one (.ref 1 0)), (4, .one (.str x5)), (5, .one (.str (mys i))), (6, .one (.int .i64 i))], [.box 24 (tkC b n lm c z), .box 32 (mG.cs (.own 2)), .own 39 RT mG.rc true f0]⟩) ?_ 16 ⟨0, _, rfl, by decide, rfl⟩
  rintro k σ K2 ⟨i, f0, rfl, hi, rfl⟩ hK2
  have w1 := IntWalk.i64_in ((i : Int) + 1) (by omega)
  by_cases hi1 : i = 16
  case neg =>
    have e1 : decide ((i : Int) < 16) = true := decide_eq_true (by omega)
    refine zs1 e1 ?_
    refine ⟨by rw [mys_size]; show 7 * i + 7 ≤ _; omega, ?_⟩
    refine zs1 w1 ?_
    exact hK2 _ _ (by omega) ⟨i + 1, _, rfl, by omega, rfl⟩
  subst hi1
  generalize hm5 : mys 16 = m5 at *
  refine zs0 ?_
  refine ⟨by rw [hxs]; show 4 + 512 ≤ _; omega, ?_⟩
  refine zs0 ?_
  refine ⟨by rw [ByteArray.size_append, hxs]; show 4 + 512 + 2 ≤ _; omega, ?_⟩
  refine zs0 ?_
  refine iter_of (I := fun k σ => ∃ (i : Nat) (f0 f1 f2 : Bool), k = 6 - i ∧ i ≤ 6 ∧ σ = ⟨slots 126 [(1, .one (.ref 0 0)), (3, .one (.ref 1 0)), (7, .one (.own 2)), (8, .one (.int .i64 i))], [.box 24 (tkC b n lm c z), .box 32 (mG.cs (.own 3)), .own 9 ST badG f1 f2, .own 39 RT mG.rc true f0]⟩) ?_ 6 ⟨0, _, _, _, rfl, by decide, by subst hx5; subst hm5; rfl⟩
  clear hxs hx5 hm5
  rintro k σ K3 ⟨i, f0, f1, f2, rfl, hi, rfl⟩ hK3
  have w1 := IntWalk.i64_in ((i : Int) + 1) (by omega)
  have hbl : badG.length = 6 := rfl
  by_cases hi1 : i = 6
  · subst hi1
    refine zs1 hbl ?_
    exact hk
  have e1 : decide ((i : Int) < badG.length) = true := decide_eq_true (by rw [hbl]; omega)
  have hgi : i < badG.length := by rw [hbl]; omega
  obtain ⟨x, hx⟩ : ∃ x, badG[i]? = some x := ⟨_, List.getElem?_eq_getElem hgi⟩
  have rx := nth_of hx ST.dflt
  have ix : (0 : Int) ≤ i ∧ (i : Int) < badG.length := ⟨by omega, by omega⟩
  have hall := List.all_eq_true.1 (s2G_all lm) x (List.mem_of_getElem? hx)
  simp only [Bool.and_eq_true, decide_eq_true_eq] at hall
  obtain ⟨h7, hou, hf2, hz1, hcd⟩ := hall
  have hop : (mailP mG.ml && maySd (newSd 1 jG lm) mG) = true := by rw [mG_P, Bool.true_and]; exact mG_may lm
  have hr0 := mG_hr lm
  have hr1 := s1G_hr lm
  obtain ⟨h3, h1⟩ := s1G_st lm
  have hf0 := fit_of (nG_len lm)
  have hf1 := fit_of (s1G_len lm)
  have hf2 := fit_of hf2
  have hz0 : (newSd 1 jG lm).rest.size + b1G.length ≤ big := by cases lm <;> decide
  have hz1 : (s1G lm).rest.size + (bl x).length ≤ big := Nat.le_trans hz1 (by decide)
  have hbx : Byts (bl x) := bl_bytm x
  refine zs1 e1 ?_
  refine ⟨[.one (.int .i64 1), .agg jG.fz, .one (.bool lm), .agg (mG.cs (.sl RT mG.rc))], trr, lnt, ?_⟩
  refine zy ?_
  refine ⟨1, jG, lm, mG, trr, trr, ⟨⟨by decide, by decide⟩, mG_fit.1⟩, fun h => (by rw [hop] at h; cases h), fun _ m0 m1 m2 m3 => ?_⟩
  obtain ⟨s2, e2⟩ : ∃ s2, s2G lm x = s2 := ⟨_, rfl⟩
  obtain ⟨s1, es1⟩ : ∃ s1, s1G lm = s1 := ⟨_, rfl⟩
  obtain ⟨s0, e0⟩ : ∃ s0, newSd 1 jG lm = s0 := ⟨_, rfl⟩
  obtain ⟨o1, he1⟩ : ∃ o1, hearS mG hS (newSd 1 jG lm) b1G = (s1G lm, o1) := ⟨_, s1G_eq lm⟩
  have he2 := s2G_eq lm x
  rw [hou] at he2
  rw [e0] at hr0 hf0 hz0 he1 ⊢
  rw [es1] at hr1 h3 h1 hf1 hz1 he2 he1
  rw [e2] at h7 hf2 hcd he2
  clear hou
  generalize badG = B at *
  have x3 : (s1.st != 3) = false := by rw [h3]; rfl
  have x1 : (s1.at_ != 1) = false := by rw [h1]; rfl
  have x7 : (s2.st != 7) = false := by rw [h7]; rfl
  refine zs0 ?_
  refine ⟨[.agg s0.fz, .agg (mG.cs (.sl RT mG.rc)), .one (.sl (.int .u8) b1G), .one (.str hS)], trr, lnt, ?_⟩
  refine zy ?_
  refine ⟨s0, mG, hS, b1G, trr, trr, ⟨⟨hf0, mG_fit⟩, hS_mid, hz0, b1G_byts⟩, fun h => (by rw [hr0] at h; cases h), fun _ n0 n1 n2 n3 => ?_⟩
  rw [he1]
  refine zs2 x3 x1 ?_
  have hxz : x.size ≤ 140737488355328 := by
    have := hz1
    rw [bl_length] at this
    simp only [big] at this
    omega
  refine ⟨[], (.take 0 (.take 1 (.take 2 (.take 3 (.take 4 (.take 5 (.br 6 (.br 7 (.take 8 (.take 9 (.take 10 (.take 11 (.br 12 (.br 13 (.take 14 (.take 15 .done)) .nil) .nil))))) (.br 12 (.br 7 (.take 8 (.take 9 (.take 10 (.take 11 (.br 13 (.take 14 (.take 15 .done)) .nil))))) .nil) .nil)) (.br 12 (.br 6 (.br 7 (.take 8 (.take 9 (.take 10 (.take 11 (.br 13 (.take 14 (.take 15 .done)) .nil))))) .nil) .nil) .nil)))))))), ⟨by kernel_rfl⟩, ?_⟩
  ((conv => whnf); repeat' ((first | refine Both.mk ?_ ?_ | refine Br.t ?_ | refine Br.f ?_ | refine ob ?_ | refine ⟨_, rfl, ?_⟩ | refine ⟨_, _, rfl, ?_⟩ | refine ⟨_, _, _, rfl, ?_⟩ | refine ⟨_, _, _, _, rfl, ?_⟩ | simp only [rx]); all_goals (conv => whnf)))
  all_goals
    refine ⟨[.agg s1.fz, .agg (mG.cs (.sl RT mG.rc)), .one (.sl (.int .u8) (bl x)), .one (.str hS)], trr, lnt, ?_⟩
    refine zy ?_
    refine ⟨s1, mG, hS, bl x, trr, trr, ⟨⟨hf1, mG_fit⟩, hS_mid, hz1, hbx⟩, fun h => (by rw [hr1] at h; cases h), fun _ k0 k1 k2 k3 => ?_⟩
    rw [he2]
    ((conv => whnf); repeat' ((first | refine Both.mk ?_ ?_ | refine Br.t ?_ | refine Br.f ?_ | refine ob ?_ | refine ⟨_, rfl, ?_⟩ | refine ⟨_, _, rfl, ?_⟩ | refine ⟨_, _, _, rfl, ?_⟩ | refine ⟨_, _, _, _, rfl, ?_⟩ | simp only [hll]); all_goals (conv => whnf)))
  all_goals
    refine ⟨[.agg s2.fz, .agg (mG.cs (.sl RT mG.rc))], trr, lnt, ?_⟩
    refine zy ?_
    refine ⟨s2, mG, trr, trr, ⟨hf2, mG_fit.1⟩, fun f5 => ?_⟩
    rw [hcd]
    refine zs2 hll x7 ?_
    refine ⟨[.one (.sl IT [550, 0]), .one (.sl IT [550, 0])], trr, lnt, ?_⟩
    refine zy ?_
    refine ⟨[550, 0], [550, 0], trr, trr, by decide, by decide, ?_⟩
    refine zs3 hll x7 w1 ?_
    exact hK3 _ _ (by omega) ⟨i + 1, _, _, _, rfl, by omega, rfl⟩
end Go.Proofs.YtilagaapfbfkkaaGreatDoor.Ab
