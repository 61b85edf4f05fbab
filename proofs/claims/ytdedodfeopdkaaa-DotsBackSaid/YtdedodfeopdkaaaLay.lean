/- dots.Lay: what it hands back. -/
import Derived.Test.YtdedodfeopdkaaaLines
import Derived.Test.YtdedodfeopdkaaaPre
import Derived.RangeFuncBox
import Derived.Test.YtdedodfeopdkaaaWWords
namespace Go.Proofs.Ytdedodfeopdkaaa
set_option linter.unusedSimpArgs false
set_option linter.unusedVariables false
open Go.RowKit Go.Shelf Go.Lib
attribute [local go_sem] Oper.semAt_some

/-- A text as it is sent, without its last line: a point is laid ahead of each line that begins with one. -/
def layB : Bool → List UInt8 → List UInt8
  | _, [] => []
  | b, c :: l => (if b && c == 46 then [46, c] else [c]) ++ layB (c == 10) l

theorem layB_false (line rest : List UInt8) (hne : line ≠ []) (no : ∀ j, j + 1 < line.length → line[j]? ≠ some 10) (fin : line.getLast? = some 10 ∨ rest = []) (b : Bool) (hb : b = false) :
    layB b (line ++ rest) = line ++ layB true rest := by
  subst hb
  induction line with
  | nil => exact absurd rfl hne
  | cons c l ih =>
    cases l with
    | nil =>
      rcases fin with h | rfl
      · simp at h; subst h; simp [layB]
      · simp [layB]
    | cons d l =>
      have hc : (c == 10) = false := by
        have := no 0 (by simp)
        simpa using this
      have := ih (by simp) (fun j hj => by have := no (j + 1) (by simpa using hj); simpa using this) (by simpa using fin)
      rw [List.cons_append, layB, hc, this]
      simp
theorem layB_line (line rest : List UInt8) (h : IsLine line rest) :
    layB true (line ++ rest) = (if [46].isPrefixOf line then [46] else []) ++ line ++ layB true rest := by
  obtain ⟨hne, no, fin⟩ := h
  cases line with
  | nil => exact absurd rfl hne
  | cons c l =>
    have h46 : ([46] : List UInt8).isPrefixOf (c :: l) = (46 == c) := by simp [List.isPrefixOf]
    have hcc : ((46 : UInt8) == c) = (c == 46) := BEq.comm
    cases l with
    | nil =>
      rcases fin with h | rfl
      · simp at h; subst h; simp [layB]
      · rw [h46, hcc, List.append_nil, layB, layB]; cases hx : (c == 46) <;> rfl
    | cons d l =>
      have hc : (c == 10) = false := by
        have := no 0 (by simp)
        simpa using this
      have := layB_false (d :: l) rest (by simp) (fun j hj => by have := no (j + 1) (by simpa using hj); simpa using this) (by simpa using fin) _ rfl
      rw [List.cons_append, layB, hc, this, h46, hcc]
      cases hx : (c == 46) <;> simp
theorem layB_len (b : Bool) (l : List UInt8) : (layB b l).length ≤ 2 * l.length := by
  induction l generalizing b with
  | nil => simp [layB]
  | cons c l ih =>
    have := ih (c == 10)
    rw [layB, List.length_append, List.length_cons]
    split <;> simp <;> omega

theorem BuilderAtF.keptBy {T e : TypeId} {B b r : Nat} {p : Value} {bs : List Value} {W W' : World} {o : Obj} (h : Lib.BuilderAtF T e B b p bs W) (hg : W.grownBy W' (some r)) (hrb : r ≠ b) (ho : W.heap[r]? = some o) (hne : ∀ c fz, o ≠ .cells c e fz) : Lib.BuilderAtF T e B b p bs W' := by
  have hlt := h.lt
  obtain ⟨hB, v, hb, hown, hnb⟩ := h
  refine ⟨hB, v, (hg.block b hlt (by simp; omega)).trans hb, hown.kept hg ?_, hnb⟩
  rcases hown.2 with ⟨rfl, _⟩ | ⟨g, cap, cur, fz, rfl, _, hgb, _⟩
  · exact .inl rfl
  · refine .inr fun e => ?_
    obtain rfl : g = r := by simpa [Value.ownBlock] using e
    rw [hgb] at ho
    cases ho
    exact hne _ _ rfl
theorem IsBuilderF.keptBy {T e : TypeId} {B b r : Nat} {bs : List Value} {W W' : World} {o : Obj} (h : Lib.IsBuilderF T e B b bs W) (hg : W.grownBy W' (some r)) (hrb : r ≠ b) (ho : W.heap[r]? = some o) (hne : ∀ c fz, o ≠ .cells c e fz) : Lib.IsBuilderF T e B b bs W' := by
  rcases h with h | h
  · exact .inl (BuilderAtF.keptBy h hg hrb ho hne)
  · exact .inr (BuilderAtF.keptBy h hg hrb ho hne)
theorem IsBuilderF.alloc {T e : TypeId} {B b : Nat} {bs : List Value} {W : World} (h : Lib.IsBuilderF T e B b bs W) (o : Obj) : Lib.IsBuilderF T e B b bs (W.alloc o) := by
  rcases h with h | h
  · exact .inl (h.alloc o)
  · exact .inr (h.alloc o)
theorem IsBuilderF.drew {T e : TypeId} {B b : Nat} {bs : List Value} {W : World} (h : Lib.IsBuilderF T e B b bs W) : Lib.IsBuilderF T e B b bs W.drew := by
  rcases h with h | h
  · exact .inl h.drew
  · exact .inr h.drew

/-- strings.Lines: the function that hands its lines over; the text lies in a cell of its own. -/
theorem lines_calls (s : ByteArray) (w : World) :
    Calls Try.prog 22 #[.string s] w fun e w' => e = .returned (.func (.func 30) #[] #[.pointer (some ⟨w.heap.size, 0, none⟩)]) ∧ w' = w.alloc (.cells #[.string s] 9) := by
  go_enter Try.func22, Try.ntmps22
  go_wp2
  go_ret
  exact ⟨rfl, rfl⟩

/-- Between two rounds. -/
structure Mid (s : ByteArray) (w : World) (rec : Loop) (rest : ByteArray) (out : List UInt8) (W : World) : Prop where
  c : W.heap[w.heap.size + 1]? = some (.cells #[.string rest] 9 (0, 0))
  b : Lib.IsBuilderF 43 5 w.heap.size w.heap.size (Lib.byteCells out) W
  L : W.heap[w.heap.size + 3]? = some (.loop rec)
  K : W.heap[w.heap.size + 2]? = some (.deferred (some []))
  bel : Below w.heap.size w W
  law : out ++ layB true rest.data.toList = layB true s.data.toList
  le : rest.size ≤ s.size

theorem Mid.drew {s : ByteArray} {w : World} {rec : Loop} {rest : ByteArray} {out : List UInt8} {W : World} (h : Mid s w rec rest out W) : Mid s w rec rest out W.drew :=
  ⟨h.c, IsBuilderF.drew h.b, h.L, h.K, h.bel.drew, h.law, h.le⟩

/-- Lay's loop, as the translation has it. -/
def layAssign : Code := Code.region 3 #[{ dst := some 4, op := Op.assign (Operand.tmp 7), type := 9, pos := "dots.go:44", after := #[], guard := none }] false
def layBody : Code :=
  Code.block 1
    (((Code.region 4
              #[{ dst := some 8, op := Op.move (Operand.tmp 4), type := 9, pos := "dots.go:45", after := #[], guard := none },
                { dst := some 9, op := Op.call { callee := Callee.value (Operand.func 23), args := #[Operand.tmp 8, Operand.const (Value.string { data := #[46] })], argTypes := #[9, 9] }, type := 4, pos := "dots.go:45", after := #[{ on := 0, ground := Ground.data }], guard := none }]
              false).seq
          (Code.cond (Operand.tmp 9)
            (Code.region 5
              #[{ dst := some 10, op := Op.call { callee := Callee.value (Operand.func 24), args := #[Operand.tmp 3, Operand.const (Value.int IntKind.u8 46)], argTypes := #[43, 5] }, type := 49, pos := "dots.go:46", after := #[], guard := none }]
              false)
            Code.skip)).seq
      (Code.region 6
        #[{ dst := some 11, op := Op.move (Operand.tmp 4), type := 9, pos := "dots.go:48", after := #[], guard := none },
          { dst := some 12, op := Op.call { callee := Callee.value (Operand.func 25), args := #[Operand.tmp 3, Operand.tmp 11], argTypes := #[43, 9] }, type := 51, pos := "dots.go:48", after := #[{ on := 0, ground := Ground.data }], guard := none }]
        false))
def layTmps (s : ByteArray) (B : Nat) : Array Value := #[Value.string s, undef, Value.string { data := #[] }, Value.pointer (some { block := B, off := 0 }), undef, Value.string s, Value.func (Fn.func 30) #[] #[Value.pointer (some { block := B + 1, off := 0 })], undef, undef, undef, undef, undef, undef, undef, undef]
def layRec (fn : FuncId) (s : ByteArray) (B : Nat) (st : LoopState) (pend : Option Code) : Loop :=
  { state := st, pending := pend, fn, tmps := layTmps s B, params := #[7], assign := layAssign, body := layBody, defers := B + 2 }

theorem kept_tmp {T e : TypeId} {b : Nat} {w W : World} (h : Lib.OthersKept e (some b) w W) {k : Nat} {o : Obj} (hk : w.heap[k]? = some o) (hb : k ≠ b) (ho : ∀ c fz, o ≠ .cells c e fz) : W.heap[k]? = some o :=
  h k o hk (by simpa using hb) ho

set_option maxHeartbeats 4000000 in
set_option maxRecDepth 100000 in
/-- One round. -/
theorem lay_round (m : Nat) (hm : 1 ≤ m) (fn : FuncId) (s : ByteArray) (w : World) (hs : s.size ≤ 35184372088832) (s0 line rest : ByteArray) (out : List UInt8) (W : World)
    (hM : Mid s w (layRec fn s w.heap.size .ready none) s0 out W) (happ : s0.data.toList = line.data.toList ++ rest.data.toList) (hl : IsLine line.data.toList rest.data.toList) :
    YieldAt Fence.wide m Try.prog (w.heap.size + 3) #[.string line] (W.setCell ⟨w.heap.size + 1, 0, none⟩ (.string rest)) fun e W' =>
      e = .returned (.bool true) ∧ ∃ out', Mid s w (layRec fn s w.heap.size .ready none) rest out' W' := by
  obtain ⟨B, hB⟩ : ∃ B, w.heap.size = B := ⟨_, rfl⟩
  obtain ⟨hc, hb, hL, hK, hbel, hlaw, hle⟩ := hM
  rw [hB] at hc hb hL hK hbel ⊢
  obtain ⟨W1, hW1⟩ : ∃ W1, W.setCell ⟨B + 1, 0, none⟩ (.string rest) = W1 := ⟨_, rfl⟩
  have hg1 := grownBy_setCell' W (B + 1) (.string rest)
  have hbel1 : Below B w W1 := by rw [← hW1]; exact hbel.setCell (p := ⟨B + 1, 0, none⟩) (by simp) _
  have hc1 : W1.heap[B + 1]? = some (.cells #[.string rest] 9 (0, 0)) := by rw [← hW1]; exact Boxed.set (v := .string s0) (.string rest) hc
  have hL1 : W1.heap[B + 3]? = some (.loop (layRec fn s B .ready none)) := by rw [← hW1]; exact (Below.heap_setCell W ⟨B + 1, 0, none⟩ _ _ (by simp)).trans hL
  have hK1 : W1.heap[B + 2]? = some (.deferred (some [])) := by rw [← hW1]; exact (Below.heap_setCell W ⟨B + 1, 0, none⟩ _ _ (by simp)).trans hK
  rw [hW1] at hg1
  have hb1 : Lib.IsBuilderF 43 5 B B (Lib.byteCells out) W1 := IsBuilderF.keptBy hb hg1 (by omega) hc (by rintro c fz e; cases e)
  rw [hW1]
  refine ⟨fn, #[Value.string s, undef, Value.string { data := #[] }, Value.pointer (some { block := B, off := 0 }), undef, Value.string s, Value.func (Fn.func 30) #[] #[Value.pointer (some { block := B + 1, off := 0 })], .string line, undef, undef, undef, undef, undef, undef, undef], layAssign, layBody, by simpa [layRec, layTmps] using run_yield (P := Try.prog) (args := #[.string line]) hL1 rfl, ?_⟩
  refine roundIn_of_wpIn trivial ?_
  have hbr := run_beginRound (P := Try.prog) hL1 rfl
  have hl3 : B + 3 < W1.heap.size := (Array.getElem?_eq_some_iff.1 hL1).1
  obtain ⟨W2, hW2⟩ : ∃ W2, W1.putObj (B + 3) (.loop { layRec fn s B .ready none with state := .busy }) = W2 := ⟨_, rfl⟩
  rw [hW2] at hbr
  have hg2 := grownBy_putObj' W1 (B + 3) (.loop { layRec fn s B .ready none with state := .busy })
  rw [hW2] at hg2
  have hc2 : W2.heap[B + 1]? = some (.cells #[.string rest] 9 (0, 0)) := by rw [← hW2]; exact (World.putObj_heap_other (by omega)).trans hc1
  have hL2 : W2.heap[B + 3]? = some (.loop { layRec fn s B .ready none with state := .busy }) := by rw [← hW2]; exact World.putObj_heap_same hl3
  have hK2 : W2.heap[B + 2]? = some (.deferred (some [])) := by rw [← hW2]; exact (World.putObj_heap_other (by omega)).trans hK1
  have hb2 : Lib.IsBuilderF 43 5 B B (Lib.byteCells out) W2 := IsBuilderF.keptBy hb1 hg2 (by omega) hL1 (by rintro c fz e; cases e)
  have hbel2 : Below B w W2 := by rw [← hW2]; exact hbel1.trans (belowK_b (w := w) (by omega) W1 (B + 3) _ _ (by omega) hL1 rfl rfl)
  have hlen : out.length ≤ 2 * s.size := by
    have h1 := congrArg List.length hlaw
    have h2 := layB_len true s.data.toList
    rw [List.length_append] at h1
    rw [dlen] at h2
    omega
  have hls : line.size ≤ s0.size := by
    rw [← dlen, ← dlen, happ]; simp
  have hlaw' : layB true s0.data.toList = (if [46].isPrefixOf line.data.toList then [46] else []) ++ line.data.toList ++ layB true rest.data.toList := by
    rw [happ]; exact layB_line _ _ hl
  have hBW2 : B ≤ W2.heap.size := by have := (Array.getElem?_eq_some_iff.1 hL2).1; omega
  have fin : ∀ (out' : List UInt8) (W3 : World), Below B W2 W3 → Lib.OthersKept 5 (some B) W2 W3 → Lib.IsBuilderF 43 5 B B (Lib.byteCells out') W3 → out' ++ layB true rest.data.toList = layB true s.data.toList →
      ∃ v w', (Instr.endRound (B + 3) none).run Try.prog W3 = .ok v w' ∧ (Ending.returned v = .returned (.bool true) ∧ ∃ out', Mid s w (layRec fn s B .ready none) rest out' w') := by
    intro out' W3 hbl hok hbu hlw
    have hL3 := kept_tmp (T := 43) hok hL2 (by omega) (by rintro c fz e; cases e)
    have hl4 : B + 3 < W3.heap.size := (Array.getElem?_eq_some_iff.1 hL3).1
    refine ⟨_, _, run_endRound none hL3, rfl, out', ?_⟩
    have hg3 := grownBy_putObj' W3 (B + 3) (.loop { layRec fn s B .ready none with state := if (none : Option Code).isNone then .ready else .done, pending := none })
    refine ⟨?_, ?_, ?_, ?_, ?_, hlw, ?_⟩
    · rw [hB]; exact (World.putObj_heap_other (by omega)).trans (kept_tmp (T := 43) hok hc2 (by omega) (by rintro c fz e; cases e))
    · rw [hB]; exact IsBuilderF.keptBy hbu hg3 (by omega) hL3 (by rintro c fz e; cases e)
    · rw [hB]; exact World.putObj_heap_same hl4
    · rw [hB]; exact (World.putObj_heap_other (by omega)).trans (kept_tmp (T := 43) hok hK2 (by omega) (by rintro c fz e; cases e))
    · rw [hB]; exact (hbel2.trans hbl).trans (belowK_b (w := w) (by omega) W3 (B + 3) _ _ (by omega) hL3 rfl rfl)
    · have := congrArg List.length happ
      rw [List.length_append, dlen, dlen, dlen] at this
      omega
  unfold layAssign
  gi_wp2
  unfold layBody
  cases hp : Lib.hasPrefix line.data.toList [46] with
  | true =>
    have hp' : ([46] : List UInt8).isPrefixOf line.data.toList = true := hp
    gi_wp2_with (first
      | (refine ⟨trivial, ?_⟩; gi_at_call 23; refine (CallsIn.inRound _ (callsIn_wide.2 (Try.strings_HasPrefix _ _ _))).mono ?_; rintro e w' ⟨rfl, hw⟩; rw [hw]; clear hw)
      | (refine ⟨trivial, ?_⟩; gi_at_call 24; refine (CallsIn.inRound _ (callsIn_wide.2 (Try.Builder_WriteByte_k _ _ _ _ _ hb2 (by rw [Lib.byteCells_length]; omega) hBW2))).mono ?_; rintro e w3 ⟨rfl, hb3, hbl3, hok3⟩))
    refine ⟨trivial, ?_⟩
    refine (CallsIn.inRound _ (callsIn_wide.2 (Try.Builder_WriteString_k _ _ _ _ _ (.inr hb3) (by rw [List.length_append, Lib.byteCells_length]; simp only [List.length_cons, List.length_nil]; omega) (by have := hbl3.size; omega)))).mono ?_
    rintro e w4 ⟨rfl, hb4, hbl4, hok4⟩
    gi_wp2
    refine fin (out ++ ([46] ++ line.data.toList)) w4 (hbl3.trans hbl4) (hok3.trans hok4) (.inr ?_) ?_
    · have : Lib.byteCells (out ++ ([46] ++ line.data.toList)) = Lib.byteCells out ++ [Value.int .u8 46] ++ Lib.strCells line := by
        simp [Lib.byteCells, Lib.strCells]
      rw [this]; exact hb4
    · rw [← hlaw, hlaw', hp', if_pos rfl]; simp
  | false =>
    have hp' : ([46] : List UInt8).isPrefixOf line.data.toList = false := hp
    gi_wp2_with (first
      | (refine ⟨trivial, ?_⟩; gi_at_call 23; refine (CallsIn.inRound _ (callsIn_wide.2 (Try.strings_HasPrefix _ _ _))).mono ?_; rintro e w' ⟨rfl, hw⟩; rw [hw]; clear hw)
      | (refine ⟨trivial, ?_⟩; gi_at_call 25; refine (CallsIn.inRound _ (callsIn_wide.2 (Try.Builder_WriteString_k _ _ _ _ _ hb2 (by rw [Lib.byteCells_length]; omega) hBW2))).mono ?_; rintro e w3 ⟨rfl, hb3, hbl3, hok3⟩))
    refine fin (out ++ line.data.toList) w3 hbl3 hok3 (.inr ?_) ?_
    · have : Lib.byteCells (out ++ line.data.toList) = Lib.byteCells out ++ Lib.strCells line := by
        simp [Lib.byteCells, Lib.strCells]
      rw [this]; exact hb3
    · rw [← hlaw, hlaw', hp']; simp
set_option maxHeartbeats 4000000 in
set_option maxRecDepth 100000 in
theorem lay_calls (s : ByteArray) (w : World) (hs : s.size ≤ 35184372088832) :
    Calls Try.prog 18 #[.string s] w fun e w' => e = .returned (.string ⟨(layB true s.data.toList ++ [46, 13, 10]).toArray⟩) ∧ Below w.heap.size w w' := by
  refine (callsIn_wide (n := 4)).1 ?_
  refine callsIn_of_wp_marks Try.func18 rfl trivial ?_ rfl
  simp only [Try.ntmps18, List.size_toArray, List.length_cons, List.length_nil, Nat.reduceAdd, Nat.reduceSub, Array.replicate_succ, Array.replicate_zero, List.push_toArray, List.append_toArray, List.nil_append, List.cons_append]
  gi_wp2_with (refine ⟨trivial, ?_⟩; gi_at_call 22; refine (callsIn_wide.2 (lines_calls _ _)).mono ?_; rintro e w' ⟨rfl, hw⟩; rw [hw]; clear hw)
  refine wpIn_rangeFunc ?_
  intro fn hfn
  obtain ⟨W0, hW0⟩ : ∃ W0, (w.alloc (.cells #[.pointer none, .slice none 0 0] 43)).alloc (.cells #[.string s] 9) = W0 := ⟨_, rfl⟩
  have hs0 : W0.heap.size = w.heap.size + 2 := by rw [← hW0]; simp
  have hc0 : W0.heap[w.heap.size + 1]? = some (.cells #[.string s] 9 (0, 0)) := by
    rw [← hW0]
    have := World.alloc_heap_new (w.alloc (.cells #[.pointer none, .slice none 0 0] 43)) (.cells #[.string s] 9)
    rwa [World.size_alloc] at this
  have hb0 : Lib.IsBuilderF 43 5 w.heap.size w.heap.size (Lib.byteCells []) W0 := by
    rw [← hW0]
    exact IsBuilderF.alloc (Lib.IsBuilderF.of (Lib.fresh_isBuilder 43 5 w)) _
  have hbel0 : Below w.heap.size w W0 := by
    rw [← hW0]
    exact ((Below.refl _ w).alloc (Nat.le_refl _) _).alloc (by simp) _
  rw [hW0]
  obtain ⟨W1, hW1⟩ : ∃ W1, (W0.alloc (.deferred (some []))).alloc (.loop (layRec fn s w.heap.size .ready none)) = W1 := ⟨_, rfl⟩
  have hM : Mid s w (layRec fn s w.heap.size .ready none) s [] W1 := by
    refine ⟨?_, ?_, ?_, ?_, ?_, rfl, Nat.le_refl _⟩
    · rw [← hW1]; exact (Below.heap_alloc _ _ _ (by simp; omega)).trans ((Below.heap_alloc _ _ _ (by omega)).trans hc0)
    · rw [← hW1]; exact IsBuilderF.alloc (IsBuilderF.alloc hb0 _) _
    · rw [← hW1]
      have := World.alloc_heap_new (W0.alloc (.deferred (some []))) (.loop (layRec fn s w.heap.size .ready none))
      rwa [World.size_alloc, hs0] at this
    · rw [← hW1, ← hs0]; exact (Below.heap_alloc _ _ _ (by simp)).trans (World.alloc_heap_new W0 _)
    · rw [← hW1]; exact (hbel0.alloc (by omega) _).alloc (by simp; omega) _
  refine ⟨w.heap.size + 3, [{ target := .collected (w.heap.size + 2), args := #[] }], W1, { target := .fn (.func 30) #[.pointer (some ⟨w.heap.size + 1, 0, none⟩)], args := #[.func (.yield (w.heap.size + 3)) #[] #[]] }, W1, 30,
    #[.func (.yield (w.heap.size + 3)) #[] #[], .pointer (some ⟨w.heap.size + 1, 0, none⟩)], W1, ?_, ?_, fun _ _ => trivial, ?_, fun _ => by omega, ?_⟩
  · rw [← hW1]
    have := run_enterLoop_outer (P := Try.prog) (w := W0) fn (layTmps s w.heap.size) #[7] layAssign layBody
    rw [hs0] at this
    exact this
  · simp [resolve, go_sem]
  · simp [invoke, go_sem]
  · refine (lines_in 3 (by omega) (w.heap.size + 3) (w.heap.size + 1) (fun rest W => ∃ out, Mid s w (layRec fn s w.heap.size .ready none) rest out W)
      (fun rest W ⟨out, h⟩ => h.c) (fun rest W ⟨out, h⟩ => by have := h.le; omega) (fun rest W ⟨out, h⟩ => ⟨out, h.drew⟩)
      (fun s0 line rest W ⟨out, h⟩ happ hl => lay_round 2 (by omega) fn s w hs s0 line rest out W h happ hl) s W1 ⟨[], hM⟩).mono ?_
    rintro e W2 ⟨⟨v, rfl⟩, out, h2⟩
    have hend := run_endLoop (P := Try.prog) h2.L (by simp [layRec])
    have hg3 := grownBy_putObj' W2 (w.heap.size + 3) (.loop { layRec fn s w.heap.size .ready none with state := .exhausted })
    have hlt3 : w.heap.size + 3 < W2.heap.size := (Array.getElem?_eq_some_iff.1 h2.L).1
    obtain ⟨W3, hW3⟩ : ∃ W3, W2.putObj (w.heap.size + 3) (.loop { layRec fn s w.heap.size .ready none with state := .exhausted }) = W3 := ⟨_, rfl⟩
    rw [hW3] at hend hg3
    have hK3 : W3.heap[w.heap.size + 2]? = some (.deferred (some [])) := by rw [← hW3]; exact (World.putObj_heap_other (by omega)).trans h2.K
    have hb3 : Lib.IsBuilderF 43 5 w.heap.size w.heap.size (Lib.byteCells out) W3 := IsBuilderF.keptBy h2.b hg3 (by omega) h2.L (by rintro c fz e; cases e)
    have hbel3 : Below w.heap.size w W3 := by rw [← hW3]; exact h2.bel.trans (belowK_b (w := w) (by omega) W2 _ _ _ (by omega) h2.L rfl rfl)
    have hout : out = layB true s.data.toList := by
      have := h2.law
      rw [show (ByteArray.empty).data.toList = ([] : List UInt8) from rfl] at this
      simpa [layB] using this
    have hlen : out.length ≤ 2 * s.size := by
      have h2 := layB_len true s.data.toList
      rw [dlen] at h2
      rw [hout]; exact h2
    have hsz3 := hbel3.size
    refine ⟨none, W3, hend, ?_⟩
    have hwr := Try.Builder_WriteString_k w.heap.size w.heap.size (Lib.byteCells out) ⟨#[46, 13, 10]⟩ W3 hb3 (by rw [Lib.byteCells_length]; show _ + 3 ≤ _; omega) hbel3.size
    gi_wp2_with (refine ⟨trivial, ?_⟩; gi_at_call 25; refine (callsIn_wide.2 hwr).mono ?_; rintro e w4 ⟨rfl, hb4, hbl4, hok4⟩)
    refine ⟨trivial, ?_⟩
    have hout4 : Lib.byteCells out ++ Lib.strCells ⟨#[46, 13, 10]⟩ = Lib.byteCells (layB true s.data.toList ++ [46, 13, 10]) := by
      rw [← hout]; simp [Lib.byteCells, Lib.strCells]
    rw [hout4] at hb4
    refine (callsIn_wide.2 (Try.Builder_String_any_k w.heap.size w.heap.size (layB true s.data.toList ++ [46, 13, 10]) w4 (.inr hb4) (by have := hbl4.size; omega))).mono ?_
    rintro e w5 ⟨rfl, hbl5, hok5⟩
    gi_wp2
    have hK5 : w5.heap[w.heap.size + 2]? = some (.deferred (some [])) := kept_tmp (T := 43) (hok4.trans hok5) hK3 (by omega) (by rintro c fz e; cases e)
    have hsz4 := hbl4.size
    have hsz5 := hbl5.size
    refine ⟨by simp, .inl ⟨_, _, rfl, run_takeDeferred hK5, ?_⟩⟩
    refine ⟨_, results_tmp rfl _ _ _, rfl, ?_⟩
    exact ((hbel3.trans hbl4).trans hbl5).trans (belowK_b (w := w) (Nat.le_refl _) w5 (w.heap.size + 2) _ _ (by omega) hK5 rfl rfl)
end Go.Proofs.Ytdedodfeopdkaaa
