/- Part 6 of 11 of the texts that the sender's rows rest on, put together by a program; no condition. -/
import Derived.Test.YtilagaapfbfkkaaGreatDoorZB2
import Derived.Deep.Slices
import Derived.SizedLaws
import Derived.Test.YtilagaapfbfkkaaGreatDoorZB5
import Derived.Test.YtilagaapfbfkkaaGreatDoorRows
import Derived.Stop.LaidErr
import Derived.Lib.LaidTab
import Derived.Lib.LaidIn
import Derived.LaidMore
import Derived.HandedShaped
import Derived.MakeChecks
import Derived.Test.YtilagaapfbfkkaaGreatDoorTie
import Derived.Test.YtilagaapfbfkkaaGreatDoorCards
import Derived.Deep.DeepHandedRow
import Derived.Deep.DeepWitnessRowRef
import Derived.WalkKit
import Derived.ProofKit
import Derived.OpenShut
import Derived.ShutString
import Derived.ChangeOld
import Derived.Below
import Derived.Test.YtilagaapfbfkkaaGreatDoorZB4
set_option maxHeartbeats 128000000
set_option linter.unusedSimpArgs false
set_option linter.unusedVariables false
namespace Go.Proofs.YtilagaapfbfkkaaGreatDoor.Ab
open Go Go.RowKit Go.Proofs.YtilagaapfbfkkaaGreatDoorW.PrintWords
structure Opn (P : Program) (t : TypeId) (d : Ty) (wf : d.den → Prop) : Prop where
  cells : P.cellsOf t = d.sz
  op : ∀ {H : Type} {enc : TypeId × Value → H} {w : World} {base : Nat} {spare : Nat → Bool} {fuel : Nat} {cs : List Value} {D : DataW H} {ps : List MemPlace},
    DataW.trod enc P w base spare true fuel t cs = some (D, ps) → (∀ n ∈ D.weights P t, n ≤ reachBytes) → ∃ x, TRep w (· < w.heap.size) d x cs ∧ wf x
theorem Opn.imp {P : Program} {t : TypeId} {d : Ty} {wf wf' : d.den → Prop} (h : Opn P t d wf) (hi : ∀ x, wf x → wf' x) : Opn P t d wf' :=
  ⟨h.cells, fun ht hw => let ⟨x, hk, hx⟩ := h.op ht hw; ⟨x, hk, hi x hx⟩⟩
theorem Opn.int {P : Program} {t : TypeId} {k : IntKind} (hc : P.cellsOf t = 1) (hu : P.underlying t = some (.int k)) : Opn P t (.int k) (fun x => (Lit.int k x).wf = true) :=
  ⟨hc, fun ht _ => by
    obtain ⟨n, rfl, _, hw⟩ := DataW.trod_int hu ht
    exact ⟨n, rfl, hw⟩⟩
theorem Opn.bool {P : Program} {t : TypeId} (hc : P.cellsOf t = 1) (hu : P.underlying t = some .bool) : Opn P t .bool (fun _ => True) :=
  ⟨hc, fun ht _ => by
    obtain ⟨b, rfl, _⟩ := DataW.trod_bool hu ht
    exact ⟨b, rfl, trivial⟩⟩
theorem Opn.string {P : Program} {t : TypeId} (hc : P.cellsOf t = 1) (hu : P.underlying t = some .string) : Opn P t .str (fun x => x.size ≤ 140737488351232) :=
  ⟨hc, fun ht hw => by
    obtain ⟨s, rfl, hx, _⟩ := DataW.trod_string hu ht
    obtain ⟨rfl, rfl⟩ := Prod.mk.inj hx
    have := hw s.data.toList.length (by simp [DataW.weights])
    refine ⟨s, rfl, ?_⟩
    rw [Array.length_toList] at this
    exact this⟩
theorem all_lt {α : Type} {Q : Nat → α → Prop} : ∀ n : Nat, (∀ i, i < n → ∃ x, Q i x) → ∃ xs : List α, xs.length = n ∧ ∀ i x, xs[i]? = some x → Q i x
  | 0, _ => ⟨[], rfl, fun i x h => by simp at h⟩
  | n + 1, h => by
    obtain ⟨xs, hl, hx⟩ := all_lt n (fun i hi => h i (by omega))
    obtain ⟨y, hy⟩ := h n (by omega)
    refine ⟨xs ++ [y], by simp [hl], fun i x hi => ?_⟩
    by_cases hlt : i < xs.length
    · rw [List.getElem?_append_left hlt] at hi
      exact hx i x hi
    · rw [List.getElem?_append_right (by omega)] at hi
      have hi0 : i - xs.length = 0 := by
        have := (List.getElem?_eq_some_iff.1 hi).1
        simp at this
        omega
      rw [hi0] at hi
      have he : i = n := by omega
      subst he
      simp at hi
      subst hi
      exact hy
theorem Opn.slice {P : Program} {t e : TypeId} {d : Ty} {wf : d.den → Prop} (hc : P.cellsOf t = 1) (hu : P.underlying t = some (.slice e)) (he : Opn P e d wf) :
    Opn P t (.slice e d) (fun xs => xs.length * P.bytesOf e ≤ 140737488351232 ∧ ∀ x ∈ xs, wf x) :=
  ⟨hc, by
    intro H enc w base spare fuel cs D ps ht hw
    rcases Go.Deep.open_slice hu ht with ⟨rfl, hx⟩ | ⟨a, len, cap, m, n, Dd, Pl, rfl, _, hl, hm, hmm, hx, hi⟩
    · exact ⟨[], ⟨none, 0, rfl, Nat.le_refl _, by simp, fun h => absurd h (by simp)⟩, by simp, fun x h => by simp at h⟩
    · obtain ⟨rfl, rfl⟩ := Prod.mk.inj hx
      have hlm : len ≤ m := by rw [hmm]; split <;> omega
      have hwt : ∀ i, i < len → ∀ k ∈ (Dd i).weights P e, k ≤ reachBytes := by
        intro i hil k hk
        refine hw k ?_
        simp only [DataW.weights, hu]
        refine List.mem_cons_of_mem _ (List.mem_append_left _ ?_)
        have : ∀ (l : List (DataW H)) (z : DataW H), z ∈ l → ∀ k ∈ z.weights P e, k ∈ DataW.weightsAll P e l := by
          intro l z hz
          induction l with
          | nil => simp at hz
          | cons y l ih =>
            intro k hk
            simp only [DataW.weightsAll, List.mem_append]
            rcases List.mem_cons.1 hz with rfl | hz
            · exact Or.inl hk
            · exact Or.inr (ih hz k hk)
        exact this _ (Dd i) (List.mem_map.2 ⟨i, List.mem_range.2 hil, rfl⟩) k hk
      obtain ⟨xs, hxl, hxs⟩ := all_lt (Q := fun i x => (∃ c, c.length = d.sz ∧ TRep w (· < w.heap.size) d x c ∧ ∀ j u, c[j]? = some u → w.cell? (a.add (i * d.sz + j)) = some u) ∧ wf x) len (by
        intro i hil
        obtain ⟨cs', h1, h2⟩ := hi i (by omega)
        obtain ⟨x, hk, hx⟩ := he.op h2 (hwt i hil)
        obtain ⟨_, hlen, hcell⟩ := World.cells?_some h1
        refine ⟨x, ⟨cs', by rw [hlen, he.cells], hk, fun j u hj => ?_⟩, hx⟩
        have hjl : j < P.cellsOf e := by rw [← hlen]; exact (List.getElem?_eq_some_iff.1 hj).1
        have := hcell j hjl
        rw [hj] at this
        rw [← this, ← he.cells]
        rw [Go.Addr.add_add])
      subst hxl
      refine ⟨xs, ⟨some a, cap, rfl, hl, ?_, fun hp => ⟨a, rfl, ?_, fun j x hj => (hxs j x hj).1⟩⟩, ?_, fun x hx => ?_⟩
      · simp only [maxLen] at hm; omega
      · obtain ⟨⟨c, hcl, hT, hc⟩, _⟩ := hxs 0 xs[0] (List.getElem?_eq_getElem hp)
        have := Ty.sz_pos d
        have h0 := hc 0 c[0] (List.getElem?_eq_getElem (by omega))
        have := World.block_lt_of_cell? w _ h0
        rwa [add_block'] at this
      · have := hw ((((List.range xs.length).map Dd).length + ((List.range (m - xs.length)).map fun j => Dd (xs.length + j)).length) * P.bytesOf e) (by simp [DataW.weights, hu])
        simp only [List.length_map, List.length_range] at this
        refine Nat.le_trans (Nat.mul_le_mul_right _ ?_) this
        omega
      · obtain ⟨i, hil, rfl⟩ := List.mem_iff_getElem.1 hx
        exact (hxs i _ (List.getElem?_eq_getElem hil)).2⟩
structure OpnFs (P : Program) (fs : List Field) (off : Nat) (d : Ty) (wf : d.den → Prop) : Prop where
  op : ∀ {H : Type} {enc : TypeId × Value → H} {w : World} {base : Nat} {spare : Nat → Bool} {n : Nat} {cs : List Value} (ys : List (DataW H × List MemPlace)),
    (∀ (i : Nat) (f : Field), fs[i]? = some f → DataW.trod enc P w base spare true n f.type ((cs.drop f.offset).take (P.cellsOf f.type)) = ys[i]?) → ys.length = fs.length →
    (∀ k ∈ DataW.weightsEach P (fs.map (·.type)) (ys.map (·.1)), k ≤ reachBytes) → ∃ x, TRep w (· < w.heap.size) d x ((cs.drop off).take d.sz) ∧ wf x
theorem OpnFs.one {P : Program} {f : Field} {off : Nat} {d : Ty} {wf : d.den → Prop} (h : Opn P f.type d wf) (ho : f.offset = off) : OpnFs P [f] off d wf :=
  ⟨by
    intro H enc w base spare n cs ys hy hl hw
    match ys, hl with
    | [y], _ =>
      have h0 := hy 0 f rfl
      simp only [List.getElem?_cons_zero] at h0
      obtain ⟨x, hk, hx⟩ := h.op (D := y.1) (ps := y.2) h0 (fun k hk => hw k (by simp [DataW.weightsEach, hk]))
      rw [h.cells, ho] at hk
      exact ⟨x, hk, hx⟩⟩
theorem OpnFs.cons {P : Program} {f : Field} {fs : List Field} {off : Nat} {a b : Ty} {wa : a.den → Prop} {wb : b.den → Prop} (h : Opn P f.type a wa) (ho : f.offset = off) (hr : OpnFs P fs (off + a.sz) b wb) :
    OpnFs P (f :: fs) off (.pair a b) (fun x => wa x.1 ∧ wb x.2) :=
  ⟨by
    intro H enc w base spare n cs ys hy hl hw
    match ys, hl with
    | y :: ys, hl =>
      have h0 := hy 0 f rfl
      simp only [List.getElem?_cons_zero] at h0
      obtain ⟨x, hk, hx⟩ := h.op (D := y.1) (ps := y.2) h0 (fun k hk => hw k (by simp [DataW.weightsEach, hk]))
      obtain ⟨z, hkz, hz⟩ := hr.op ys (fun i g hg => by simpa using hy (i + 1) g (by simpa using hg)) (by simpa using hl) (fun k hk => hw k (by simp only [List.map_cons, DataW.weightsEach, List.mem_append]; exact Or.inr hk))
      rw [h.cells, ho] at hk
      refine ⟨(x, z), ⟨_, _, ?_, hk, hkz⟩, hx, hz⟩
      show (cs.drop off).take (a.sz + b.sz) = _
      rw [List.take_add, List.drop_drop]⟩
theorem Opn.struct {P : Program} {t : TypeId} {fs : Array Field} {d : Ty} {wf : d.den → Prop} (hc : P.cellsOf t = d.sz) (hu : P.underlying t = some (.struct fs)) (hf : OpnFs P fs.toList 0 d wf) : Opn P t d wf :=
  ⟨hc, by
    intro H enc w base spare fuel cs D ps ht hw
    obtain ⟨xs, n, _, hx, hl, hlen, hy⟩ := DataW.trod_struct hu ht
    obtain ⟨rfl, rfl⟩ := Prod.mk.inj hx
    obtain ⟨x, hk, hx⟩ := hf.op xs (fun i f hi => hy i f (by simpa using hi)) (by simpa using hlen) (fun k hk => hw k (by simp only [DataW.weights, hu]; exact hk))
    rw [List.drop_zero, ← hc, ← hl, List.take_length] at hk
    exact ⟨x, hk, hx⟩⟩
def topCx (w : World) (G : World → Prop) : Cx := { hid := (· < w.heap.size), l0 := [], gr := G, df := [], pub := (· < w.heap.size), ph := fun _ h => h }
theorem SenseOK.top {G : World → Prop} {P : Program} {f : FuncId} {s : Sense} (hs : SenseOK G P f s) {w : World} {ags : List V} {vs : List Value} {K : Out → Prop} (hG : Gnd (topCx w G) w)
    (has : All2 (VRep w (· < w.heap.size) []) ags vs) (h : s.f [] ags fun os o => os = [] ∧ K o) :
    Calls P f vs.toArray w fun e w' => Below w.heap.size w w' ∧ ∃ out, K out ∧ OutRep w' (Imm (topCx w G) w' []) [] out e := by
  have e : (fun b => b < w.heap.size) = Imm (topCx w G) w [] := by
    funext b
    refine propext ⟨fun h => ⟨h, fun v hv => by simp at hv, fun h => h⟩, fun h => h.1⟩
  rw [e] at has
  refine (hs (topCx w G) w [] [] ags vs _ ⟨rfl, fun i o v h => by simp at h, fun i j v v' b _ h => by simp at h, fun i v b h => by simp at h, fun i v b h => by simp at h, Nat.le_refl _, fun p v0 o h => by simp [topCx] at h⟩ rfl (fun b hb => hb) rfl hG has h).mono ?_
  rintro e w' ⟨os', lk', out, ⟨rfl, hk⟩, hO, hkp, _, ho⟩
  have hl : lk' = [] := List.length_eq_zero_iff.1 (by rw [hO.lsz]; rfl)
  subst hl
  exact ⟨⟨hkp.os, hkp.tape, hkp.output, hkp.size, fun k hk => hkp.block k hk (by simp)⟩, out, hk, ho⟩
end Go.Proofs.YtilagaapfbfkkaaGreatDoor.Ab
namespace Go.Proofs.YtilagaapfbfkkaaGreatDoor.Ab
open Go Go.RowKit Go.Proofs.YtilagaapfbfkkaaGreatDoorW.PrintWords
set_option maxRecDepth 100000
abbrev laidL : List (String × DataW Unit) := Rows.senderOpensUptoRow.laid
theorem gPow : Tryz.prog.globalNamed "internal/strconv.uint64pow10" = some 5 := by kernel_rfl
theorem gER : Tryz.prog.globalNamed "strconv.ErrRange" = some 2 := by kernel_rfl
theorem gES : Tryz.prog.globalNamed "strconv.ErrSyntax" = some 1 := by kernel_rfl
theorem star : "*" ++ "errors.errorString" = "*errors.errorString" := by decide
theorem rowES (u : TypeId) (h : Tryz.prog.typeName? 3 u = some "*errors.errorString") : u = 223 :=
  typeName_ptr_named (nm := "errors.errorString") (by rw [star]; kernel_rfl) (by kernel_rfl) (by decide) u (by rw [star]; exact h)
theorem Gr.of_laid {W : World} (hs : W.ShapedOpen Tryz.prog) (h0 : laidMetH Tryz.prog laidL W) : Gr W := by
  rw [MakeChecks.laidMetH_plain _ _ _ (by kernel_rfl)] at h0
  obtain ⟨a1, s1, hv1, -, -, -⟩ := laid_sentinel (n := "strconv.ErrRange") h0.tail.tail.tail.tail gER (ti := 131) (by kernel_rfl) Tryz.underlying131 rowES Tryz.underlying223 Tryz.underlying225 rfl rfl Tryz.underlying9 (by kernel_rfl) (by kernel_rfl)
  obtain ⟨a2, s2, hv2, -, -, -⟩ := laid_sentinel (n := "strconv.ErrSyntax") h0.tail.tail.tail.tail.tail gES (ti := 131) (by kernel_rfl) Tryz.underlying131 rowES Tryz.underlying223 Tryz.underlying225 rfl rfl Tryz.underlying9 (by kernel_rfl) (by kernel_rfl)
  obtain ⟨m, hm⟩ := cell_of_shapedOpen_int (P := Tryz.prog) (g := 0) (t := 3) (zero := #[.int .i64 0]) hs (of_decide_eq_true (by kernel_rfl)) (by kernel_rfl) rfl (by kernel_rfl) (by kernel_rfl) Tryz.underlying3
  refine ⟨⟨m, hm⟩, ⟨_, by have h0 := World.var?_cell gES hv2 0; simpa using h0, .inr ⟨_, _, rfl⟩⟩, ⟨_, by have h0 := World.var?_cell gER hv1 0; simpa using h0, .inr ⟨_, _, rfl⟩⟩, ?_⟩
  exact Lib.tabIs_of_head (e := 195) (n := 20) gPow (t := 227) (by kernel_rfl) Tryz.underlying227 Tryz.underlying195 (by kernel_rfl) (by kernel_rfl) h0.tail.tail
theorem Gr.heap {w w' : World} (h : Gr w) (hb : ∀ b, b < w.heap.size → w'.heap[b]? = w.heap[b]?) : Gr w' := by
  have hc : ∀ (a : Addr) (v : Value), w.cell? a = some v → w'.cell? a = some v := fun a v h => by
    have := World.block_lt_of_cell? w a h
    rw [← h]
    simp [World.cell?, hb _ this]
  obtain ⟨m, hm⟩ := h.mlen
  obtain ⟨e1, h1, h2⟩ := h.esyn
  obtain ⟨e2, h3, h4⟩ := h.erng
  refine ⟨⟨m, hc _ _ hm⟩, ⟨e1, hc _ _ h1, h2⟩, ⟨e2, hc _ _ h3, h4⟩, ?_⟩
  have h5 := h.ptab
  unfold Lib.TabIs World.var? at h5 ⊢
  rw [gPow] at h5 ⊢
  simp only [Option.bind_some] at h5 ⊢
  have hlt : 5 < w.heap.size := by
    rcases Nat.lt_or_ge 5 w.heap.size with h | h
    · exact h
    · rw [Array.getElem?_eq_none h] at h5; cases h5
  rw [hb 5 hlt]
  exact h5
theorem Gr.gnd {w : World} (h : Gr w) : Gnd (topCx w Gr) w := fun _ hb => h.heap hb
variable {G : World → Prop}
abbrev RT : Ty := .pair (.pair .str .str) (.pair (.int .i64) (.pair (.int .i64) (.pair (.int .i64) (.int .i64))))
def rcOf (r : RT.den) : Rc := ⟨bl r.1.1, bl r.1.2, r.2.1, r.2.2.1, r.2.2.2.1, r.2.2.2.2⟩
def SlIn (e : TypeId) (t : Ty) (k : Nat) (l : List t.den) (c : C) (os : List Ob) : Prop :=
  (c = .sl t l ∧ os = []) ∨ (c = .nil ∧ os = [] ∧ l = []) ∨ ∃ ap, c = .own k ∧ os = [.own e t l ap false]
abbrev RcIn := SlIn 39 RT
abbrev BsIn := SlIn 5 (.int .u8)
theorem nth_of {α : Type} {l : List α} {j : Nat} {x : α} (h : l[j]? = some x) (d : α) : rdx l ((j : Int).toNat) d = x := by
  show l.getD j d = x
  simp [List.getD, h]
def eqB (r r' : RT.den) : Bool := (r.1.1.toList == r'.1.1.toList && (r.1.2.toList == r'.1.2.toList && true)) && (r.2.1 == r'.2.1 && (r.2.2.1 == r'.2.2.1 && (r.2.2.2.1 == r'.2.2.2.1 && (r.2.2.2.2 == r'.2.2.2.2 && true))))
theorem eqB_eq (r r' : RT.den) : eqB r r' = decide (rcOf r = rcOf r') := by
  rw [Bool.eq_iff_iff]
  simp only [eqB, str_beq, Bool.and_eq_true, beq_iff_eq, decide_eq_true_eq, rcOf, Rc.mk.injEq, and_true]
  constructor
  · rintro ⟨⟨h1, h2⟩, h3, h4, h5, h6⟩; exact ⟨h1, h2, h3, h4, h5, h6⟩
  · rintro ⟨h1, h2, h3, h4, h5, h6⟩; exact ⟨⟨h1, h2⟩, h3, h4, h5, h6⟩
theorem eq_step {α β : Type} {f : α → β} {a b : List α} {j : Nat} {x y : α} (hx : a[j]? = some x) (hy : b[j]? = some y) (h : (a.take j).map f = (b.take j).map f) (hf : f x = f y) : (a.take (j + 1)).map f = (b.take (j + 1)).map f := by
  rw [List.take_add_one, List.take_add_one, hx, hy, List.map_append, List.map_append, h]
  simp [hf]
theorem ne_step {α β : Type} {f : α → β} {a b : List α} {j : Nat} {x y : α} (hx : a[j]? = some x) (hy : b[j]? = some y) (hf : f x ≠ f y) : a.map f ≠ b.map f := fun h => by
  have h1 := congrArg (fun l => l[j]?) h
  simp [hx, hy] at h1
  exact hf h1
def s46 : Sense := ⟨false, fun os xs K => ∃ a b c d pa pb, xs = [.one c, .one d] ∧ RcIn 0 a c pa ∧ RcIn pa.length b d pb ∧ os = pa ++ pb ∧ a.length ≤ big ∧ b.length ≤ big ∧ K os (.ret (.one (.bool (decide (a.map rcOf = b.map rcOf)))))⟩
theorem ok46 : SenseOK G Tryz.prog 122 s46 := SenseOK.any Γ0.ok (fun _ => [0, 1, 5]) Tryz.func122 fun os xs K h => by
  obtain ⟨a, b, c, d, pa, pb, rfl, ha, hb, rfl, hab, hbb, hk⟩ := h
  simp only [big] at hab hbb
  have nl : ([] : List RT.den).length = 0 := rfl
  rcases ha with ⟨hc, hoa⟩ | ⟨hc, hoa, ha0⟩ | ⟨ap, hc, hoa⟩ <;> rcases hb with ⟨hd, hob⟩ | ⟨hd, hob, hb0⟩ | ⟨ap2, hd, hob⟩
  all_goals
    try simp only [hoa, List.length_nil, List.length_cons, Nat.zero_add] at hd
    try simp only [hoa, hob, List.nil_append, List.cons_append] at hk
    rw [hc, hd, hoa, hob]
    by_cases h0 : a.length = b.length
    case neg =>
      have hne : decide (a.map rcOf = b.map rcOf) = false := by
        simp only [decide_eq_false_iff_not]
        intro h
        have := congrArg List.length h
        rw [List.length_map, List.length_map] at this
        exact h0 this
      rw [hne] at hk
      have f0 : ((a.length : Int) != b.length) = true := by simp; omega
      first | subst ha0 | skip
      first | subst hb0 | skip
      first | exact absurd rfl h0 | skip
      all_goals
        refine zs1 f0 ?_
        exact hk
    have f0 : ((a.length : Int) != b.length) = false := by simp; omega
    by_cases hz : a.length = 0
    · obtain rfl : a = [] := List.length_eq_zero_iff.1 hz
      obtain rfl : b = [] := List.length_eq_zero_iff.1 (by rw [← h0]; rfl)
      refine zs1 f0 ?_
      refine ⟨1, ?_⟩
      refine zv ?_
      exact hk
    first | (exact absurd (by rw [ha0]; rfl) hz) | (exact absurd (by rw [h0, hb0]; rfl) hz) | skip
    all_goals
      refine zs1 f0 ?_
      refine iter_of (I := fun k σ => ∃ (j : Nat), k = a.length - j ∧ j ≤ a.length ∧ (a.take j).map rcOf = (b.take j).map rcOf ∧ σ = ⟨slots 26 [(0, .one c), (1, .one d), (5, .one (.int .i64 j))], pa ++ pb⟩) ?_ a.length ⟨0, by omega, by omega, by simp, by rw [hc, hd, hoa, hob]; rfl⟩
      rintro k σ K' ⟨j, rfl, hj, hall, rfl⟩ hK'
      rw [hc, hd, hoa, hob] at hK' ⊢
      by_cases h1 : j < a.length
      case neg =>
        have f1 : decide ((j : Int) < a.length) = false := by simp; omega
        obtain rfl : j = a.length := by omega
        rw [List.take_length, List.take_of_length_le (by omega)] at hall
        rw [hall] at hk
        simp only [decide_true] at hk
        refine zs1 f1 ?_
        exact hk
      have f1 : decide ((j : Int) < a.length) = true := by simpa using h1
      obtain ⟨x, hx⟩ : ∃ x, a[j]? = some x := ⟨_, List.getElem?_eq_getElem h1⟩
      obtain ⟨y, hy⟩ : ∃ y, b[j]? = some y := ⟨_, List.getElem?_eq_getElem (by omega)⟩
      have rx := nth_of hx RT.dflt
      have ry := nth_of hy RT.dflt
      have w1 := IntWalk.i64_in (↑j + 1) (by omega)
      refine zs1 f1 ?_
      refine ⟨[], .take 0 (.take 1 (.take 2 (.take 3 (.take 4 (.take 5 (.take 6 (.take 7 (.take 8 .done)))))))), ⟨by kernel_rfl⟩, ?_⟩
      refine zv ?_
      rw [rx, ry]
      change Br (!eqB x y) _ _
      rw [eqB_eq]
      by_cases hxy : rcOf x = rcOf y
      · have e1 : decide (rcOf x = rcOf y) = true := by simpa using hxy
        refine zs2 e1 w1 ?_
        exact hK' _ _ (by omega) ⟨j + 1, rfl, by omega, eq_step hx hy hall hxy, rfl⟩
      · have e1 : decide (rcOf x = rcOf y) = false := by simpa using hxy
        have hne : decide (a.map rcOf = b.map rcOf) = false := by simpa using ne_step hx hy hxy
        rw [hne] at hk
        refine zs1 e1 ?_
        exact hk
def s23 : Sense := ⟨false, fun os xs K => ∃ a b c d pa pb, xs = [.one c, .one d] ∧ BsIn 0 a c pa ∧ BsIn pa.length b d pb ∧ os = pa ++ pb ∧ a.length ≤ big ∧ b.length ≤ big ∧ K os (.ret (.one (.bool (decide (a = b)))))⟩
theorem ok23 : SenseOK G Tryz.prog 83 s23 := SenseOK.any Γ0.ok (fun _ => [0, 1, 5]) Tryz.func83 fun os xs K h => by
  obtain ⟨a, b, c, d, pa, pb, rfl, ha, hb, rfl, hab, hbb, hk⟩ := h
  simp only [big] at hab hbb
  have nl : ([] : List Int).length = 0 := rfl
  rcases ha with ⟨hc, hoa⟩ | ⟨hc, hoa, ha0⟩ | ⟨ap, hc, hoa⟩ <;> rcases hb with ⟨hd, hob⟩ | ⟨hd, hob, hb0⟩ | ⟨ap2, hd, hob⟩
  all_goals
    try simp only [hoa, List.length_nil, List.length_cons, Nat.zero_add] at hd
    try simp only [hoa, hob, List.nil_append, List.cons_append] at hk
    rw [hc, hd, hoa, hob]
    by_cases h0 : a.length = b.length
    case neg =>
      have hne : decide (a = b) = false := by
        simp only [decide_eq_false_iff_not]
        intro h
        have := congrArg List.length h
        exact h0 this
      rw [hne] at hk
      have f0 : ((a.length : Int) != b.length) = true := by simp; omega
      first | subst ha0 | skip
      first | subst hb0 | skip
      first | exact absurd rfl h0 | skip
      all_goals
        refine zs1 f0 ?_
        exact hk
    have f0 : ((a.length : Int) != b.length) = false := by simp; omega
    by_cases hz : a.length = 0
    · obtain rfl : a = [] := List.length_eq_zero_iff.1 hz
      obtain rfl : b = [] := List.length_eq_zero_iff.1 (by rw [← h0]; rfl)
      refine zs1 f0 ?_
      refine ⟨1, ?_⟩
      refine zv ?_
      exact hk
    first | (exact absurd (by rw [ha0]; rfl) hz) | (exact absurd (by rw [h0, hb0]; rfl) hz) | skip
    all_goals
      refine zs1 f0 ?_
      refine iter_of (I := fun k σ => ∃ (j : Nat), k = a.length - j ∧ j ≤ a.length ∧ (a.take j).map id = (b.take j).map id ∧ σ = ⟨slots 26 [(0, .one c), (1, .one d), (5, .one (.int .i64 j))], pa ++ pb⟩) ?_ a.length ⟨0, by omega, by omega, by simp, by rw [hc, hd, hoa, hob]; rfl⟩
      rintro k σ K' ⟨j, rfl, hj, hall, rfl⟩ hK'
      rw [hc, hd, hoa, hob] at hK' ⊢
      by_cases h1 : j < a.length
      case neg =>
        have f1 : decide ((j : Int) < a.length) = false := by simp; omega
        obtain rfl : j = a.length := by omega
        rw [List.take_length, List.take_of_length_le (by omega), List.map_id, List.map_id] at hall
        have hd0 : decide (a = b) = true := by simpa using hall
        rw [hd0] at hk
        refine zs1 f1 ?_
        exact hk
      have f1 : decide ((j : Int) < a.length) = true := by simpa using h1
      obtain ⟨x, hx⟩ : ∃ x, a[j]? = some x := ⟨_, List.getElem?_eq_getElem h1⟩
      obtain ⟨y, hy⟩ : ∃ y, b[j]? = some y := ⟨_, List.getElem?_eq_getElem (by omega)⟩
      have rx := nth_of hx (Ty.int IntKind.u8).dflt
      have ry := nth_of hy (Ty.int IntKind.u8).dflt
      have w1 := IntWalk.i64_in (↑j + 1) (by omega)
      refine zs1 f1 ?_
      refine ⟨[], .take 0 (.take 1 (.take 2 (.take 3 (.take 4 (.take 5 (.take 6 (.take 7 (.take 8 .done)))))))), ⟨by kernel_rfl⟩, ?_⟩
      refine zv ?_
      rw [rx, ry]
      by_cases hxy : x = y
      · have e1 : (x != y) = false := by simpa using hxy
        refine zs2 e1 w1 ?_
        exact hK' _ _ (by omega) ⟨j + 1, rfl, by omega, eq_step hx hy hall hxy, rfl⟩
      · have e1 : (x != y) = true := by simpa using hxy
        have hne : decide (a = b) = false := by simpa using ne_step (f := id) hx hy hxy
        rw [hne] at hk
        refine zs1 e1 ?_
        exact hk
def s36 : Sense := ⟨false, fun os xs K => ∃ a c, xs = [.one c] ∧ RcIn 0 a c os ∧ a.length ≤ big ∧ (a = [] → K os (.ret (.one .nil))) ∧ (a ≠ [] → ∀ mv, K (os ++ [.own 39 RT a true mv]) (.ret (.one (.own os.length))))⟩
theorem ok36 : SenseOK G Tryz.prog 118 s36 := SenseOK.any Γ0.ok (fun _ => [0, 3, 4]) Tryz.func118 fun os xs K h => by
  obtain ⟨a, c, rfl, ha, hab, hk0, hk1⟩ := h
  simp only [big] at hab
  rcases ha with ⟨hc, ho⟩ | ⟨hc, ho, ha0⟩ | ⟨ap, hc, ho⟩
  all_goals
    rw [hc, ho]
    rw [ho] at hk0 hk1
    try simp only [List.nil_append, List.length_nil, List.length_cons, Nat.zero_add, List.cons_append] at hk0 hk1
    by_cases hz : a = []
    · subst hz
      refine zv ?_
      refine ⟨1, ?_⟩
      refine zv ?_
      exact hk0 rfl
    first | exact absurd ha0 hz | skip
    all_goals
      refine zv ?_
      refine iter_of (I := fun k σ => ∃ (j : Nat) (mv : Bool), k = a.length - j ∧ j ≤ a.length ∧
        ((j = 0 ∧ σ = ⟨slots 19 [(0, .one c), (3, .one .nil), (4, .one (.int .i64 j))], os⟩) ∨
         (j ≠ 0 ∧ σ = ⟨slots 19 [(0, .one c), (3, .one (.own os.length)), (4, .one (.int .i64 j))], os ++ [.own 39 RT (a.take j) true mv]⟩))) ?_ a.length ⟨0, false, by omega, by omega, .inl ⟨rfl, by rw [hc, ho]; rfl⟩⟩
      rintro k σ K' ⟨j, mv, rfl, hj, hσ⟩ hK'
      rw [hc, ho] at hK' hσ
      have w1 := IntWalk.i64_in (↑j + 1) (by omega)
      by_cases h1 : j < a.length
      case neg =>
        have f1 : decide ((j : Int) < a.length) = false := by simp; omega
        obtain rfl : j = a.length := by omega
        have hne : a.length ≠ 0 := fun h => hz (List.length_eq_zero_iff.1 h)
        rcases hσ with ⟨h, _⟩ | ⟨_, rfl⟩
        · exact absurd h hne
        · rw [List.take_length]
          refine zs1 f1 ?_
          exact hk1 hz mv
      have f1 : decide ((j : Int) < a.length) = true := by simpa using h1
      obtain ⟨x, hx⟩ : ∃ x, a[j]? = some x := ⟨_, List.getElem?_eq_getElem h1⟩
      have rx := nth_of hx RT.dflt
      have ht : a.take (j + 1) = a.take j ++ [x] := by rw [List.take_add_one, hx]; rfl
      have htl : (a.take j).length = j := by rw [List.length_take]; omega
      rcases hσ with ⟨rfl, rfl⟩ | ⟨hj0, rfl⟩
      · refine zs3 f1 rx w1 ?_
        refine hK' _ _ (by omega) ⟨1, false, rfl, by omega, .inr ⟨by omega, ?_⟩⟩
        rw [ht]
        rfl
      · refine zs4 f1 rx htl w1 ?_
        refine hK' _ _ (by omega) ⟨j + 1, true, rfl, by omega, .inr ⟨by omega, ?_⟩⟩
        rw [ht]
        rfl
def s21 : Sense := ⟨false, fun os xs K => ∃ a c, xs = [.one c] ∧ BsIn 0 a c os ∧ a.length ≤ big ∧ (a = [] → K os (.ret (.one .nil))) ∧ (a ≠ [] → ∀ mv, K (os ++ [.own 5 (.int .u8) a true mv]) (.ret (.one (.own os.length))))⟩
theorem ok21 : SenseOK G Tryz.prog 82 s21 := SenseOK.any Γ0.ok (fun _ => [0, 3, 4]) Tryz.func82 fun os xs K h => by
  obtain ⟨a, c, rfl, ha, hab, hk0, hk1⟩ := h
  simp only [big] at hab
  rcases ha with ⟨hc, ho⟩ | ⟨hc, ho, ha0⟩ | ⟨ap, hc, ho⟩
  all_goals
    rw [hc, ho]
    rw [ho] at hk0 hk1
    try simp only [List.nil_append, List.length_nil, List.length_cons, Nat.zero_add, List.cons_append] at hk0 hk1
    by_cases hz : a = []
    · subst hz
      refine zv ?_
      refine ⟨1, ?_⟩
      refine zv ?_
      exact hk0 rfl
    first | exact absurd ha0 hz | skip
    all_goals
      refine zv ?_
      refine iter_of (I := fun k σ => ∃ (j : Nat) (mv : Bool), k = a.length - j ∧ j ≤ a.length ∧
        ((j = 0 ∧ σ = ⟨slots 19 [(0, .one c), (3, .one .nil), (4, .one (.int .i64 j))], os⟩) ∨
         (j ≠ 0 ∧ σ = ⟨slots 19 [(0, .one c), (3, .one (.own os.length)), (4, .one (.int .i64 j))], os ++ [.own 5 (.int .u8) (a.take j) true mv]⟩))) ?_ a.length ⟨0, false, by omega, by omega, .inl ⟨rfl, by rw [hc, ho]; rfl⟩⟩
      rintro k σ K' ⟨j, mv, rfl, hj, hσ⟩ hK'
      rw [hc, ho] at hK' hσ
      have w1 := IntWalk.i64_in (↑j + 1) (by omega)
      by_cases h1 : j < a.length
      case neg =>
        have f1 : decide ((j : Int) < a.length) = false := by simp; omega
        obtain rfl : j = a.length := by omega
        have hne : a.length ≠ 0 := fun h => hz (List.length_eq_zero_iff.1 h)
        rcases hσ with ⟨h, _⟩ | ⟨_, rfl⟩
        · exact absurd h hne
        · rw [List.take_length]
          refine zs1 f1 ?_
          exact hk1 hz mv
      have f1 : decide ((j : Int) < a.length) = true := by simpa using h1
      obtain ⟨x, hx⟩ : ∃ x, a[j]? = some x := ⟨_, List.getElem?_eq_getElem h1⟩
      have rx := nth_of hx (Ty.int IntKind.u8).dflt
      have ht : a.take (j + 1) = a.take j ++ [x] := by rw [List.take_add_one, hx]; rfl
      have htl : (a.take j).length = j := by rw [List.length_take]; omega
      rcases hσ with ⟨rfl, rfl⟩ | ⟨hj0, rfl⟩
      · refine zs3 f1 rx w1 ?_
        refine hK' _ _ (by omega) ⟨1, false, rfl, by omega, .inr ⟨by omega, ?_⟩⟩
        rw [ht]
        rfl
      · refine zs4 f1 rx htl w1 ?_
        refine hK' _ _ (by omega) ⟨j + 1, true, rfl, by omega, .inr ⟨by omega, ?_⟩⟩
        rw [ht]
        rfl
structure Md where
  (id te : Int) (nul : Bool) (fl fd : ByteArray) (rc : List RT.den) (body : ByteArray) (born : Int) (held told : Bool)
def Md.cs (m : Md) (c : C) : List C := [.int .i64 m.id, .int .i64 m.te, .bool m.nul, .str m.fl, .str m.fd, c, .str m.body, .int .i64 m.born, .bool m.held, .bool m.told]
def Md.ml (m : Md) : Ml := ⟨m.id, m.te, m.nul, bl m.fl, bl m.fd, m.rc.map rcOf, bl m.body, m.born, m.held, m.told⟩
def Γ15 : Sems := ext 122 s46 Γ0
theorem Γ15.ok : SemsOK G Tryz.prog Γ15 := Γ0.ok.ext Tryz.func122 rfl (by decide) ok46
def s15 : Sense := ⟨false, fun os xs K => ∃ (m n : Md) (c d : C) (pa pb : List Ob), xs = [.agg (m.cs c), .agg (n.cs d)] ∧ RcIn 0 m.rc c pa ∧ RcIn pa.length n.rc d pb ∧ os = pa ++ pb ∧ m.rc.length ≤ big ∧ n.rc.length ≤ big ∧ K os (.ret (.one (.bool (decide (m.ml = n.ml)))))⟩
theorem ml_ext (m n : Md) : m.ml = n.ml ↔ m.id = n.id ∧ m.te = n.te ∧ m.nul = n.nul ∧ (bl m.fl = bl n.fl ∧ bl m.fd = bl n.fd) ∧ m.rc.map rcOf = n.rc.map rcOf ∧ bl m.body = bl n.body ∧ m.born = n.born ∧ m.held = n.held ∧ m.told = n.told := by
  simp only [Md.ml, Ml.mk.injEq, and_assoc]
theorem ok15 : SenseOK G Tryz.prog 76 s15 := SenseOK.any Γ15.ok (fun _ => []) Tryz.func76 fun os xs K h => by
  obtain ⟨m, n, c, d, pa, pb, rfl, ha, hb, rfl, hab, hbb, hk⟩ := h
  have hm := ml_ext m n
  have no : ¬ m.ml = n.ml → K (pa ++ pb) (.ret (.one (.bool false))) := fun h => by
    have : decide (m.ml = n.ml) = false := by simpa using h
    rw [this] at hk; exact hk
  obtain ⟨mi, mt, mn, mf, mg, mr, mb, mo, mh, ml⟩ := m
  obtain ⟨ni, nt, nn, nf, ng, nr, nb, no', nh, nl⟩ := n
  simp only at hm hab hbb ha hb
  rcases ha with ⟨hc, hoa⟩ | ⟨hc, hoa, ha0⟩ | ⟨ap, hc, hoa⟩ <;> rcases hb with ⟨hd, hob⟩ | ⟨hd, hob, hb0⟩ | ⟨ap2, hd, hob⟩
  all_goals
    try simp only [hoa, List.length_nil, List.length_cons, Nat.zero_add] at hd
    try simp only [hoa, hob, List.nil_append, List.cons_append] at hk no
    rw [hc, hd, hoa, hob]
    by_cases h1 : mi = ni
    case neg =>
      have f1 : (mi == ni) = false := by simpa using h1
      refine zs1 f1 ?_
      exact no (fun h => h1 (hm.1 h).1)
    have f1 : (mi == ni) = true := by simpa using h1
    by_cases h2 : mt = nt
    case neg =>
      have f2 : (mt == nt) = false := by simpa using h2
      refine zs2 f1 f2 ?_
      exact no (fun h => h2 (hm.1 h).2.1)
    have f2 : (mt == nt) = true := by simpa using h2
    by_cases h3 : mn = nn
    case neg =>
      have f3 : (mn == nn) = false := by simpa using h3
      refine zs3 f1 f2 f3 ?_
      exact no (fun h => h3 (hm.1 h).2.2.1)
    have f3 : (mn == nn) = true := by simpa using h3
    by_cases h4 : bl mf = bl nf ∧ bl mg = bl ng
    case neg =>
      have f4 : (mf.toList == nf.toList && (mg.toList == ng.toList && true)) = false := by (rw [str_beq, str_beq]; simpa using h4)
      refine zs4 f1 f2 f3 f4 ?_
      exact no (fun h => h4 (hm.1 h).2.2.2.1)
    have f4 : (mf.toList == nf.toList && (mg.toList == ng.toList && true)) = true := by (rw [str_beq, str_beq]; simpa using h4)
    by_cases h5 : mr.map rcOf = nr.map rcOf
    case neg =>
      have f5 : decide (mr.map rcOf = nr.map rcOf) = false := by simpa using h5
      refine zs4 f1 f2 f3 f4 ?_
      refine ⟨mr, nr, _, _, _, _, rfl, (by first | exact .inl ⟨rfl, rfl⟩ | exact .inr (.inl ⟨rfl, rfl, ha0⟩) | exact .inr (.inr ⟨ap, rfl, rfl⟩)), (by first | exact .inl ⟨rfl, rfl⟩ | exact .inr (.inl ⟨rfl, rfl, hb0⟩) | exact .inr (.inr ⟨ap2, rfl, rfl⟩)), rfl, hab, hbb, ?_⟩
      refine zs5 f1 f2 f3 f4 f5 ?_
      exact no (fun h => h5 (hm.1 h).2.2.2.2.1)
    have f5 : decide (mr.map rcOf = nr.map rcOf) = true := by simpa using h5
    by_cases h6 : bl mb = bl nb
    case neg =>
      have f6 : (mb.toList == nb.toList) = false := by (rw [str_beq]; simpa using h6)
      refine zs4 f1 f2 f3 f4 ?_
      refine ⟨mr, nr, _, _, _, _, rfl, (by first | exact .inl ⟨rfl, rfl⟩ | exact .inr (.inl ⟨rfl, rfl, ha0⟩) | exact .inr (.inr ⟨ap, rfl, rfl⟩)), (by first | exact .inl ⟨rfl, rfl⟩ | exact .inr (.inl ⟨rfl, rfl, hb0⟩) | exact .inr (.inr ⟨ap2, rfl, rfl⟩)), rfl, hab, hbb, ?_⟩
      refine zs6 f1 f2 f3 f4 f5 f6 ?_
      exact no (fun h => h6 (hm.1 h).2.2.2.2.2.1)
    have f6 : (mb.toList == nb.toList) = true := by (rw [str_beq]; simpa using h6)
    by_cases h7 : mo = no'
    case neg =>
      have f7 : (mo == no') = false := by simpa using h7
      refine zs4 f1 f2 f3 f4 ?_
      refine ⟨mr, nr, _, _, _, _, rfl, (by first | exact .inl ⟨rfl, rfl⟩ | exact .inr (.inl ⟨rfl, rfl, ha0⟩) | exact .inr (.inr ⟨ap, rfl, rfl⟩)), (by first | exact .inl ⟨rfl, rfl⟩ | exact .inr (.inl ⟨rfl, rfl, hb0⟩) | exact .inr (.inr ⟨ap2, rfl, rfl⟩)), rfl, hab, hbb, ?_⟩
      refine zs7 f1 f2 f3 f4 f5 f6 f7 ?_
      exact no (fun h => h7 (hm.1 h).2.2.2.2.2.2.1)
    have f7 : (mo == no') = true := by simpa using h7
    by_cases h8 : mh = nh
    case neg =>
      have f8 : (mh == nh) = false := by simpa using h8
      refine zs4 f1 f2 f3 f4 ?_
      refine ⟨mr, nr, _, _, _, _, rfl, (by first | exact .inl ⟨rfl, rfl⟩ | exact .inr (.inl ⟨rfl, rfl, ha0⟩) | exact .inr (.inr ⟨ap, rfl, rfl⟩)), (by first | exact .inl ⟨rfl, rfl⟩ | exact .inr (.inl ⟨rfl, rfl, hb0⟩) | exact .inr (.inr ⟨ap2, rfl, rfl⟩)), rfl, hab, hbb, ?_⟩
      refine zs8 f1 f2 f3 f4 f5 f6 f7 f8 ?_
      exact no (fun h => h8 (hm.1 h).2.2.2.2.2.2.2.1)
    have f8 : (mh == nh) = true := by simpa using h8
    have hfin : decide (Md.ml ⟨mi, mt, mn, mf, mg, mr, mb, mo, mh, ml⟩ = Md.ml ⟨ni, nt, nn, nf, ng, nr, nb, no', nh, nl⟩) = (ml == nl) := by
      rw [Bool.eq_iff_iff, decide_eq_true_iff, hm]
      simp [h1, h2, h3, h4, h5, h6, h7, h8]
    rw [hfin] at hk
    refine zs4 f1 f2 f3 f4 ?_
    refine ⟨mr, nr, _, _, _, _, rfl, (by first | exact .inl ⟨rfl, rfl⟩ | exact .inr (.inl ⟨rfl, rfl, ha0⟩) | exact .inr (.inr ⟨ap, rfl, rfl⟩)), (by first | exact .inl ⟨rfl, rfl⟩ | exact .inr (.inl ⟨rfl, rfl, hb0⟩) | exact .inr (.inr ⟨ap2, rfl, rfl⟩)), rfl, hab, hbb, ?_⟩
    refine zs8 f1 f2 f3 f4 f5 f6 f7 f8 ?_
    exact hk
def Γ10 : Sems := ext 118 s36 Γ0
theorem Γ10.ok : SemsOK G Tryz.prog Γ10 := Γ0.ok.ext Tryz.func118 rfl (by decide) ok36
def s10 : Sense := ⟨false, fun os xs K => ∃ (m : Md) (c : C), xs = [.agg (m.cs c)] ∧ RcIn 0 m.rc c os ∧ m.rc.length ≤ big ∧ (m.rc = [] → K os (.ret (.agg (m.cs .nil)))) ∧ (m.rc ≠ [] → ∀ mv, K (os ++ [.own 39 RT m.rc true mv]) (.ret (.agg (m.cs (.own os.length)))))⟩
theorem ok10 : SenseOK G Tryz.prog 70 s10 := SenseOK.any Γ10.ok (fun _ => []) Tryz.func70 fun os xs K h => by
  obtain ⟨m, c, rfl, ha, hab, hk0, hk1⟩ := h
  rcases ha with ⟨rfl, rfl⟩ | ⟨rfl, rfl, ha0⟩ | ⟨ap, rfl, rfl⟩
  · refine zv ?_
    refine ⟨m.rc, _, rfl, .inl ⟨rfl, rfl⟩, hab, fun h => ?_, fun h mv => ?_⟩
    · refine zv ?_
      exact hk0 h
    · refine zv ?_
      exact hk1 h mv
  · refine zv ?_
    refine ⟨m.rc, _, rfl, .inr (.inl ⟨rfl, rfl, ha0⟩), hab, fun h => ?_, fun h mv => ?_⟩
    · refine zv ?_
      exact hk0 h
    · exact absurd ha0 h
  · refine zv ?_
    refine ⟨m.rc, _, rfl, .inr (.inr ⟨ap, rfl, rfl⟩), hab, fun h => ?_, fun h mv => ?_⟩
    · refine zv ?_
      exact hk0 h
    · refine zv ?_
      exact hk1 h mv
def crcB (s : Int) : Int := IntKind.u32.wrap ↑(BitVec.ofInt IntKind.u32.bits (s.fdiv (2 ^ min (Int.toNat 1) IntKind.u32.bits)) ^^^ BitVec.ofInt IntKind.u32.bits (IntKind.u32.wrap (3988292384 * IntKind.u32.wrap ↑(BitVec.ofInt IntKind.u32.bits s &&& BitVec.ofInt IntKind.u32.bits 1).toNat))).toNat
def crcN : Nat → Int → Int
  | 0, s => s
  | n + 1, s => crcB (crcN n s)
def crcX (s x : Int) : Int := IntKind.u32.wrap ↑(BitVec.ofInt IntKind.u32.bits s ^^^ BitVec.ofInt IntKind.u32.bits (IntKind.u32.wrap x)).toNat
def crcI (s : Int) : Int := IntKind.u32.wrap ↑(BitVec.ofInt IntKind.u32.bits (if IntKind.u32.signed = true then -1 else IntKind.u32.max) ^^^ BitVec.ofInt IntKind.u32.bits s).toNat
def crcL (s : Int) (l : List Int) : Int := l.foldl (fun s x => crcN 8 (crcX s x)) s
def crcS (l : List Int) : Int := crcI (crcL (crcI 0) l)
def layS (m : Ml) : List Int := layM m ++ num6 (crcS (layM m))
theorem bl_len (s : ByteArray) : (bl s).length = s.size := by simp [bl]
theorem any_take_next {α : Type} {p : α → Bool} {l : List α} {j : Nat} {x : α} (h : l[j]? = some x) (h0 : (l.take j).any p = false) (hx : p x = false) : (l.take (j + 1)).any p = false := by
  rw [List.take_add_one, h, List.any_append, h0]; simp [hx]
theorem any_at {α : Type} {p : α → Bool} {l : List α} {j : Nat} {x : α} (h : l[j]? = some x) (hx : p x = true) : l.any p = true :=
  List.any_eq_true.2 ⟨x, List.mem_of_getElem? h, hx⟩
def rcs (r : RT.den) : List C := [.str r.1.1, .str r.1.2, .int .i64 r.2.1, .int .i64 r.2.2.1, .int .i64 r.2.2.2.1, .int .i64 r.2.2.2.2]
def Byts (l : List Int) : Prop := ∀ x ∈ l, 0 ≤ x ∧ x < 256
theorem own : ownKnob Tryz.prog.godebug = none := by kernel_rfl
theorem laidOut : laidOutB Tryz.prog = true := by kernel_rfl
noncomputable def laidWorld (os : Os) : World :=
  { World.doorLaid Tryz.prog 400 os with heap := (World.doorLaid Tryz.prog 400 os).heap.modify 3 fun
      | .cells _ t frozen => .cells (Go.Pinned.utf8FirstZ.map fun z => Value.int .u8 (Int.ofNat z)).toArray t frozen
      | o => o }
theorem door_met (os : Os) (args : Array Value) : laidMetH Tryz.prog laidL ((laidWorld os).forCall (fun _ _ => 0) ⟨#[], args, []⟩).memory := by
  rw [MakeChecks.laidMetH_plain _ _ _ (by kernel_rfl)]
  exact laidMet_of_run' 8 (by kernel_rfl) (by kernel_rfl)
theorem opn5 : Opn Tryz.prog 5 (.int .u8) (fun x => (Lit.int .u8 x).wf = true) := Opn.int (by kernel_rfl) Tryz.underlying5
end Go.Proofs.YtilagaapfbfkkaaGreatDoor.Ab
namespace Go.Proofs.YtilagaapfbfkkaaGreatDoor.Ab
open Go Go.RowKit Go.Proofs.YtilagaapfbfkkaaGreatDoorW.PrintWords
theorem bulk_one {H : Type} (d : DataW H) : 1 ≤ Rows.uptoBulk d := by
  cases d with
  | lit l => cases l <;> simp [Rows.uptoBulk]
  | nil => simp [Rows.uptoBulk]
  | ptr d => simp [Rows.uptoBulk]
  | slice elems spare => simp [Rows.uptoBulk]
  | agg parts => simp [Rows.uptoBulk]
  | iface t d => simp [Rows.uptoBulk]
  | map entries => simp [Rows.uptoBulk]
  | held h => simp [Rows.uptoBulk]
theorem bulk_part {H : Type} {d : DataW H} {l : List (DataW H)} (h : d ∈ l) : Rows.uptoBulk d ≤ Rows.uptoBulkAll l := by
  induction l with
  | nil => cases h
  | cons x r ih =>
    simp only [Rows.uptoBulkAll]
    cases List.mem_cons.1 h with
    | inl e => subst e; omega
    | inr e => have := ih e; omega
theorem bulk_len {H : Type} (l : List (DataW H)) : l.length ≤ Rows.uptoBulkAll l := by
  induction l with
  | nil => simp [Rows.uptoBulkAll]
  | cons x r ih => have := bulk_one x; simp only [Rows.uptoBulkAll, List.length_cons]; omega
structure OpnB (P : Program) (B : Nat) (t : TypeId) (d : Ty) (wf : d.den → Prop) : Prop where
  cells : P.cellsOf t = d.sz
  op : ∀ {H : Type} {enc : TypeId × Value → H} {w : World} {base : Nat} {spare : Nat → Bool} {fuel : Nat} {cs : List Value} {D : DataW H} {ps : List MemPlace},
    DataW.trod enc P w base spare true fuel t cs = some (D, ps) → (∀ n ∈ D.weights P t, n ≤ reachBytes) → Rows.uptoBulk D ≤ B → ∃ x, TRep w (· < w.heap.size) d x cs ∧ wf x
theorem OpnB.imp {P : Program} {B : Nat} {t : TypeId} {d : Ty} {wf wf' : d.den → Prop} (h : OpnB P B t d wf) (hi : ∀ x, wf x → wf' x) : OpnB P B t d wf' :=
  ⟨h.cells, fun ht hw hb => let ⟨x, hk, hx⟩ := h.op ht hw hb; ⟨x, hk, hi x hx⟩⟩
theorem Opn.b {P : Program} {B : Nat} {t : TypeId} {d : Ty} {wf : d.den → Prop} (h : Opn P t d wf) : OpnB P B t d wf := ⟨h.cells, fun ht hw _ => h.op ht hw⟩
theorem OpnB.string {P : Program} {B : Nat} {t : TypeId} (hc : P.cellsOf t = 1) (hu : P.underlying t = some .string) : OpnB P B t .str (fun x => x.size ≤ B) :=
  ⟨hc, fun ht hw hb => by
    obtain ⟨s, rfl, hx, _⟩ := DataW.trod_string hu ht
    obtain ⟨rfl, rfl⟩ := Prod.mk.inj hx
    refine ⟨s, rfl, ?_⟩
    simp only [Rows.uptoBulk, Array.length_toList] at hb
    show s.data.size ≤ B
    omega⟩
theorem OpnB.slice {P : Program} {B : Nat} {t e : TypeId} {d : Ty} {wf : d.den → Prop} (hc : P.cellsOf t = 1) (hu : P.underlying t = some (.slice e)) (he : OpnB P B e d wf) :
    OpnB P B t (.slice e d) (fun xs => xs.length ≤ B ∧ ∀ x ∈ xs, wf x) :=
  ⟨hc, by
    intro H enc w base spare fuel cs D ps ht hw hbk
    rcases Go.Deep.open_slice hu ht with ⟨rfl, hx⟩ | ⟨a, len, cap, m, n, Dd, Pl, rfl, _, hl, hm, hmm, hx, hi⟩
    · exact ⟨[], ⟨none, 0, rfl, Nat.le_refl _, by simp, fun h => absurd h (by simp)⟩, by simp, fun x h => by simp at h⟩
    · obtain ⟨rfl, rfl⟩ := Prod.mk.inj hx
      have hlm : len ≤ m := by rw [hmm]; split <;> omega
      have hwt : ∀ i, i < len → ∀ k ∈ (Dd i).weights P e, k ≤ reachBytes := by
        intro i hil k hk
        refine hw k ?_
        simp only [DataW.weights, hu]
        refine List.mem_cons_of_mem _ (List.mem_append_left _ ?_)
        have : ∀ (l : List (DataW H)) (z : DataW H), z ∈ l → ∀ k ∈ z.weights P e, k ∈ DataW.weightsAll P e l := by
          intro l z hz
          induction l with
          | nil => simp at hz
          | cons y l ih =>
            intro k hk
            simp only [DataW.weightsAll, List.mem_append]
            rcases List.mem_cons.1 hz with rfl | hz
            · exact Or.inl hk
            · exact Or.inr (ih hz k hk)
        exact this _ (Dd i) (List.mem_map.2 ⟨i, List.mem_range.2 hil, rfl⟩) k hk
      have hbe : Rows.uptoBulkAll ((List.range len).map Dd) ≤ B := by
        simp only [Rows.uptoBulk] at hbk
        omega
      obtain ⟨xs, hxl, hxs⟩ := all_lt (Q := fun i x => (∃ c, c.length = d.sz ∧ TRep w (· < w.heap.size) d x c ∧ ∀ j u, c[j]? = some u → w.cell? (a.add (i * d.sz + j)) = some u) ∧ wf x) len (by
        intro i hil
        obtain ⟨cs', h1, h2⟩ := hi i (by omega)
        obtain ⟨x, hk, hx⟩ := he.op h2 (hwt i hil) (Nat.le_trans (bulk_part (List.mem_map.2 ⟨i, List.mem_range.2 hil, rfl⟩)) hbe)
        obtain ⟨_, hlen, hcell⟩ := World.cells?_some h1
        refine ⟨x, ⟨cs', by rw [hlen, he.cells], hk, fun j u hj => ?_⟩, hx⟩
        have hjl : j < P.cellsOf e := by rw [← hlen]; exact (List.getElem?_eq_some_iff.1 hj).1
        have := hcell j hjl
        rw [hj] at this
        rw [← this, ← he.cells]
        rw [Go.Addr.add_add])
      subst hxl
      refine ⟨xs, ⟨some a, cap, rfl, hl, ?_, fun hp => ⟨a, rfl, ?_, fun j x hj => (hxs j x hj).1⟩⟩, ?_, fun x hx => ?_⟩
      · simp only [maxLen] at hm; omega
      · obtain ⟨⟨c, hcl, hT, hc⟩, _⟩ := hxs 0 xs[0] (List.getElem?_eq_getElem hp)
        have := Ty.sz_pos d
        have h0 := hc 0 c[0] (List.getElem?_eq_getElem (by omega))
        have := World.block_lt_of_cell? w _ h0
        rwa [add_block'] at this
      · have := bulk_len ((List.range xs.length).map Dd)
        simp only [List.length_map, List.length_range] at this
        omega
      · obtain ⟨i, hil, rfl⟩ := List.mem_iff_getElem.1 hx
        exact (hxs i _ (List.getElem?_eq_getElem hil)).2⟩
structure OpnBs (P : Program) (B : Nat) (fs : List Field) (off : Nat) (d : Ty) (wf : d.den → Prop) : Prop where
  op : ∀ {H : Type} {enc : TypeId × Value → H} {w : World} {base : Nat} {spare : Nat → Bool} {n : Nat} {cs : List Value} (ys : List (DataW H × List MemPlace)),
    (∀ (i : Nat) (f : Field), fs[i]? = some f → DataW.trod enc P w base spare true n f.type ((cs.drop f.offset).take (P.cellsOf f.type)) = ys[i]?) → ys.length = fs.length →
    (∀ k ∈ DataW.weightsEach P (fs.map (·.type)) (ys.map (·.1)), k ≤ reachBytes) → Rows.uptoBulkAll (ys.map (·.1)) ≤ B → ∃ x, TRep w (· < w.heap.size) d x ((cs.drop off).take d.sz) ∧ wf x
theorem OpnBs.one {P : Program} {B : Nat} {f : Field} {off : Nat} {d : Ty} {wf : d.den → Prop} (h : OpnB P B f.type d wf) (ho : f.offset = off) : OpnBs P B [f] off d wf :=
  ⟨by
    intro H enc w base spare n cs ys hy hl hw hbk
    match ys, hl with
    | [y], _ =>
      have h0 := hy 0 f rfl
      simp only [List.getElem?_cons_zero] at h0
      obtain ⟨x, hk, hx⟩ := h.op (D := y.1) (ps := y.2) h0 (fun k hk => hw k (by simp [DataW.weightsEach, hk])) (by simp only [List.map_cons, Rows.uptoBulkAll] at hbk; omega)
      rw [h.cells, ho] at hk
      exact ⟨x, hk, hx⟩⟩
theorem OpnBs.cons {P : Program} {B : Nat} {f : Field} {fs : List Field} {off : Nat} {a b : Ty} {wa : a.den → Prop} {wb : b.den → Prop} (h : OpnB P B f.type a wa) (ho : f.offset = off) (hr : OpnBs P B fs (off + a.sz) b wb) :
    OpnBs P B (f :: fs) off (.pair a b) (fun x => wa x.1 ∧ wb x.2) :=
  ⟨by
    intro H enc w base spare n cs ys hy hl hw hbk
    match ys, hl with
    | y :: ys, hl =>
      have h0 := hy 0 f rfl
      simp only [List.getElem?_cons_zero] at h0
      obtain ⟨x, hk, hx⟩ := h.op (D := y.1) (ps := y.2) h0 (fun k hk => hw k (by simp [DataW.weightsEach, hk])) (by simp only [List.map_cons, Rows.uptoBulkAll] at hbk; omega)
      obtain ⟨z, hkz, hz⟩ := hr.op ys (fun i g hg => by simpa using hy (i + 1) g (by simpa using hg)) (by simpa using hl) (fun k hk => hw k (by simp only [List.map_cons, DataW.weightsEach, List.mem_append]; exact Or.inr hk)) (by simp only [List.map_cons, Rows.uptoBulkAll] at hbk; omega)
      rw [h.cells, ho] at hk
      refine ⟨(x, z), ⟨_, _, ?_, hk, hkz⟩, hx, hz⟩
      show (cs.drop off).take (a.sz + b.sz) = _
      rw [List.take_add, List.drop_drop]⟩
theorem OpnB.struct {P : Program} {B : Nat} {t : TypeId} {fs : Array Field} {d : Ty} {wf : d.den → Prop} (hc : P.cellsOf t = d.sz) (hu : P.underlying t = some (.struct fs)) (hf : OpnBs P B fs.toList 0 d wf) : OpnB P B t d wf :=
  ⟨hc, by
    intro H enc w base spare fuel cs D ps ht hw hbk
    obtain ⟨xs, n, _, hx, hl, hlen, hy⟩ := DataW.trod_struct hu ht
    obtain ⟨rfl, rfl⟩ := Prod.mk.inj hx
    obtain ⟨x, hk, hx⟩ := hf.op xs (fun i f hi => hy i f (by simpa using hi)) (by simpa using hlen) (fun k hk => hw k (by simp only [DataW.weights, hu]; exact hk)) (by simp only [Rows.uptoBulk] at hbk; omega)
    rw [List.drop_zero, ← hc, ← hl, List.take_length] at hk
    exact ⟨x, hk, hx⟩⟩
end Go.Proofs.YtilagaapfbfkkaaGreatDoor.Ab
namespace Go.Proofs.YtilagaapfbfkkaaGreatDoor.Ab
open Go Go.RowKit Go.Proofs.YtilagaapfbfkkaaGreatDoorW.PrintWords
variable {X : Cx} {P : Program}
def C.pln : C → Bool
  | .sl _ _ => false | .ielt _ _ _ => false | _ => true
def plnCs : List C → Bool
  | [] => true
  | c :: l => c.pln && plnCs l
def E.pln : E → Bool
  | .one c => c.pln | .agg l => plnCs l
def plnEs : List E → Bool
  | [] => true
  | c :: l => c.pln && plnEs l
def V.pln : V → Bool
  | .one c => c.pln | .agg l => plnCs l | .tup l => plnEs l | .wh _ c => c.pln
def Ob.pln : Ob → Bool
  | .box _ l => plnCs l | .own _ t _ _ _ => t.plainB | _ => true
def plnOs : List Ob → Bool
  | [] => true
  | o :: l => o.pln && plnOs l
def Out.pln : Out → Bool
  | .ret v => v.pln | .pan c => true
theorem TRep.pln {w w' : World} {I I' : Nat → Prop} : ∀ {t : Ty} {x : t.den} {cs : List Value}, t.plainB = true → TRep w I t x cs → TRep w' I' t x cs
  | .int _, _, _, _, h => h
  | .bool, _, _, _, h => h
  | .str, _, _, _, h => h
  | .slice _ _, _, _, hp, _ => by cases hp
  | .pair a b, x, _, hp, h => by
    simp only [Ty.plainB, Bool.and_eq_true] at hp
    obtain ⟨c1, c2, rfl, h1, h2⟩ := h
    exact ⟨c1, c2, rfl, TRep.pln hp.1 h1, TRep.pln hp.2 h2⟩
theorem plnOs_get : ∀ {os : List Ob} {i : Nat} {o : Ob}, plnOs os = true → os[i]? = some o → o.pln = true
  | [], i, o, _, h => by simp at h
  | x :: os, 0, o, hp, h => by
    simp only [plnOs, Bool.and_eq_true] at hp
    simp at h; subst h; exact hp.1
  | x :: os, i + 1, o, hp, h => by
    simp only [plnOs, Bool.and_eq_true] at hp
    exact plnOs_get hp.2 (i := i) (by simpa using h)
end Go.Proofs.YtilagaapfbfkkaaGreatDoor.Ab
namespace Go.Proofs.YtilagaapfbfkkaaGreatDoor.Ab
open Go Go.RowKit Go.Proofs.YtilagaapfbfkkaaGreatDoorW.PrintWords
variable {X : Cx} {P : Program}
def ownsB : List Ob → Bool
  | [] => true
  | .own _ _ _ _ mv :: l => !mv && ownsB l
  | _ :: _ => false
theorem ownsB_get : ∀ {os : List Ob} {i : Nat} {o : Ob}, ownsB os = true → os[i]? = some o → ∃ e t l ap, o = .own e t l ap false
  | [], i, o, _, h => by simp at h
  | x :: os, i, o, hp, h => by
    cases x with
    | own e t l ap mv =>
      simp only [ownsB, Bool.and_eq_true, Bool.not_eq_true'] at hp
      cases i with
      | zero => simp at h; subst h; exact ⟨e, t, l, ap, by rw [hp.1]⟩
      | succ i => exact ownsB_get hp.2 (i := i) (by simpa using h)
    | _ => simp [ownsB] at hp
def lendC (os : List Ob) (c c' : C) : Prop :=
  (c' = c ∧ c.id = []) ∨ (∃ i e t l ap, c = .own i ∧ c' = .sl t l ∧ os[i]? = some (.own e t l ap false)) ∨ (∃ t l, c = .nil ∧ c' = .sl t l ∧ l = [])
def lendV (os : List Ob) : V → V → Prop
  | .one c, .one c' => lendC os c c'
  | .agg l, .agg l' => All2 (lendC os) l l'
  | _, _ => False
theorem All2.comp {α β γ : Type} {R : α → β → Prop} {S : α → γ → Prop} {U : β → γ → Prop} (h : ∀ x y z, R x y → S x z → U y z) : ∀ {l : List α} {m : List β} {n : List γ}, All2 R l m → All2 S l n → All2 U m n
  | [], [], [], _, _ => trivial
  | _ :: _, _ :: _, _ :: _, h1, h2 => ⟨h _ _ _ h1.1 h2.1, All2.comp h h1.2 h2.2⟩
  | [], _ :: _, _, h1, _ => h1.elim
  | _ :: _, [], _, h1, _ => h1.elim
  | [], [], _ :: _, _, h2 => h2.elim
  | _ :: _, _ :: _, [], _, h2 => h2.elim
def Out.upN (n : Nat) : Out → Out
  | .ret v => .ret (v.ren (· + n)) | .pan c => .pan c
theorem get_up {α : Type} (l1 l : List α) (i : Nat) : (l1 ++ l)[i + l1.length]? = l[i]? := by
  rw [List.getElem?_append_right (by omega)]; congr 1; omega
theorem app_get {α : Type} {l1 l : List α} {i : Nat} {x : α} (h : (l1 ++ l)[i]? = some x) : (i < l1.length ∧ l1[i]? = some x) ∨ ∃ j, i = j + l1.length ∧ l[j]? = some x := by
  by_cases hi : i < l1.length
  · rw [List.getElem?_append_left hi] at h; exact .inl ⟨hi, h⟩
  · refine .inr ⟨i - l1.length, by omega, ?_⟩
    rw [List.getElem?_append_right (by omega)] at h; exact h
theorem CRep.upN {w : World} {I I' : Nat → Prop} {lk : List Value} (l1 : List Value) {c : C} {u : Value} (hp : c.pln = true) (h : CRep w I lk c u) : CRep w I' (l1 ++ lk) (c.ren (· + l1.length)) u := by
  cases c with
  | sl t xs => cases hp
  | ielt t x o => cases hp
  | ref i o => obtain ⟨b, hb, rfl⟩ := h; exact ⟨b, by rw [get_up]; exact hb, rfl⟩
  | own i => exact ⟨by rw [get_up]; exact h.1, h.2⟩
  | mp i => exact ⟨by rw [get_up]; exact h.1, h.2⟩
  | elt t i j o => obtain ⟨g, n, c, hb, hj, rfl⟩ := h; exact ⟨g, n, c, by rw [get_up]; exact hb, hj, rfl⟩
  | fn f l =>
    obtain ⟨us, rfl, ha⟩ := h
    exact ⟨us, rfl, All2.map (ha.imp fun i _ u hu => ⟨by rw [get_up]; exact hu.1, hu.2⟩)⟩
  | _ => exact h
theorem Cels.upN {w : World} {I I' : Nat → Prop} {lk : List Value} (l1 : List Value) : ∀ {l : List C} {us : List Value}, plnCs l = true → All2 (Cel w I lk) l us → All2 (Cel w I' (l1 ++ lk)) (l.map (C.ren (· + l1.length))) us
  | [], [], _, _ => trivial
  | c :: l, u :: us, hp, h => by
    simp only [plnCs, Bool.and_eq_true] at hp
    exact ⟨⟨h.1.1.upN l1 hp.1, h.1.2⟩, Cels.upN l1 hp.2 h.2⟩
  | [], _ :: _, _, h => h.elim
  | _ :: _, [], _, h => h.elim
theorem Es.upN {w : World} {I I' : Nat → Prop} {lk : List Value} (l1 : List Value) : ∀ {l : List E} {us : List Value}, plnEs l = true → All2 (ERep w I lk) l us → All2 (ERep w I' (l1 ++ lk)) (l.map (E.ren (· + l1.length))) us
  | [], [], _, _ => trivial
  | e :: l, u :: us, hp, h => by
    simp only [plnEs, Bool.and_eq_true] at hp
    refine ⟨?_, Es.upN l1 hp.2 h.2⟩
    cases e with
    | one c => exact CRep.upN l1 hp.1 h.1
    | agg cs => obtain ⟨vs, rfl, ha⟩ := h.1; exact ⟨vs, rfl, Cels.upN l1 hp.1 ha⟩
  | [], _ :: _, _, h => h.elim
  | _ :: _, [], _, h => h.elim
theorem VRep.upN {w : World} {I I' : Nat → Prop} {lk : List Value} (l1 : List Value) {x : V} {u : Value} (hp : x.pln = true) (h : VRep w I lk x u) : VRep w I' (l1 ++ lk) (x.ren (· + l1.length)) u := by
  cases x with
  | one c => exact CRep.upN l1 hp h
  | agg l => obtain ⟨vs, rfl, ha⟩ := h; exact ⟨vs, rfl, Cels.upN l1 hp ha⟩
  | tup l => obtain ⟨vs, rfl, ha⟩ := h; exact ⟨vs, rfl, Es.upN l1 hp ha⟩
  | wh g c => exact ⟨fun hg => CRep.upN l1 hp (h.1 hg), h.2⟩
theorem ORep.upN {w : World} {I I' : Nat → Prop} {lk : List Value} (l1 : List Value) {o : Ob} {u : Value} (hp : o.pln = true) (h : ORep w I lk o u) : ORep w I' (l1 ++ lk) (o.ren (· + l1.length)) u := by
  cases o with
  | box e l => obtain ⟨b, cur, rfl, hh, ha⟩ := h; exact ⟨b, cur, rfl, hh, Cels.upN l1 hp ha⟩
  | own e t xs ap mv => obtain ⟨cells, hr, hv⟩ := h; exact ⟨cells, Reps.imp2 hr (fun p c hq => TRep.pln hp hq), hv⟩
  | mset kt ks => exact h
  | gone => exact h
theorem SenseOK.lendL {G : World → Prop} {f : FuncId} {s : Sense} (h : SenseOK G P f s) :
    SenseOK G P f ⟨true, fun os xs K => ∃ xs', ownsB os = true ∧ All2 (lendV os) xs xs' ∧ s.f [] xs' fun os' out => plnOs os' = true ∧ out.pln = true ∧ K (os ++ os'.map (Ob.ren (· + os.length))) (out.upN os.length)⟩ := by
  intro X w lk os as_ vs K hO hl0 hX hXG hgr has hs
  obtain ⟨xs', hob, hxs, hs⟩ := hs
  have hll : lk.length = os.length := hO.lsz
  have hI : ∀ v ∈ lk, ∀ b, blk v = some b → Imm ⟨X.hid, [], X.gr, X.df, X.pub, X.ph⟩ w [] b := fun v hv b hb => by
    obtain ⟨i, hi⟩ := List.mem_iff_getElem?.1 hv
    exact ⟨hO.lt i v b hi hb, by simp, fun hx => absurd hx (hO.nx i v b hi hb)⟩
  have hg0 : Goes w (Imm X w lk) w (Imm ⟨X.hid, [], X.gr, X.df, X.pub, X.ph⟩ w []) := fun b hb => ⟨rfl, hb.1, by simp, hb.2.2⟩
  have hc : ∀ c c' u, lendC os c c' → CRep w (Imm X w lk) lk c u → CRep w (Imm ⟨X.hid, [], X.gr, X.df, X.pub, X.ph⟩ w []) [] c' u := by
    rintro c c' u (⟨rfl, hid⟩ | ⟨i, e, t, l, ap, rfl, rfl, ho⟩ | ⟨t, l, rfl, rfl, rfl⟩) hcr
    · exact hcr.goes hg0 (fun j hj => by rw [hid] at hj; simp at hj)
    · obtain ⟨A, c, he, hc, hs⟩ := own_SR (hO.ob i _ u ho hcr.1) (hI u (List.mem_of_getElem? hcr.1))
      exact ⟨A, c, he, hc, hs.goes (Goes.refl _ _) (fun x cs hx => hx.goes hg0)⟩
    · exact ⟨none, 0, hcr, Nat.le_refl _, by simp, fun hp => absurd hp (by simp)⟩
  have hcs : ∀ {l l' : List C} {us : List Value}, All2 (lendC os) l l' → All2 (Cel w (Imm X w lk) lk) l us → All2 (Cel w (Imm ⟨X.hid, [], X.gr, X.df, X.pub, X.ph⟩ w []) []) l' us :=
    fun h1 h2 => All2.comp (fun x y z hxy hxz => ⟨hc x y z hxy hxz.1, hxz.2⟩) h1 h2
  have has' : All2 (VRep w (Imm ⟨X.hid, [], X.gr, X.df, X.pub, X.ph⟩ w []) []) xs' vs := All2.comp (fun x y z hxy hxz => by
    cases x with
    | one c =>
      cases y with
      | one c' => exact hc c c' z hxy hxz
      | _ => exact hxy.elim
    | agg l =>
      cases y with
      | agg l' =>
        obtain ⟨us, rfl, ha⟩ := hxz
        exact ⟨us, rfl, hcs hxy ha⟩
      | _ => exact hxy.elim
    | _ => cases y <;> exact hxy.elim) hxs has
  have hcall := h ⟨X.hid, [], X.gr, X.df, X.pub, X.ph⟩ w [] [] _ vs _ ⟨rfl, by simp, by simp, by simp, by simp, Nat.le_refl _, by simp⟩ rfl hX hXG hgr has' hs
  refine hcall.mono ?_
  rintro e' w' ⟨os', lk', out, ⟨hp1, hp2, hK⟩, hO', hk, hn, hout⟩
  have hkb : ∀ k, k < w.heap.size → w'.heap[k]? = w.heap[k]? := fun k hk' => hk.block k hk' (fun x => by simp at x)
  have hnew : ∀ u ∈ lk', ∀ b, blk u = some b → w.heap.size ≤ b := fun u hu b hb => (hn u hu b hb).resolve_left (by simp)
  have hgo : Goes w (Imm X w lk) w' (Imm X w' (lk ++ lk')) := fun b hb => ⟨hkb b hb.1, Nat.lt_of_lt_of_le hb.1 hk.size, fun u hu => by
    rcases List.mem_append.1 hu with hu | hu
    · exact hb.2.1 u hu
    · intro he; have := hnew u hu b he; have := hb.1; omega, hb.2.2⟩
  refine ⟨_, lk ++ lk', out.upN os.length, hK, ⟨by simp [hO'.lsz, hll], fun i o u ho hu => ?_, fun i j u u' b hij hu hu' hb => ?_, fun i u b hu hb => ?_, fun i u b hu hb => ?_, ?_, fun p v0 o hp ho hko => ?_⟩, ?_, fun u hu b hb => ?_, ?_⟩
  · rcases app_get ho with ⟨hi, h2⟩ | ⟨j, rfl, h2⟩
    · rw [List.getElem?_append_left (by omega)] at hu
      obtain ⟨e, t, l, ap, rfl⟩ := ownsB_get hob h2
      exact ORep.goes hgo (by simp [Keeps, Ob.ids]) (fun b hb => hkb b (hO.lt i u b hu hb)) (hO.ob i _ u h2 hu)
    · rw [← hll, get_up] at hu
      obtain ⟨o', ho', rfl⟩ := get_map h2
      rw [← hll]
      exact ORep.upN lk (plnOs_get hp1 ho') (hO'.ob j o' u ho' hu)
  · rcases app_get hu with ⟨hi, h2⟩ | ⟨i', rfl, h2⟩ <;> rcases app_get hu' with ⟨hj, h3⟩ | ⟨j', rfl, h3⟩
    · exact hO.dj i j u u' b hij h2 h3 hb
    · intro he
      have h1 := hO.lt i u b h2 hb
      have h4 := hnew u' (List.mem_of_getElem? h3) b he
      omega
    · intro he
      have h1 := hO.lt j u' b h3 he
      have h4 := hnew u (List.mem_of_getElem? h2) b hb
      omega
    · exact hO'.dj i' j' u u' b (fun e => hij (by rw [e])) h2 h3 hb
  · rcases app_get hu with ⟨hi, h2⟩ | ⟨i', rfl, h2⟩
    · exact Nat.lt_of_lt_of_le (hO.lt i u b h2 hb) hk.size
    · exact hO'.lt i' u b h2 hb
  · rcases app_get hu with ⟨hi, h2⟩ | ⟨i', rfl, h2⟩
    · exact hO.nx i u b h2 hb
    · exact hO'.nx i' u b h2 hb
  · rw [hl0]; simp
  · rw [hl0] at hp
    rw [List.getElem?_append_left (List.getElem?_eq_some_iff.1 hp).1]
    exact hp
  · exact ⟨hk.os, hk.tape, hk.output, hk.size, fun k hk' _ => hkb k hk'⟩
  · rcases List.mem_append.1 hu with hu | hu
    · exact .inl ⟨u, hu, hb⟩
    · exact .inr (hnew u hu b hb)
  · cases out with
    | ret x =>
      obtain ⟨y, rfl, hy⟩ := hout
      rw [← hll]
      exact ⟨y, rfl, VRep.upN lk hp2 hy⟩
    | pan c => cases c <;> exact hout
end Go.Proofs.YtilagaapfbfkkaaGreatDoor.Ab
namespace Go.Proofs.YtilagaapfbfkkaaGreatDoor.Ab
open Go Go.RowKit Go.Proofs.YtilagaapfbfkkaaGreatDoorW.PrintWords
variable {X : Cx} {P : Program}
def setA {α : Type} : List α → Nat → α → List α
  | [], _, v => [v]
  | _ :: l, 0, v => v :: l
  | x :: l, n + 1, v => x :: setA l n v
theorem setA_get {α : Type} : ∀ {l : List α} {i : Nat} {v : α} {k : Nat}, i ≤ l.length → (setA l i v)[k]? = if k = i then some v else l[k]?
  | [], i, v, k, h => by
    obtain rfl : i = 0 := by simpa using h
    cases k <;> simp [setA]
  | x :: l, 0, v, k, h => by cases k <;> simp [setA]
  | x :: l, i + 1, v, k, h => by
    cases k with
    | zero => simp [setA]
    | succ k => simpa [setA] using setA_get (l := l) (i := i) (v := v) (k := k) (by simpa using h)
theorem setA_len {α : Type} : ∀ {l : List α} {i : Nat} {v : α}, l.length ≤ (setA l i v).length
  | [], _, _ => by simp [setA]
  | _ :: l, 0, _ => by simp [setA]
  | _ :: l, i + 1, v => by simpa [setA] using setA_len (l := l) (i := i) (v := v)
theorem setA_len2 {α β : Type} : ∀ {l : List α} {m : List β} {i : Nat} {v : α} {u : β}, l.length = m.length → (setA l i v).length = (setA m i u).length
  | [], [], _, _, _, _ => rfl
  | _ :: _, _ :: _, 0, _, _, h => by simpa [setA] using h
  | _ :: l, _ :: m, i + 1, v, u, h => by simpa [setA] using setA_len2 (l := l) (m := m) (i := i) (v := v) (u := u) (by simpa using h)
  | [], _ :: _, _, _, _, h => by simp at h
  | _ :: _, [], _, _, _, h => by simp at h
inductive Plc where
  | box (b p : Nat) (e : TypeId) (t : Ty)
  | out (p : Nat) (e : TypeId) (t : Ty)
  | mv (i : Nat)
def refs (σ : St) : List Nat := σ.tmps.flatMap V.ids ++ σ.objs.flatMap Ob.ids
def freeI (e : TypeId) (t : Ty) (rs : List Nat) : Nat → List Ob → Nat
  | k, [] => k
  | k, o :: l => match o with
    | .own e' t' _ _ _ => bif Nat.beq e e' && decide (t = t') && !memN k rs then k else freeI e t rs (k + 1) l
    | _ => freeI e t rs (k + 1) l
def cellE : List E → Nat → Option C
  | [], _ => none
  | .one c :: l, p => match p with
    | 0 => some c
    | p + 1 => cellE l p
  | .agg cs :: l, p => match nth cs p with
    | some c => some c
    | none => cellE l (p - len cs)
def V.cellP : V → Nat → Option C
  | .one c, 0 => some c
  | .agg l, p => nth l p
  | .tup l, p => cellE l p
  | _, _ => none
def setE : List E → Nat → C → List E
  | [], _, _ => []
  | .one c :: l, p, v => match p with
    | 0 => .one v :: l
    | p + 1 => .one c :: setE l p v
  | .agg cs :: l, p, v => match nth cs p with
    | some _ => .agg (setL cs p v) :: l
    | none => .agg cs :: setE l (p - len cs) v
def V.setP : V → Nat → C → V
  | .one _, 0, v => .one v
  | .agg l, p, v => .agg (setL l p v)
  | .tup l, p, v => .tup (setE l p v)
  | x, _, _ => x
def lift1 (pl : Plc) (σ : St) (Q : St → Prop) : Prop :=
  match pl with
  | .box b p e t => match nth σ.objs b with
    | some (.box e0 l) => match nth l p with
      | some .nil => litN (freeI e t (refs σ) 0 σ.objs) fun i => St.mkAll ⟨σ.tmps, setA (setL σ.objs b (.box e0 (setL l p (.own i)))) i (.own e t [] true true)⟩ Q
      | _ => Q σ
    | _ => Q σ
  | .out p e t => match σ.tmps with
    | [v] => match v.cellP p with
      | some .nil => litN (freeI e t (refs σ) 0 σ.objs) fun i => St.mkAll ⟨[v.setP p (.own i)], setA σ.objs i (.own e t [] true true)⟩ Q
      | _ => Q σ
    | _ => Q σ
  | .mv i => match nth σ.objs i with
    | some (.own e t xs ap _) => St.mkAll ⟨σ.tmps, setL σ.objs i (.own e t xs ap true)⟩ Q
    | _ => Q σ
def liftS : List Plc → St → (St → Prop) → Prop
  | [], σ, Q => Q σ
  | p :: l, σ, Q => lift1 p σ fun σ' => liftS l σ' Q
def liftP (ps : List Plc) (m : Nat) (K : List Ob → Out → Prop) (os : List Ob) (out : Out) : Prop :=
  match out with
  | .ret v => liftS ps ⟨[v], os⟩ fun σ => gc m [0] σ fun σ2 => match σ2.tmps with
    | [v] => K σ2.objs (.ret v)
    | _ => False
  | .pan c => K os (.pan c)
theorem freeI_le {e : TypeId} {t : Ty} {rs : List Nat} : ∀ {l : List Ob} {k : Nat}, freeI e t rs k l ≤ k + l.length
  | [], k => by simp [freeI]
  | o :: l, k => by
    have ih := freeI_le (e := e) (t := t) (rs := rs) (l := l) (k := k + 1)
    simp only [freeI, List.length_cons]
    split
    · rename_i e' t' xs a m
      cases (Nat.beq e e' && decide (t = t') && !memN k rs) with
      | true => simp only [cond_true]; omega
      | false => simp only [cond_false]; omega
    · omega
theorem freeI_spec {e : TypeId} {t : Ty} {rs : List Nat} : ∀ {l : List Ob} {k i : Nat}, freeI e t rs k l = i → i < k + l.length → i ∉ rs ∧ ∃ e' t' xs a m, l[i - k]? = some (.own e' t' xs a m)
  | [], k, i, h, hi => by simp [freeI] at h hi; omega
  | o :: l, k, i, h, hi => by
    have rec_ : freeI e t rs (k + 1) l = i → i ∉ rs ∧ ∃ e' t' xs a m, (o :: l)[i - k]? = some (.own e' t' xs a m) := fun h => by
      have h2 := freeI_spec (l := l) (k := k + 1) h (by simp only [List.length_cons] at hi; omega)
      have h3 : k + 1 ≤ i := by rw [← h]; exact freeI_ge
      refine ⟨h2.1, ?_⟩
      obtain ⟨e', t', xs, a, m, h4⟩ := h2.2
      exact ⟨e', t', xs, a, m, by rw [show i - k = (i - (k + 1)) + 1 by omega, List.getElem?_cons_succ]; exact h4⟩
    simp only [freeI] at h
    split at h
    · rename_i e' t' xs a m
      cases hc : (Nat.beq e e' && decide (t = t') && !memN k rs) with
      | true =>
        rw [hc] at h
        simp only [cond_true] at h
        subst h
        simp only [Bool.and_eq_true, Bool.not_eq_true'] at hc
        refine ⟨fun hm => ?_, e', t', xs, a, m, by simp⟩
        rw [memN_mem.2 hm] at hc
        exact absurd hc.2 (by simp)
      | false => rw [hc] at h; exact rec_ h
    · exact rec_ h
where
  freeI_ge : ∀ {l : List Ob} {k : Nat}, k ≤ freeI e t rs k l
    | [], k => by simp [freeI]
    | o :: l, k => by
      have ih := freeI_ge (l := l) (k := k + 1)
      simp only [freeI]
      split
      · rename_i e' t' xs a m
        cases (Nat.beq e e' && decide (t = t') && !memN k rs) with
        | true => simp only [cond_true]; omega
        | false => simp only [cond_false]; omega
      · omega
theorem nil_step {M : Nat → Prop} {w0 w : World} {lk : List Value} {σ : St} {a : Act} (hr : Rel X w lk σ a) (hi : Inv X M w0 w lk) {i : Nat} {e : TypeId} {t : Ty} (h : freeI e t (refs σ) 0 σ.objs = i) :
    Rel X w (setA lk i (.slice none 0 0)) ⟨σ.tmps, setA σ.objs i (.own e t [] true true)⟩ a ∧ Inv X M w0 w (setA lk i (.slice none 0 0)) ∧ (setA lk i (.slice none 0 0))[i]? = some (.slice none 0 0) ∧ i ≤ σ.objs.length ∧ (i < σ.objs.length → ∃ e' t' xs a m, σ.objs[i]? = some (.own e' t' xs a m)) := by
  have hle : i ≤ σ.objs.length := by have := freeI_le (e := e) (t := t) (rs := refs σ) (l := σ.objs) (k := 0); omega
  have hlk : i ≤ lk.length := by rw [hr.lsz]; exact hle
  have hsp : i < σ.objs.length → i ∉ refs σ ∧ ∃ e' t' xs a m, σ.objs[i]? = some (.own e' t' xs a m) := fun hlt => by
    have := freeI_spec h (by omega)
    simpa using this
  have hnm : ∀ l : List Nat, (∀ j ∈ l, j ∈ refs σ) → Keeps lk (setA lk i (.slice none 0 0)) l := fun l hl j hj v hv => by
    have hjl : j < lk.length := (List.getElem?_eq_some_iff.1 hv).1
    have hji : j ≠ i := fun e => by
      subst e
      exact (hsp (by rw [← hr.lsz]; exact hjl)).1 (hl j hj)
    rw [setA_get hlk, if_neg hji]; exact hv
  have hsub : ∀ v ∈ setA lk i (.slice none 0 0), ∀ b, blk v = some b → v ∈ lk := fun v hv b hb => by
    obtain ⟨k, hk⟩ := List.mem_iff_getElem?.1 hv
    rw [setA_get hlk] at hk
    split at hk
    · simp at hk; subst hk; cases hb
    · exact List.mem_of_getElem? hk
  have hgo : Goes w (Imm X w lk) w (Imm X w (setA lk i (.slice none 0 0))) := fun b hb => ⟨rfl, hb.1, fun v hv he => hb.2.1 v (hsub v hv b he) he, hb.2.2⟩
  refine ⟨ORel.toR ⟨setA_len2 hr.lsz, fun k o v ho hk => ?_, fun k j v v' b hkj hk hj hb he => ?_, fun k v b hk hb => ?_, fun k v b hk hb => ?_, Nat.le_trans hr.ll setA_len, fun p v0 o hp ho hko => ?_⟩ hr.tsz (fun s x hx => ?_) hr.df, ⟨hi.keep, fun v hv b hb => hi.news v (hsub v hv b hb) b hb, hi.xl, hi.xm, hi.gr⟩, by rw [setA_get hlk, if_pos rfl], hle, fun hlt => (hsp hlt).2⟩
  · rw [setA_get hle] at ho
    rw [setA_get hlk] at hk
    split at ho
    · rename_i hki
      rw [if_pos hki] at hk
      simp at ho hk
      subst ho hk
      exact ⟨[], ⟨by simp, fun j p hp => by simp at hp⟩, .inl ⟨rfl, rfl⟩⟩
    · rename_i hki
      rw [if_neg hki] at hk
      exact ORep.goes hgo (hnm _ fun j hj => List.mem_append.2 (.inr (List.mem_flatMap.2 ⟨o, List.mem_of_getElem? ho, hj⟩))) (fun _ _ => rfl) (hr.ob k o v ho hk)
  · rw [setA_get hlk] at hk hj
    split at hk
    · simp at hk; subst hk; cases hb
    · split at hj
      · simp at hj; subst hj; cases he
      · exact hr.dj k j v v' b hkj hk hj hb he
  · rw [setA_get hlk] at hk
    split at hk
    · simp at hk; subst hk; cases hb
    · exact hr.lt k v b hk hb
  · rw [setA_get hlk] at hk
    split at hk
    · simp at hk; subst hk; cases hb
    · exact hr.nx k v b hk hb
  · rw [setA_get hle] at ho
    rw [setA_get hlk]
    split at ho
    · simp at ho; subst ho; cases hko
    · rename_i hpi
      rw [if_neg hpi]; exact hr.kp p v0 o hp ho hko
  · exact VRep.goes hgo (hnm _ fun j hj => List.mem_append.2 (.inl (List.mem_flatMap.2 ⟨x, List.mem_of_getElem? hx, hj⟩))) (hr.tm s x hx)
theorem nil_own {w : World} {I : Nat → Prop} {lk : List Value} {i : Nat} {v : Value} (hi : lk[i]? = some (.slice none 0 0)) (h : CRep w I lk .nil v) : CRep w I lk (.own i) v := by
  have : v = .slice none 0 0 := h
  subst this
  exact ⟨hi, none, 0, 0, rfl⟩
theorem nil_cells {w : World} {I : Nat → Prop} {lk : List Value} {i : Nat} (hi : lk[i]? = some (.slice none 0 0)) : ∀ {l : List C} {us : List Value} {p : Nat}, l[p]? = some .nil → All2 (Cel w I lk) l us → All2 (Cel w I lk) (setL l p (.own i)) us
  | c :: l, u :: us, 0, hp, h => by
    simp at hp; subst hp
    exact ⟨⟨nil_own (w := w) (I := I) hi h.1.1, h.1.2⟩, h.2⟩
  | c :: l, u :: us, p + 1, hp, h => ⟨h.1, nil_cells hi (p := p) (by simpa using hp) h.2⟩
  | [], _, p, hp, _ => by simp at hp
  | _ :: _, [], _, _, h => h.elim
theorem nil_Es {w : World} {I : Nat → Prop} {lk : List Value} {i : Nat} (hi : lk[i]? = some (.slice none 0 0)) : ∀ {l : List E} {us : List Value} {p : Nat}, cellE l p = some .nil → All2 (ERep w I lk) l us → All2 (ERep w I lk) (setE l p (.own i)) us
  | [], _, p, hp, _ => by simp [cellE] at hp
  | _ :: _, [], _, _, h => h.elim
  | .one c :: l, u :: us, 0, hp, h => by
    simp [cellE] at hp; subst hp
    exact ⟨nil_own (w := w) (I := I) hi h.1, h.2⟩
  | .one c :: l, u :: us, p + 1, hp, h => ⟨h.1, nil_Es hi (p := p) (by simpa [cellE] using hp) h.2⟩
  | .agg cs :: l, u :: us, p, hp, h => by
    simp only [cellE] at hp
    simp only [setE]
    cases hn : nth cs p with
    | some c =>
      rw [hn] at hp
      simp at hp; subst hp
      obtain ⟨vs, rfl, ha⟩ := h.1
      exact ⟨⟨vs, rfl, nil_cells hi (by rw [← nth_get]; exact hn) ha⟩, h.2⟩
    | none =>
      rw [hn] at hp
      exact ⟨h.1, nil_Es hi hp h.2⟩
theorem nil_V {w : World} {I : Nat → Prop} {lk : List Value} {i : Nat} (hi : lk[i]? = some (.slice none 0 0)) {x : V} {u : Value} {p : Nat} (hp : x.cellP p = some .nil) (h : VRep w I lk x u) : VRep w I lk (x.setP p (.own i)) u := by
  cases x with
  | one c =>
    cases p with
    | zero => simp [V.cellP] at hp; subst hp; exact nil_own (w := w) (I := I) hi h
    | succ p => simp [V.cellP] at hp
  | agg l =>
    obtain ⟨vs, rfl, ha⟩ := h
    exact ⟨vs, rfl, nil_cells hi (by rw [← nth_get]; exact hp) ha⟩
  | tup l =>
    obtain ⟨vs, rfl, ha⟩ := h
    exact ⟨vs, rfl, nil_Es hi hp ha⟩
  | wh g c => simp [V.cellP] at hp
theorem lift1_sound {M : Nat → Prop} {w0 w : World} {lk : List Value} {σ : St} {a : Act} {pl : Plc} {Q : St → Prop} (h : lift1 pl σ Q) (hr : Rel X w lk σ a) (hi : Inv X M w0 w lk) :
    ∃ σ' lk', Q σ' ∧ Rel X w lk' σ' a ∧ Inv X M w0 w lk' := by
  unfold lift1 at h
  split at h
  · rename_i b p e t
    split at h
    · rename_i e0 l hb
      split at h
      · rename_i hl
        rw [litN_iff, St.mkAll_iff] at h
        rw [nth_get] at hb hl
        generalize hfi : freeI e t (refs σ) 0 σ.objs = i at h
        obtain ⟨hr1, hi1, hlki, hle, hown⟩ := nil_step hr hi hfi
        have hbi : b ≠ i := fun e => by
          subst e
          obtain ⟨e', t', xs, a, m, h2⟩ := hown (List.getElem?_eq_some_iff.1 hb).1
          rw [hb] at h2; cases h2
        have hlen : (setL σ.objs b (.box e0 (setL l p (.own i)))).length = σ.objs.length := by rw [setL_eq, List.length_set]
        have hlk : i ≤ lk.length := by rw [hr.lsz]; exact hle
        refine ⟨_, _, h, ORel.toR ⟨?_, fun k o v ho hk => ?_, hr1.dj, hr1.lt, hr1.nx, hr1.ll, fun q v0 o hq ho hko => ?_⟩ hr1.tsz (fun s x hx => hr1.tm s x hx) hr1.df, hi1⟩
        · exact setA_len2 (hr.lsz.trans hlen.symm)
        · rw [setA_get (by rw [hlen]; exact hle)] at ho
          by_cases hki : k = i
          · rw [if_pos hki] at ho
            exact hr1.ob k o v (by rw [setA_get hle, if_pos hki]; exact ho) hk
          · rw [if_neg hki, setL_eq, List.getElem?_set] at ho
            split at ho
            · rename_i hbk
              subst hbk
              split at ho
              · simp at ho; subst ho
                have h1 := hr1.ob b (.box e0 l) v (by rw [setA_get hle, if_neg hki]; exact hb) hk
                obtain ⟨b', cur, rfl, hh, ha⟩ := h1
                exact ⟨b', cur, rfl, hh, nil_cells hlki hl ha⟩
              · simp at ho
            · exact hr1.ob k o v (by rw [setA_get hle, if_neg hki]; exact ho) hk
        · rw [setA_get (by rw [hlen]; exact hle)] at ho
          by_cases hki : q = i
          · rw [if_pos hki] at ho
            exact hr1.kp q v0 o hq (by rw [setA_get hle, if_pos hki]; exact ho) hko
          · rw [if_neg hki, setL_eq, List.getElem?_set] at ho
            split at ho
            · rename_i hbk
              subst hbk
              exact hr1.kp b v0 (.box e0 l) hq (by rw [setA_get hle, if_neg hki]; exact hb) rfl
            · exact hr1.kp q v0 o hq (by rw [setA_get hle, if_neg hki]; exact ho) hko
      · exact ⟨σ, lk, h, hr, hi⟩
    · exact ⟨σ, lk, h, hr, hi⟩
  · rename_i p e t
    split at h
    · rename_i v hv
      split at h
      · rename_i hl
        rw [litN_iff, St.mkAll_iff] at h
        generalize hfi : freeI e t (refs σ) 0 σ.objs = i at h
        obtain ⟨hr1, hi1, hlki, hle, hown⟩ := nil_step hr hi hfi
        refine ⟨_, _, h, ORel.toR hr1.toO (by have := hr1.tsz; simp only [hv] at this; exact this) (fun s x hx => ?_) hr1.df, hi1⟩
        cases s with
        | zero =>
          simp at hx; subst hx
          exact nil_V hlki hl (hr1.tm 0 v (by simp only [hv]; rfl))
        | succ s => simp at hx
      · exact ⟨σ, lk, h, hr, hi⟩
    · exact ⟨σ, lk, h, hr, hi⟩
  · rename_i i
    split at h
    · rename_i e t xs ap m hb
      rw [St.mkAll_iff] at h
      rw [nth_get] at hb
      have hne : ∀ {k : Nat} {o : Ob}, (setL σ.objs i (.own e t xs ap true))[k]? = some o → (k = i ∧ o = .own e t xs ap true) ∨ (k ≠ i ∧ σ.objs[k]? = some o) := fun {k o} ho => by
        rw [setL_eq, List.getElem?_set] at ho
        split at ho
        · rename_i hik
          split at ho
          · simp at ho; exact .inl ⟨hik.symm, ho.symm⟩
          · simp at ho
        · rename_i hik; exact .inr ⟨fun e => hik e.symm, ho⟩
      refine ⟨_, lk, h, ORel.toR ⟨?_, fun k o v ho hk => ?_, hr.dj, hr.lt, hr.nx, hr.ll, fun q v0 o hq ho hko => ?_⟩ hr.tsz hr.tm hr.df, hi⟩
      · rw [setL_eq, List.length_set]; exact hr.lsz
      · rcases hne ho with ⟨rfl, rfl⟩ | ⟨_, ho⟩
        · exact hr.ob k (.own e t xs ap m) v hb hk
        · exact hr.ob k o v ho hk
      · rcases hne ho with ⟨rfl, rfl⟩ | ⟨_, ho⟩
        · cases hko
        · exact hr.kp q v0 o hq ho hko
    · exact ⟨σ, lk, h, hr, hi⟩
theorem liftS_sound {M : Nat → Prop} {w0 w : World} {a : Act} : ∀ {ps : List Plc} {σ : St} {lk : List Value} {Q : St → Prop}, liftS ps σ Q → Rel X w lk σ a → Inv X M w0 w lk → ∃ σ' lk', Q σ' ∧ Rel X w lk' σ' a ∧ Inv X M w0 w lk'
  | [], σ, lk, _, h, hr, hi => ⟨σ, lk, h, hr, hi⟩
  | p :: ps, σ, lk, _, h, hr, hi => by
    obtain ⟨σ1, lk1, h1, hr1, hi1⟩ := lift1_sound h hr hi
    exact liftS_sound h1 hr1 hi1
theorem SenseOK.lift {G : World → Prop} {f : FuncId} (ps : List Plc) {s s0 : Sense} (h : SenseOK G P f s0) (hro : s.ro = s0.ro) (hf : ∀ os xs K, s.f os xs K → s0.f os xs (liftP ps (len os) K)) : SenseOK G P f s := by
  refine SenseOK.mk fun X w lk os as_ vs K hdf hO hl0 hX hXG hgr has hs => ?_
  have hml : X.l0.length = len os := by rw [hl0, len_length, hO.lsz]
  refine (h X w lk os as_ vs _ hO hl0 hX hXG hgr has (hf _ _ _ hs)).mono ?_
  rw [hro]
  rintro e w' ⟨os', lk', out, hK, hO', hk, hn, hout⟩
  cases out with
  | pan c => exact ⟨os', lk', .pan c, hK, hO', hk, hn, hout⟩
  | ret v =>
    obtain ⟨u, rfl, hv⟩ := hout
    have hi : Inv X (fun b => ∃ v ∈ lk, blk v = some b) w w' lk' := ⟨⟨hk.os, hk.tape, hk.output, hk.size, fun k hk1 hk2 => hk.block k hk1 fun h => hk2 h.2⟩, hn, hX, fun b hb ⟨v, hv, hvb⟩ => by
      obtain ⟨i, hi⟩ := List.mem_iff_getElem?.1 hv
      exact hO.nx i v b hi hvb hb, hgr⟩
    have hr : Rel X w' lk' ⟨[v], os'⟩ { tmps := #[u], defers := [] } := ORel.toR hO' rfl (fun t x hx => by
      cases t with
      | zero => simp at hx; subst hx; exact hv
      | succ t => simp at hx) hdf.symm
    obtain ⟨σ1, lk1, h1, hr1, hi1⟩ := liftS_sound hK hr hi
    obtain ⟨σ2, lk2, h2, hr2, hi2⟩ := gc_sound h1 hr1 hi1 hml
    obtain ⟨ts, os2⟩ := σ2
    match ts, h2, hr2 with
    | [x], h2, hr2 => exact ⟨os2, lk2, .ret x, h2, hr2.toO, hk, hi2.news, u, rfl, hr2.tm 0 x rfl⟩
    | [], h2, _ => exact h2.elim
    | _ :: _ :: _, h2, _ => exact h2.elim
end Go.Proofs.YtilagaapfbfkkaaGreatDoor.Ab
namespace Go.Proofs.YtilagaapfbfkkaaGreatDoor.Ab
open Go Go.RowKit Go.Proofs.YtilagaapfbfkkaaGreatDoorW.PrintWords
set_option maxRecDepth 100000
variable {G : World → Prop}
theorem SenseOK.anyL {Γ : Sems} (hΓ : SemsOK G Tryz.prog Γ) {f : FuncId} {fn : Func} (L : Nat → List Nat) (ps : List Plc) {s : List Ob → List V → (List Ob → Out → Prop) → Prop} (hf : Tryz.prog.funcs[f]? = some fn)
    (h : ∀ os xs K, s os xs K → evFn TT Γ L fn os xs (liftP ps (len os) K)) : SenseOK G Tryz.prog f ⟨false, s⟩ :=
  SenseOK.lift ps (SenseOK.any hΓ L hf (s := fun os xs K => evFn TT Γ L fn os xs K) fun _ _ _ h => h) rfl h
abbrev IT : Ty := .int .i64
abbrev ST : Ty := .str
theorem seq_eq (a b : ByteArray) : (a.toList == b.toList) = decide (a = b) := by
  rw [Bool.eq_iff_iff, decide_eq_true_eq, beq_iff_eq]
  constructor
  · intro h
    apply ByteArray.ext
    apply Array.toList_inj.1
    rw [← ByteArray.toList_eq, ← ByteArray.toList_eq]
    exact h
  · intro h; rw [h]
def q23 : Sense := ⟨false, fun os xs K => ∃ a b : List Int, xs = [.one (.sl IT a), .one (.sl IT b)] ∧ os = [] ∧ a.length ≤ big ∧ b.length ≤ big ∧ K [] (.ret (.one (.bool (decide (a = b)))))⟩
theorem qk23 : SenseOK G Tryz.prog 23 q23 := SenseOK.any Γ0.ok (fun _ => [0, 1, 5]) Tryz.func23 fun os xs K h => by
  obtain ⟨a, b, rfl, rfl, hab, hbb, hk⟩ := h
  simp only [big] at hab hbb
  by_cases h0 : a.length = b.length
  case neg =>
    have hne : decide (a = b) = false := decide_eq_false fun h => h0 (by rw [h])
    rw [hne] at hk
    have f0 : ((a.length : Int) != b.length) = true := by simp; omega
    refine zs1 f0 ?_
    exact hk
  have f0 : ((a.length : Int) != b.length) = false := by simp; omega
  refine zs1 f0 ?_
  refine iter_of (I := fun k σ => ∃ (j : Nat), k = a.length - j ∧ j ≤ a.length ∧ (a.take j).map id = (b.take j).map id ∧ σ = ⟨slots 26 [(0, .one (.sl IT a)), (1, .one (.sl IT b)), (5, .one (.int .i64 j))], []⟩) ?_ a.length ⟨0, by omega, by omega, by simp, rfl⟩
  rintro k σ K' ⟨j, rfl, hj, hall, rfl⟩ hK'
  by_cases h1 : j < a.length
  case neg =>
    have f1 : decide ((j : Int) < a.length) = false := by simp; omega
    obtain rfl : j = a.length := by omega
    rw [List.take_length, List.take_of_length_le (by omega), List.map_id, List.map_id] at hall
    have hd0 : decide (a = b) = true := decide_eq_true hall
    rw [hd0] at hk
    refine zs1 f1 ?_
    exact hk
  have f1 : decide ((j : Int) < a.length) = true := by simpa using h1
  obtain ⟨x, hx⟩ : ∃ x, a[j]? = some x := ⟨_, List.getElem?_eq_getElem h1⟩
  obtain ⟨y, hy⟩ : ∃ y, b[j]? = some y := ⟨_, List.getElem?_eq_getElem (by omega)⟩
  have rx := nth_of hx (IT).dflt
  have ry := nth_of hy (IT).dflt
  have w1 := IntWalk.i64_in (↑j + 1) (by omega)
  refine zs1 f1 ?_
  refine ⟨[], .take 0 (.take 1 (.take 2 (.take 3 (.take 4 (.take 5 (.take 6 (.take 7 (.take 8 .done)))))))), ⟨by kernel_rfl⟩, ?_⟩
  refine zv ?_
  rw [rx, ry]
  by_cases hxy : x = y
  · have e1 : (x != y) = false := by simpa using hxy
    refine zs2 e1 w1 ?_
    exact hK' _ _ (by omega) ⟨j + 1, rfl, by omega, eq_step hx hy hall (by rw [hxy]), rfl⟩
  · have e1 : (x != y) = true := by simpa using hxy
    have hne : decide (a = b) = false := by simpa using ne_step (f := id) hx hy hxy
    rw [hne] at hk
    refine zs1 e1 ?_
    exact hk
def q121 : Sense := ⟨false, fun os xs K => ∃ a b : List ByteArray, xs = [.one (.sl ST a), .one (.sl ST b)] ∧ os = [] ∧ a.length ≤ big ∧ b.length ≤ big ∧ K [] (.ret (.one (.bool (decide (a = b)))))⟩
theorem qk121 : SenseOK G Tryz.prog 121 q121 := SenseOK.any Γ0.ok (fun _ => [0, 1, 5]) Tryz.func121 fun os xs K h => by
  obtain ⟨a, b, rfl, rfl, hab, hbb, hk⟩ := h
  simp only [big] at hab hbb
  by_cases h0 : a.length = b.length
  case neg =>
    have hne : decide (a = b) = false := decide_eq_false fun h => h0 (by rw [h])
    rw [hne] at hk
    have f0 : ((a.length : Int) != b.length) = true := by simp; omega
    refine zs1 f0 ?_
    exact hk
  have f0 : ((a.length : Int) != b.length) = false := by simp; omega
  refine zs1 f0 ?_
  refine iter_of (I := fun k σ => ∃ (j : Nat), k = a.length - j ∧ j ≤ a.length ∧ (a.take j).map id = (b.take j).map id ∧ σ = ⟨slots 26 [(0, .one (.sl ST a)), (1, .one (.sl ST b)), (5, .one (.int .i64 j))], []⟩) ?_ a.length ⟨0, by omega, by omega, by simp, rfl⟩
  rintro k σ K' ⟨j, rfl, hj, hall, rfl⟩ hK'
  by_cases h1 : j < a.length
  case neg =>
    have f1 : decide ((j : Int) < a.length) = false := by simp; omega
    obtain rfl : j = a.length := by omega
    rw [List.take_length, List.take_of_length_le (by omega), List.map_id, List.map_id] at hall
    have hd0 : decide (a = b) = true := decide_eq_true hall
    rw [hd0] at hk
    refine zs1 f1 ?_
    exact hk
  have f1 : decide ((j : Int) < a.length) = true := by simpa using h1
  obtain ⟨x, hx⟩ : ∃ x, a[j]? = some x := ⟨_, List.getElem?_eq_getElem h1⟩
  obtain ⟨y, hy⟩ : ∃ y, b[j]? = some y := ⟨_, List.getElem?_eq_getElem (by omega)⟩
  have rx := nth_of hx (ST).dflt
  have ry := nth_of hy (ST).dflt
  have w1 := IntWalk.i64_in (↑j + 1) (by omega)
  refine zs1 f1 ?_
  refine ⟨[], .take 0 (.take 1 (.take 2 (.take 3 (.take 4 (.take 5 (.take 6 (.take 7 (.take 8 .done)))))))), ⟨by kernel_rfl⟩, ?_⟩
  refine zv ?_
  rw [rx, ry]
  by_cases hxy : x = y
  · have e1 : (!(x.toList == y.toList)) = false := by rw [seq_eq, decide_eq_true hxy]; rfl
    refine zs2 e1 w1 ?_
    exact hK' _ _ (by omega) ⟨j + 1, rfl, by omega, eq_step hx hy hall (by rw [hxy]), rfl⟩
  · have e1 : (!(x.toList == y.toList)) = true := by rw [seq_eq, decide_eq_false hxy]; rfl
    have hne : decide (a = b) = false := by simpa using ne_step (f := id) hx hy hxy
    rw [hne] at hk
    refine zs1 e1 ?_
    exact hk
def q116 : Sense := ⟨false, fun os xs K => ∃ a : List Int, xs = [.one (.sl IT a)] ∧ os = [] ∧ a.length ≤ big ∧ ∀ mv, K [.own 3 IT a true mv] (.ret (.one (.own 0)))⟩
theorem qk116 : SenseOK G Tryz.prog 116 q116 := SenseOK.anyL Γ0.ok (fun _ => [0, 3, 4]) [.out 0 3 IT] Tryz.func116 fun os xs K h => by
  obtain ⟨a, rfl, rfl, hab, hk⟩ := h
  simp only [big] at hab
  by_cases hz : a = []
  · subst hz
    refine zv ?_
    refine ⟨1, ?_⟩
    refine zv ?_
    exact hk _
  refine zv ?_
  refine iter_of (I := fun k σ => ∃ (j : Nat) (mv : Bool), k = a.length - j ∧ j ≤ a.length ∧
    ((j = 0 ∧ σ = ⟨slots 19 [(0, .one (.sl IT a)), (3, .one .nil), (4, .one (.int .i64 j))], []⟩) ∨
     (j ≠ 0 ∧ σ = ⟨slots 19 [(0, .one (.sl IT a)), (3, .one (.own 0)), (4, .one (.int .i64 j))], [.own 3 IT (a.take j) true mv]⟩))) ?_ a.length ⟨0, false, by omega, by omega, .inl ⟨rfl, rfl⟩⟩
  rintro k σ K' ⟨j, mv, rfl, hj, hσ⟩ hK'
  have w1 := IntWalk.i64_in (↑j + 1) (by omega)
  by_cases h1 : j < a.length
  case neg =>
    have f1 : decide ((j : Int) < a.length) = false := by simp; omega
    obtain rfl : j = a.length := by omega
    have hne : a.length ≠ 0 := fun h => hz (List.length_eq_zero_iff.1 h)
    rcases hσ with ⟨h, _⟩ | ⟨_, rfl⟩
    · exact absurd h hne
    · rw [List.take_length]
      refine zs1 f1 ?_
      exact hk mv
  have f1 : decide ((j : Int) < a.length) = true := by simpa using h1
  obtain ⟨x, hx⟩ : ∃ x, a[j]? = some x := ⟨_, List.getElem?_eq_getElem h1⟩
  have rx := nth_of hx (IT).dflt
  have ht : a.take (j + 1) = a.take j ++ [x] := by rw [List.take_add_one, hx]; rfl
  have htl : (a.take j).length = j := by rw [List.length_take]; omega
  rcases hσ with ⟨rfl, rfl⟩ | ⟨hj0, rfl⟩
  · refine zs3 f1 rx w1 ?_
    refine hK' _ _ (by omega) ⟨1, false, rfl, by omega, .inr ⟨by omega, ?_⟩⟩
    rw [ht]
    rfl
  · refine zs4 f1 rx htl w1 ?_
    refine hK' _ _ (by omega) ⟨j + 1, true, rfl, by omega, .inr ⟨by omega, ?_⟩⟩
    rw [ht]
    rfl
def q117 : Sense := ⟨false, fun os xs K => ∃ a : List ByteArray, xs = [.one (.sl ST a)] ∧ os = [] ∧ a.length ≤ big ∧ ∀ mv, K [.own 9 ST a true mv] (.ret (.one (.own 0)))⟩
theorem qk117 : SenseOK G Tryz.prog 117 q117 := SenseOK.anyL Γ0.ok (fun _ => [0, 3, 4]) [.out 0 9 ST] Tryz.func117 fun os xs K h => by
  obtain ⟨a, rfl, rfl, hab, hk⟩ := h
  simp only [big] at hab
  by_cases hz : a = []
  · subst hz
    refine zv ?_
    refine ⟨1, ?_⟩
    refine zv ?_
    exact hk _
  refine zv ?_
  refine iter_of (I := fun k σ => ∃ (j : Nat) (mv : Bool), k = a.length - j ∧ j ≤ a.length ∧
    ((j = 0 ∧ σ = ⟨slots 19 [(0, .one (.sl ST a)), (3, .one .nil), (4, .one (.int .i64 j))], []⟩) ∨
     (j ≠ 0 ∧ σ = ⟨slots 19 [(0, .one (.sl ST a)), (3, .one (.own 0)), (4, .one (.int .i64 j))], [.own 9 ST (a.take j) true mv]⟩))) ?_ a.length ⟨0, false, by omega, by omega, .inl ⟨rfl, rfl⟩⟩
  rintro k σ K' ⟨j, mv, rfl, hj, hσ⟩ hK'
  have w1 := IntWalk.i64_in (↑j + 1) (by omega)
  by_cases h1 : j < a.length
  case neg =>
    have f1 : decide ((j : Int) < a.length) = false := by simp; omega
    obtain rfl : j = a.length := by omega
    have hne : a.length ≠ 0 := fun h => hz (List.length_eq_zero_iff.1 h)
    rcases hσ with ⟨h, _⟩ | ⟨_, rfl⟩
    · exact absurd h hne
    · rw [List.take_length]
      refine zs1 f1 ?_
      exact hk mv
  have f1 : decide ((j : Int) < a.length) = true := by simpa using h1
  obtain ⟨x, hx⟩ : ∃ x, a[j]? = some x := ⟨_, List.getElem?_eq_getElem h1⟩
  have rx := nth_of hx (ST).dflt
  have ht : a.take (j + 1) = a.take j ++ [x] := by rw [List.take_add_one, hx]; rfl
  have htl : (a.take j).length = j := by rw [List.length_take]; omega
  rcases hσ with ⟨rfl, rfl⟩ | ⟨hj0, rfl⟩
  · refine zs3 f1 rx w1 ?_
    refine hK' _ _ (by omega) ⟨1, false, rfl, by omega, .inr ⟨by omega, ?_⟩⟩
    rw [ht]
    rfl
  · refine zs4 f1 rx htl w1 ?_
    refine hK' _ _ (by omega) ⟨j + 1, true, rfl, by omega, .inr ⟨by omega, ?_⟩⟩
    rw [ht]
    rfl
def q38 : Sense := ⟨false, fun os xs K => ∃ a : List Int, xs = [.one (.sl IT a)] ∧ os = [] ∧ a.length ≤ big ∧ ∀ mv, K [.own 3 IT a true mv] (.ret (.one (.own 0)))⟩
theorem qk38 : SenseOK G Tryz.prog 38 q38 := SenseOK.anyL Γ0.ok (fun _ => []) [.out 0 3 IT] Tryz.func38 fun os xs K h => by
  obtain ⟨a, rfl, rfl, hb, hk⟩ := h
  simp only [big] at hb
  have b0 : ((([] : List Int).length + a.length) * 16) ≤ 140737488355328 := by simp; omega
  have b1 : ((([] : List Int).length + a.length) * 8) ≤ 140737488355328 := by simp; omega
  cases a with
  | nil =>
    refine zv ?_
    refine Both.mk ?_ ?_
    · refine zv ?_
      exact hk _
    · refine zv ?_
      exact hk _
  | cons x a =>
    refine zv ?_
    exact hk _
def q62 : Sense := ⟨false, fun os xs K => ∃ a : List ByteArray, xs = [.one (.sl ST a)] ∧ os = [] ∧ a.length ≤ big ∧ ∀ mv, K [.own 9 ST a true mv] (.ret (.one (.own 0)))⟩
theorem qk62 : SenseOK G Tryz.prog 62 q62 := SenseOK.anyL Γ0.ok (fun _ => []) [.out 0 9 ST] Tryz.func62 fun os xs K h => by
  obtain ⟨a, rfl, rfl, hb, hk⟩ := h
  simp only [big] at hb
  have b0 : ((([] : List ByteArray).length + a.length) * 16) ≤ 140737488355328 := by simp; omega
  have b1 : ((([] : List ByteArray).length + a.length) * 8) ≤ 140737488355328 := by simp; omega
  cases a with
  | nil =>
    refine zv ?_
    refine Both.mk ?_ ?_
    · refine zv ?_
      exact hk _
    · refine zv ?_
      exact hk _
  | cons x a =>
    refine zv ?_
    exact hk _
def q74 : Sense := ⟨false, fun os xs K => ∃ (a : List Int) (ap : Bool), xs = [.one (.own 0)] ∧ os = [.own 3 IT a true false] ∧ a.length ≤ big ∧ ∀ b, K [.own 3 IT b true true] (.ret (.tup []))⟩
theorem qk74 : SenseOK G Tryz.prog 74 q74 := SenseOK.any Γ0.ok (fun _ => [0, 2]) Tryz.func74 fun os xs K h => by
  obtain ⟨a, ap, rfl, rfl, hab, hk⟩ := h
  simp only [big] at hab
  refine zv ?_
  refine iter_of (I := fun k σ => ∃ (j : Nat) (b : List Int), k = a.length - j ∧ j ≤ a.length ∧ b.length = a.length ∧ σ = ⟨slots 15 [(0, .one (.own 0)), (2, .one (.int .i64 j))], [.own 3 IT b true false]⟩) ?_ a.length ⟨0, a, by omega, by omega, rfl, rfl⟩
  rintro k σ K' ⟨j, b, rfl, hj, hb, rfl⟩ hK'
  have w1 := IntWalk.i64_in (↑j + 1) (by omega)
  by_cases h1 : j < b.length
  case neg =>
    have f1 : decide ((j : Int) < b.length) = false := by simp; omega
    have hb2 : (b.length + [(5 : Int)].length) * 16 ≤ 140737488355328 := by simp; omega
    have hb3 : (b.length + [(5 : Int)].length) * 8 ≤ 140737488355328 := by simp; omega
    refine zs1 f1 ?_
    exact hk _
  have f1 : decide ((j : Int) < b.length) = true := by simpa using h1
  have hh : (0 : Int) ≤ j ∧ (j : Int) < b.length := ⟨by omega, by omega⟩
  refine zs2 f1 w1 ?_
  exact hK' _ _ (by omega) ⟨j + 1, _, rfl, by omega, by rw [List.length_set]; exact hb, rfl⟩
def q126 : Sense := ⟨false, fun os xs K => ∃ (a : List ByteArray) (ap : Bool), xs = [.one (.own 0)] ∧ os = [.own 9 ST a true false] ∧ a.length ≤ big ∧ ∀ b, K [.own 9 ST b true true] (.ret (.tup []))⟩
theorem qk126 : SenseOK G Tryz.prog 126 q126 := SenseOK.any Γ0.ok (fun _ => [0, 2]) Tryz.func126 fun os xs K h => by
  obtain ⟨a, ap, rfl, rfl, hab, hk⟩ := h
  simp only [big] at hab
  refine zv ?_
  refine iter_of (I := fun k σ => ∃ (j : Nat) (b : List ByteArray), k = a.length - j ∧ j ≤ a.length ∧ b.length = a.length ∧ σ = ⟨slots 15 [(0, .one (.own 0)), (2, .one (.int .i64 j))], [.own 9 ST b true false]⟩) ?_ a.length ⟨0, a, by omega, by omega, rfl, rfl⟩
  rintro k σ K' ⟨j, b, rfl, hj, hb, rfl⟩ hK'
  have w1 := IntWalk.i64_in (↑j + 1) (by omega)
  by_cases h1 : j < b.length
  case neg =>
    have f1 : decide ((j : Int) < b.length) = false := by simp; omega
    have hb2 : (b.length + [(⟨#[63]⟩ : ByteArray)].length) * 16 ≤ 140737488355328 := by simp; omega
    have hb3 : (b.length + [(⟨#[63]⟩ : ByteArray)].length) * 8 ≤ 140737488355328 := by simp; omega
    refine zs1 f1 ?_
    exact hk _
  have f1 : decide ((j : Int) < b.length) = true := by simpa using h1
  have hh : (0 : Int) ≤ j ∧ (j : Int) < b.length := ⟨by omega, by omega⟩
  refine zs2 f1 w1 ?_
  exact hK' _ _ (by omega) ⟨j + 1, _, rfl, by omega, by rw [List.length_set]; exact hb, rfl⟩
structure Sd where
  (id jm jt : Int) (dom : ByteArray) (rc : List Int) (lm : Bool) (st at_ : Int) (tk cd : List Int) (wt : Int) (rest : ByteArray) (skip : Bool) (ln : List ByteArray)
  deriving DecidableEq
def Sd.cs (s : Sd) (r t c l : C) : List C := [.int .i64 s.id, .int .i64 s.jm, .int .i64 s.jt, .str s.dom, r, .bool s.lm, .int .i64 s.st, .int .i64 s.at_, t, c, .int .i64 s.wt, .str s.rest, .bool s.skip, l]
abbrev Sd.fz (s : Sd) : List C := s.cs (.sl IT s.rc) (.sl IT s.tk) (.sl IT s.cd) (.sl ST s.ln)
abbrev Sd.ow (s : Sd) (k : Nat) : List C := s.cs (.own k) (.own (k + 1)) (.own (k + 2)) (.own (k + 3))
def Sd.sml (s : Sd) : Prop := s.rc.length ≤ big ∧ s.tk.length ≤ big ∧ s.cd.length ≤ big ∧ s.ln.length ≤ big
structure Jb where
  (m t : Int) (dom : ByteArray) (rc : List Int)
  deriving DecidableEq
def Jb.cs (j : Jb) (r : C) : List C := [.int .i64 j.m, .int .i64 j.t, .str j.dom, r]
abbrev Jb.fz (j : Jb) : List C := j.cs (.sl IT j.rc)
def Sd.jb (s : Sd) : Jb := ⟨s.jm, s.jt, s.dom, s.rc⟩
def Γ79q : Sems := ext 116 q116 (Γ0)
theorem Γ79q.ok : SemsOK G Tryz.prog Γ79q := (Γ0.ok.ext Tryz.func116 rfl (by decide) qk116)
def q79 : Sense := ⟨false, fun os xs K => ∃ j : Jb, xs = [.agg j.fz] ∧ os = [] ∧ j.rc.length ≤ big ∧ ∀ mv, K [.own 3 IT j.rc true mv] (.ret (.agg (j.cs (.own 0))))⟩
theorem qk79 : SenseOK G Tryz.prog 79 q79 := SenseOK.any Γ79q.ok (fun _ => []) Tryz.func79 fun os xs K h => by
  obtain ⟨j, rfl, rfl, hl, hk⟩ := h
  refine zs0 ?_
  intro mv
  refine zs0 ?_
  exact hk _
def Γ69q : Sems := ext 117 q117 (ext 116 q116 (ext 79 q79 (Γ0)))
theorem Γ69q.ok : SemsOK G Tryz.prog Γ69q := (((Γ0.ok.ext Tryz.func79 rfl (by decide) qk79).ext Tryz.func116 rfl (by decide) qk116).ext Tryz.func117 rfl (by decide) qk117)
def q69 : Sense := ⟨false, fun os xs K => ∃ s : Sd, xs = [.agg s.fz] ∧ os = [] ∧ s.sml ∧ ∀ m0 m1 m2 m3, K [.own 3 IT s.rc true m0, .own 3 IT s.tk true m1, .own 3 IT s.cd true m2, .own 9 ST s.ln true m3] (.ret (.agg (s.ow 0)))⟩
theorem qk69 : SenseOK G Tryz.prog 69 q69 := SenseOK.any Γ69q.ok (fun _ => []) Tryz.func69 fun os xs K h => by
  obtain ⟨s, rfl, rfl, ⟨l0, l1, l2, l3⟩, hk⟩ := h
  refine zy ?_
  refine ⟨s.jb, rfl, rfl, l0, fun mv => ?_⟩
  refine zv ?_
  intro mv
  refine zv ?_
  intro mv
  refine zv ?_
  intro mv
  refine zv ?_
  exact hk _ _ _ _
def Γ120q : Sems := ext 23 q23 (Γ0)
theorem Γ120q.ok : SemsOK G Tryz.prog Γ120q := (Γ0.ok.ext Tryz.func23 rfl (by decide) qk23)
def q120 : Sense := ⟨false, fun os xs K => ∃ a b : Jb, xs = [.agg a.fz, .agg b.fz] ∧ os = [] ∧ a.rc.length ≤ big ∧ b.rc.length ≤ big ∧ K [] (.ret (.one (.bool (decide (a = b)))))⟩
theorem qk120 : SenseOK G Tryz.prog 120 q120 := SenseOK.any Γ120q.ok (fun _ => []) Tryz.func120 fun os xs K h => by
  obtain ⟨a, b, rfl, rfl, ha, hb, hk⟩ := h
  have no : ¬ a = b → K [] (.ret (.one (.bool false))) := fun h => by
    rw [decide_eq_false h] at hk; exact hk
  obtain ⟨am, at_, ad, ar⟩ := a
  obtain ⟨bm, bt, bd, brr⟩ := b
  simp only at ha hb
  by_cases h1 : am = bm
  case neg =>
    have f1 : (am == bm) = false := by simpa using h1
    refine zs1 f1 ?_
    exact no (fun h => h1 (by cases h; simp))
  have f1 : (am == bm) = true := by simpa using h1
  by_cases h2 : at_ = bt
  case neg =>
    have f2 : (at_ == bt) = false := by simpa using h2
    refine zs2 f1 f2 ?_
    exact no (fun h => h2 (by cases h; simp))
  have f2 : (at_ == bt) = true := by simpa using h2
  by_cases h3 : ad = bd
  case neg =>
    have f3 : (ad.toList == bd.toList) = false := by rw [seq_eq]; exact decide_eq_false h3
    refine zs3 f1 f2 f3 ?_
    exact no (fun h => h3 (by cases h; simp))
  have f3 : (ad.toList == bd.toList) = true := by rw [seq_eq]; exact decide_eq_true h3
  by_cases h4 : ar = brr
  case neg =>
    have f4 : decide (ar = brr) = false := decide_eq_false h4
    refine zs4 f1 f2 f3 f4 ?_
    exact no (fun h => h4 (by cases h; simp))
  have f4 : decide (ar = brr) = true := decide_eq_true h4
  have hfin : decide (Jb.mk am at_ ad ar = Jb.mk bm bt bd brr) = true := decide_eq_true (by rw [h1, h2, h3, h4])
  rw [hfin] at hk
  refine zs4 f1 f2 f3 f4 ?_
  exact hk
def Γ75q : Sems := ext 121 q121 (ext 23 q23 (ext 120 q120 (Γ0)))
theorem Γ75q.ok : SemsOK G Tryz.prog Γ75q := (((Γ0.ok.ext Tryz.func120 rfl (by decide) qk120).ext Tryz.func23 rfl (by decide) qk23).ext Tryz.func121 rfl (by decide) qk121)
def q75 : Sense := ⟨false, fun os xs K => ∃ a b : Sd, xs = [.agg a.fz, .agg b.fz] ∧ os = [] ∧ a.sml ∧ b.sml ∧ K [] (.ret (.one (.bool (decide (a = b)))))⟩
theorem qk75 : SenseOK G Tryz.prog 75 q75 := SenseOK.any Γ75q.ok (fun _ => []) Tryz.func75 fun os xs K h => by
  obtain ⟨a, b, rfl, rfl, ha, hb, hk⟩ := h
  have no : ¬ a = b → K [] (.ret (.one (.bool false))) := fun h => by
    rw [decide_eq_false h] at hk; exact hk
  obtain ⟨ai, am, at_, ad, ar, al, as_, ap, ak, ac, aw, af, ag, an⟩ := a
  obtain ⟨bi, bm, bt, bd, brr, bl_, bs, bp, bk, bc, bw, bf, bg, bn⟩ := b
  obtain ⟨ha0, ha1, ha2, ha3⟩ := ha
  obtain ⟨hb0, hb1, hb2, hb3⟩ := hb
  simp only at ha0 ha1 ha2 ha3 hb0 hb1 hb2 hb3
  by_cases h1 : ai = bi
  case neg =>
    have f1 : (ai == bi) = false := by simpa using h1
    refine zs1 f1 ?_
    exact no (fun h => h1 (by cases h; simp))
  have f1 : (ai == bi) = true := by simpa using h1
  by_cases h2 : Jb.mk am at_ ad ar = Jb.mk bm bt bd brr
  case neg =>
    have f2 : decide (Jb.mk am at_ ad ar = Jb.mk bm bt bd brr) = false := decide_eq_false h2
    refine zs1 f1 ?_
    refine ⟨⟨am, at_, ad, ar⟩, ⟨bm, bt, bd, brr⟩, rfl, (by first | exact True.intro | rfl), ha0, hb0, ?_⟩
    refine zs2 f1 f2 ?_
    exact no (fun h => h2 (by cases h; simp))
  have f2 : decide (Jb.mk am at_ ad ar = Jb.mk bm bt bd brr) = true := decide_eq_true h2
  by_cases h3 : al = bl_
  case neg =>
    have f3 : (al == bl_) = false := by simpa using h3
    refine zs1 f1 ?_
    refine ⟨⟨am, at_, ad, ar⟩, ⟨bm, bt, bd, brr⟩, rfl, (by first | exact True.intro | rfl), ha0, hb0, ?_⟩
    refine zs3 f1 f2 f3 ?_
    exact no (fun h => h3 (by cases h; simp))
  have f3 : (al == bl_) = true := by simpa using h3
  by_cases h4 : as_ = bs
  case neg =>
    have f4 : (as_ == bs) = false := by simpa using h4
    refine zs1 f1 ?_
    refine ⟨⟨am, at_, ad, ar⟩, ⟨bm, bt, bd, brr⟩, rfl, (by first | exact True.intro | rfl), ha0, hb0, ?_⟩
    refine zs4 f1 f2 f3 f4 ?_
    exact no (fun h => h4 (by cases h; simp))
  have f4 : (as_ == bs) = true := by simpa using h4
  by_cases h5 : ap = bp
  case neg =>
    have f5 : (ap == bp) = false := by simpa using h5
    refine zs1 f1 ?_
    refine ⟨⟨am, at_, ad, ar⟩, ⟨bm, bt, bd, brr⟩, rfl, (by first | exact True.intro | rfl), ha0, hb0, ?_⟩
    refine zs5 f1 f2 f3 f4 f5 ?_
    exact no (fun h => h5 (by cases h; simp))
  have f5 : (ap == bp) = true := by simpa using h5
  by_cases h6 : ak = bk
  case neg =>
    have f6 : decide (ak = bk) = false := decide_eq_false h6
    refine zs1 f1 ?_
    refine ⟨⟨am, at_, ad, ar⟩, ⟨bm, bt, bd, brr⟩, rfl, (by first | exact True.intro | rfl), ha0, hb0, ?_⟩
    refine zs6 f1 f2 f3 f4 f5 f6 ?_
    exact no (fun h => h6 (by cases h; simp))
  have f6 : decide (ak = bk) = true := decide_eq_true h6
  by_cases h7 : ac = bc
  case neg =>
    have f7 : decide (ac = bc) = false := decide_eq_false h7
    refine zs1 f1 ?_
    refine ⟨⟨am, at_, ad, ar⟩, ⟨bm, bt, bd, brr⟩, rfl, (by first | exact True.intro | rfl), ha0, hb0, ?_⟩
    refine zs7 f1 f2 f3 f4 f5 f6 f7 ?_
    exact no (fun h => h7 (by cases h; simp))
  have f7 : decide (ac = bc) = true := decide_eq_true h7
  by_cases h8 : aw = bw
  case neg =>
    have f8 : (aw == bw) = false := by simpa using h8
    refine zs1 f1 ?_
    refine ⟨⟨am, at_, ad, ar⟩, ⟨bm, bt, bd, brr⟩, rfl, (by first | exact True.intro | rfl), ha0, hb0, ?_⟩
    refine zs8 f1 f2 f3 f4 f5 f6 f7 f8 ?_
    exact no (fun h => h8 (by cases h; simp))
  have f8 : (aw == bw) = true := by simpa using h8
  by_cases h9 : af = bf ∧ ag = bg
  case neg =>
    have f9 : (af.toList == bf.toList && ((ag == bg) && true)) = false := by rw [seq_eq]; simpa using h9
    refine zs1 f1 ?_
    refine ⟨⟨am, at_, ad, ar⟩, ⟨bm, bt, bd, brr⟩, rfl, (by first | exact True.intro | rfl), ha0, hb0, ?_⟩
    ((conv => whnf); repeat ((first | refine Br.t ?_ | refine Br.f ?_ | refine ob ?_ | refine ⟨_, rfl, ?_⟩ | refine ⟨_, _, rfl, ?_⟩ | refine ⟨_, _, _, rfl, ?_⟩ | refine ⟨_, _, _, _, rfl, ?_⟩ | simp only [f1, f2, f3, f4, f5, f6, f7, f8, f9]); (conv => whnf)))
    exact no (fun h => h9 (by cases h; simp))
  have f9 : (af.toList == bf.toList && ((ag == bg) && true)) = true := by rw [seq_eq, decide_eq_true h9.1]; simpa using h9.2
  by_cases h10 : an = bn
  case neg =>
    have f10 : decide (an = bn) = false := decide_eq_false h10
    refine zs1 f1 ?_
    refine ⟨⟨am, at_, ad, ar⟩, ⟨bm, bt, bd, brr⟩, rfl, (by first | exact True.intro | rfl), ha0, hb0, ?_⟩
    ((conv => whnf); repeat ((first | refine Br.t ?_ | refine Br.f ?_ | refine ob ?_ | refine ⟨_, rfl, ?_⟩ | refine ⟨_, _, rfl, ?_⟩ | refine ⟨_, _, _, rfl, ?_⟩ | refine ⟨_, _, _, _, rfl, ?_⟩ | simp only [f1, f2, f3, f4, f5, f6, f7, f8, f9, f10]); (conv => whnf)))
    exact no (fun h => h10 (by cases h; simp))
  have f10 : decide (an = bn) = true := decide_eq_true h10
  have hfin : decide (Sd.mk ai am at_ ad ar al as_ ap ak ac aw af ag an = Sd.mk bi bm bt bd brr bl_ bs bp bk bc bw bf bg bn) = true := decide_eq_true (by obtain ⟨h9a, h9b⟩ := h9; cases h2; cases h1; cases h3; cases h4; cases h5; cases h6; cases h7; cases h8; cases h9a; cases h9b; cases h10; rfl)
  rw [hfin] at hk
  refine zs1 f1 ?_
  refine ⟨⟨am, at_, ad, ar⟩, ⟨bm, bt, bd, brr⟩, rfl, (by first | exact True.intro | rfl), ha0, hb0, ?_⟩
  ((conv => whnf); repeat ((first | refine Br.t ?_ | refine Br.f ?_ | refine ob ?_ | refine ⟨_, rfl, ?_⟩ | refine ⟨_, _, rfl, ?_⟩ | refine ⟨_, _, _, rfl, ?_⟩ | refine ⟨_, _, _, _, rfl, ?_⟩ | simp only [f1, f2, f3, f4, f5, f6, f7, f8, f9, f10]); (conv => whnf)))
  exact hk
def crlf (c : Int) : Bool := c == 13 || c == 10
def cleanL (l : List Int) : Bool := !l.any crlf && decide (l.length ≤ 509)
def s71 : Sense := pureS fun xs K => ∃ s, xs = [.one (.str s)] ∧ s.size ≤ big ∧ K (.ret (.one (.bool (cleanL (bl s)))))
theorem ok71 : SenseOK G Tryz.prog 30 s71 := SenseOK.pure Γ0.ok (fun _ => [0, 3]) Tryz.func30 fun xs K h => by
  obtain ⟨s, rfl, hb, hk⟩ := h
  simp only [big] at hb
  have hlen := bl_len s
  refine zv ?_
  refine iter_of (I := fun k σ => ∃ (j : Nat), k = s.size - j ∧ j ≤ s.size ∧ ((bl s).take j).any crlf = false ∧ σ = ⟨slots 23 [(0, .one (.str s)), (3, .one (.int .i64 j))], []⟩) ?_ s.size ⟨0, by omega, by omega, rfl, rfl⟩
  rintro k σ K' ⟨j, rfl, hj, hn, rfl⟩ hK'
  have w1 := IntWalk.i64_in ((j : Int) + 1) (by omega)
  by_cases h1 : j < s.size
  case neg =>
    have f1 : decide ((j : Int) < s.size) = false := by simp; omega
    obtain rfl : j = s.size := by omega
    rw [List.take_of_length_le (by omega)] at hn
    have hc : cleanL (bl s) = decide ((s.size : Int) ≤ 509) := by rw [cleanL, hn, hlen]; simp; omega
    rw [hc] at hk
    refine zs1 f1 ?_
    exact hk
  have f1 : decide ((j : Int) < s.size) = true := by simpa using h1
  have hg := bl_get h1
  by_cases g1 : bt s j = 13
  · have e1 : (bt s j == 13) = true := by simpa using g1
    have hc : cleanL (bl s) = false := by rw [cleanL, any_at hg (by rw [crlf, e1]; rfl)]; rfl
    rw [hc] at hk
    refine zs2 f1 e1 ?_
    exact hk
  have e1 : (bt s j == 13) = false := by simpa using g1
  by_cases g2 : bt s j = 10
  · have e2 : (bt s j == 10) = true := by simpa using g2
    have hc : cleanL (bl s) = false := by rw [cleanL, any_at hg (by rw [crlf, e2, Bool.or_true])]; rfl
    rw [hc] at hk
    refine zs3 f1 e1 e2 ?_
    exact hk
  have e2 : (bt s j == 10) = false := by simpa using g2
  refine zs4 f1 e1 e2 w1 ?_
  exact hK' _ _ (by omega) ⟨j + 1, rfl, by omega, any_take_next hg hn (by rw [crlf, e1, e2]; rfl), rfl⟩
def rowsB : List Int → List Int → Bool
  | u, [] => decide (u = [])
  | u, c :: X => if u.getLast? = some 13 ∧ c = 10 then cleanL u.dropLast && rowsB [] X else rowsB (u ++ [c]) X
theorem rowsB_end {u : List Int} {c : Int} {X : List Int} (h1 : u.getLast? = some 13) (h2 : c = 10) : rowsB u (c :: X) = (cleanL u.dropLast && rowsB [] X) := by
  rw [rowsB, if_pos ⟨h1, h2⟩]
theorem rowsB_go {u : List Int} {c : Int} {X : List Int} (h : ¬ (u.getLast? = some 13 ∧ c = 10)) : rowsB u (c :: X) = rowsB (u ++ [c]) X := by
  rw [rowsB, if_neg h]
theorem cut_next {l : List Int} {e j : Nat} {x : Int} (h : l[j]? = some x) (he : e ≤ j) : (l.take (j + 1)).drop e = (l.take j).drop e ++ [x] := by
  have h1 : j < l.length := (List.getElem?_eq_some_iff.1 h).1
  rw [List.take_add_one, h, List.drop_append_of_le_length (by rw [List.length_take]; omega)]; rfl
theorem cut_last {l : List Int} {e j : Nat} (he : e ≤ j) (hj : j < l.length) : ((l.take (j + 1)).drop e).getLast? = l[j]? := by
  rw [cut_next (List.getElem?_eq_getElem hj) he, List.getLast?_concat, List.getElem?_eq_getElem hj]
def mayT (l : List Int) : Bool := decide (l.length ≤ 8192) && rowsB [] l
def s48 : Sense := ⟨false, fun os xs K => ∃ s, xs = [.one (.str s)] ∧ os = [] ∧ s.size ≤ big ∧
  K [] (.ret (.tup [.one .nil, .one (.bool (mayT (bl s)))])) ∧ (∀ rows mv, K [.own 9 .str rows true mv] (.ret (.tup [.one (.own 0), .one (.bool (mayT (bl s)))])))⟩
def Γ48 : Sems := ext 30 s71 Γ0
theorem Γ48.ok : SemsOK G Tryz.prog Γ48 := Γ0.ok.ext Tryz.func30 rfl (by decide) ok71
theorem ok48 : SenseOK G Tryz.prog 14 s48 := SenseOK.any Γ48.ok (fun _ => [0, 4, 5, 6]) Tryz.func14 fun os xs K h => by
  obtain ⟨s, rfl, rfl, hb, hk0, hk1⟩ := h
  simp only [big] at hb
  have hlen := bl_len s
  by_cases hz : s.size ≤ 8192
  case neg =>
    have f0 : decide ((s.size : Int) > 8192) = true := by simp; omega
    have hm : mayT (bl s) = false := by rw [mayT, hlen]; simp; omega
    rw [hm] at hk0
    refine zs1 f0 ?_
    exact hk0
  have f0 : decide ((s.size : Int) > 8192) = false := by simp; omega
  have hm : mayT (bl s) = rowsB [] (bl s) := by rw [mayT, hlen, decide_eq_true hz, Bool.true_and]
  rw [hm] at hk0 hk1
  refine zs1 f0 ?_
  refine iter_of (I := fun k σ => ∃ (j e : Nat), k = s.size - j ∧ j ≤ s.size ∧ e ≤ j ∧ rowsB [] (bl s) = rowsB (((bl s).take j).drop e) ((bl s).drop j) ∧
    (σ = ⟨slots 54 [(0, .one (.str s)), (4, .one .nil), (5, .one (.int .i64 e)), (6, .one (.int .i64 j))], []⟩ ∨
     ∃ rows mv, rows.length ≤ j ∧ σ = ⟨slots 54 [(0, .one (.str s)), (4, .one (.own 0)), (5, .one (.int .i64 e)), (6, .one (.int .i64 j))], [.own 9 .str rows true mv]⟩)) ?_ s.size ⟨0, 0, by omega, by omega, by omega, rfl, .inl rfl⟩
  rintro k σ K' ⟨j, e, rfl, hj, he, hn, hσ⟩ hK'
  have w1 := IntWalk.i64_in ((j : Int) + 1) (by omega)
  by_cases h1 : j < s.size
  case neg =>
    have f1 : decide ((j : Int) < s.size) = false := by simp; omega
    obtain rfl : j = s.size := by omega
    have htk : (bl s).take s.size = bl s := List.take_of_length_le (by omega)
    have hdr : (bl s).drop s.size = [] := List.drop_eq_nil_iff.2 (by omega)
    rw [htk, hdr, rowsB] at hn
    have hE : ((e : Int) == s.size) = decide ((bl s).drop e = []) := by
      rw [Bool.eq_iff_iff]; simp [List.drop_eq_nil_iff, hlen]; omega
    rw [← hE] at hn
    rw [hn] at hk0 hk1
    rcases hσ with rfl | ⟨rows, mv, hrw, rfl⟩
    · refine zs1 f1 ?_
      exact hk0
    · refine zs1 f1 ?_
      exact hk1 _ _
  have f1 : decide ((j : Int) < s.size) = true := by simpa using h1
  have hg := bl_get h1
  have hd := bl_drop h1
  have hnx := cut_next hg he
  have go : ¬ ((((bl s).take j).drop e).getLast? = some 13 ∧ bt s j = 10) → rowsB [] (bl s) = rowsB (((bl s).take (j + 1)).drop e) ((bl s).drop (j + 1)) := fun h => by
    rw [hn, hd, rowsB_go h, hnx]
  by_cases g1 : bt s j = 10
  case neg =>
    have e1 : (bt s j != 10) = true := by simpa using g1
    have hG := go (fun h => g1 h.2)
    rcases hσ with rfl | ⟨rows, mv, hrw, rfl⟩
    · refine zs3 f1 e1 w1 ?_
      exact hK' _ _ (by omega) ⟨j + 1, e, rfl, by omega, by omega, hG, .inl rfl⟩
    · refine zs3 f1 e1 w1 ?_
      exact hK' _ _ (by omega) ⟨j + 1, e, rfl, by omega, by omega, hG, .inr ⟨rows, mv, by omega, rfl⟩⟩
  have e1 : (bt s j != 10) = false := by simpa using g1
  by_cases g2 : j = e
  · have e2 : ((j : Int) == e) = true := by simp [g2]
    have hG := go (fun h => by
      rw [List.drop_of_length_le (by rw [List.length_take]; omega)] at h
      cases h.1)
    rcases hσ with rfl | ⟨rows, mv, hrw, rfl⟩
    · refine zs4 f1 e1 e2 w1 ?_
      exact hK' _ _ (by omega) ⟨j + 1, e, rfl, by omega, by omega, hG, .inl rfl⟩
    · refine zs4 f1 e1 e2 w1 ?_
      exact hK' _ _ (by omega) ⟨j + 1, e, rfl, by omega, by omega, hG, .inr ⟨rows, mv, by omega, rfl⟩⟩
  have e2 : ((j : Int) == e) = false := by simp; omega
  obtain ⟨i, rfl⟩ : ∃ i, j = i + 1 := ⟨j - 1, by omega⟩
  have w2 : IntKind.i64.wrap (((i + 1 : Nat) : Int) - 1) = i := by rw [IntWalk.i64_in _ (by omega)]; omega
  have hl := cut_last (l := bl s) (e := e) (j := i) (by omega) (by omega)
  rw [bl_get (by omega)] at hl
  by_cases g3 : bt s i = 13
  case neg =>
    have e3 : (bt s i != 13) = true := by simpa using g3
    have hG := go (fun h => by rw [hl] at h; exact g3 (Option.some.inj h.1))
    rcases hσ with rfl | ⟨rows, mv, hrw, rfl⟩
    · refine zs6 f1 e1 e2 w2 e3 w1 ?_
      exact hK' _ _ (by omega) ⟨i + 2, e, rfl, by omega, by omega, hG, .inl rfl⟩
    · refine zs6 f1 e1 e2 w2 e3 w1 ?_
      exact hK' _ _ (by omega) ⟨i + 2, e, rfl, by omega, by omega, hG, .inr ⟨rows, mv, by omega, rfl⟩⟩
  have e3 : (bt s i != 13) = false := by simpa using g3
  have hdl : (((bl s).take (i + 1)).drop e).dropLast = ((bl s).take i).drop e := by
    rw [cut_next (bl_get (by omega)) (by omega), List.dropLast_concat]
  rw [hd, rowsB_end (by rw [hl, g3]) g1, hdl] at hn
  have hx : cleanL (bl (s.extract (e : Int).toNat (i : Int).toNat)) = cleanL (((bl s).take i).drop e) := congrArg cleanL (bl_extract s e i)
  have hself : ((bl s).take (i + 2)).drop (i + 2) = [] := List.drop_eq_nil_iff.2 (by rw [List.length_take]; omega)
  have hsz : (s.extract (e : Int).toNat (i : Int).toNat).size ≤ big := by
    show (s.extract e i).size ≤ 1073741824
    rw [ByteArray.size_extract]; omega
  rcases hσ with rfl | ⟨rows, mv, hrw, rfl⟩
  · refine zs5 f1 e1 e2 w2 e3 ?_
    cases hcl : cleanL (((bl s).take i).drop e) with
    | false =>
      rw [hcl, Bool.false_and] at hn
      rw [hn] at hk0
      rw [hcl] at hx
      refine zs1 hx ?_
      exact hk0
    | true =>
      rw [hcl, Bool.true_and] at hn
      rw [hcl] at hx
      refine zs3 hx w2 w1 ?_
      exact hK' _ _ (by omega) ⟨i + 2, i + 2, rfl, by omega, by omega, by rw [hn, hself], .inr ⟨[s.extract e i], _, by simp, rfl⟩⟩
  · refine zs5 f1 e1 e2 w2 e3 ?_
    cases hcl : cleanL (((bl s).take i).drop e) with
    | false =>
      rw [hcl, Bool.false_and] at hn
      rw [hn] at hk0
      rw [hcl] at hx
      refine zs1 hx ?_
      exact hk0
    | true =>
      rw [hcl, Bool.true_and] at hn
      rw [hcl] at hx
      have h1L : (rows.length + [s.extract (e : Int).toNat (i : Int).toNat].length) * 16 ≤ 140737488355328 := by rw [List.length_singleton]; omega
      refine zs3 hx w2 w1 ?_
      refine hK' _ _ (by omega) ⟨i + 2, i + 2, rfl, by omega, by omega, by rw [hn, hself], .inr ⟨rows ++ [s.extract e i], true, by rw [List.length_append, List.length_singleton]; omega, ?_⟩⟩
      cases mv <;> rfl
def Γ70 : Sems := ext 108 s99 (ext 107 s98 (ext 106 s97 Γ0))
theorem Γ70.ok : SemsOK G Tryz.prog Γ70 := ((Γ0.ok.ext Tryz.func106 rfl (by decide) ok97).ext Tryz.func107 rfl (by decide) ok98).ext Tryz.func108 rfl (by decide) ok99
def s70 : Sense := pureS fun xs K => ∃ s, xs = [.one (.str s)] ∧ K (.ret (.one (.bool (localR (bl s)))))
theorem ok70 : SenseOK G Tryz.prog 63 s70 := SenseOK.pure Γ70.ok (fun _ => []) Tryz.func63 fun xs K h => by
  obtain ⟨s, rfl, hk⟩ := h
  by_cases h0 : s.size < 1
  · have f0 : decide ((s.size : Int) < 1) = true := by simp; omega
    have hb : bl s = [] := List.length_eq_zero_iff.1 (by rw [bl_length]; omega)
    refine zs1 f0 ?_
    exact retB hk (by simp [localR, hb])
  have f0 : decide ((s.size : Int) < 1) = false := by simp; omega
  by_cases h1 : s.size > 64
  · have f1 : decide ((s.size : Int) > 64) = true := by simp; omega
    refine zs2 f0 f1 ?_
    exact retB hk (by simp [localR, bl_length]; omega)
  have f1 : decide ((s.size : Int) > 64) = false := by simp; omega
  have hh : (bl s).head? = some (bt s 0) := by
    have := bl_get (s := s) (j := 0) (by omega)
    rw [List.head?_eq_getElem?]; exact this
  have hne : (bl s).isEmpty = false := by
    rw [List.isEmpty_eq_false_iff]; intro h; rw [h] at hh; cases hh
  have hbig : s.size ≤ big := by simp only [big]; omega
  by_cases h2 : bt s 0 = 34
  · have f2 : (bt s 0 != 34) = false := by simpa using h2
    refine zs3 f0 f1 f2 ?_
    refine ⟨fun hn => ?_, fun r a n hn hr => ?_⟩
    · refine zv ?_
      have : localR (bl s) = false := by
        rw [localR, hn, if_pos (by rw [hh, h2])]; simp
      exact retB hk this.symm
    · obtain ⟨u, q, he, hk', m', hm, hok, hback, hml⟩ := inn_spec _ _ _ _ _ _ (Nat.le_refl _) hn
      rw [List.nil_append] at hm
      subst hm
      have hul : u.length ≤ s.size := by
        have := congrArg List.length he
        simp [bl_length] at this
        omega
      have hrs : r.size ≤ big := by rw [← bl_length, hr]; simp only [big]; omega
      have hr2 : r.size ≤ 1073741824 := hrs
      have hloc : localR (bl s) = (decide (n = (s.size : Int)) && !plainR a && decide (34 :: esc a ++ [34] = bl s)) := by
        have h64 : decide (s.size ≤ 64) = true := by simp; omega
        unfold localR
        rw [hn, if_pos (by rw [hh, h2]), hne, bl_length, h64]
        rfl
      by_cases h3 : n = (s.size : Int)
      case neg =>
        have f3 : (n == (s.size : Int)) = false := by simpa using h3
        refine zs1 f3 ?_
        exact retB hk (by rw [hloc]; simp [h3])
      have f3 : (n == (s.size : Int)) = true := by simpa using h3
      cases h4 : plainR (bl r) with
      | true =>
        refine zs2 f3 h4 ?_
        rw [hr] at h4
        exact retB hk (by rw [hloc]; simp [h4])
      | false =>
        refine zs2 f3 h4 ?_
        intro t ht
        refine zv ?_
        rw [hr] at h4 ht
        exact retB hk (by rw [hloc, str_beq, ht]; simp [h3, h4])
  · have f2 : (bt s 0 != 34) = true := by simpa using h2
    refine zs3 f0 f1 f2 ?_
    refine retB hk ?_
    have : (bl s).length ≤ 64 := by rw [bl_length]; omega
    simp [localR, hne, hh, h2, this]
def Γ68 : Sems := ext 109 s69 (ext 111 s95 (ext 110 s94 Γ0))
theorem Γ68.ok : SemsOK G Tryz.prog Γ68 := ((Γ0.ok.ext Tryz.func110 rfl (by decide) ok94).ext Tryz.func111 rfl (by decide) ok95).ext Tryz.func109 rfl (by decide) ok69
def okD (c : Int) : Bool := isSign c || c == 45
theorem labL_def (l : List Int) : labL l = (!l.isEmpty && decide (l.length ≤ 63) && l.all okD && l.head? != some 45 && l.getLast? != some 45) := rfl
def s68 : Sense := pureS fun xs K => ∃ s, xs = [.one (.str s)] ∧ s.size ≤ big ∧ K (.ret (.one (.bool (domL (bl s)))))
theorem ok68 : SenseOK G Tryz.prog 64 s68 := SenseOK.pure Γ68.ok (fun r => bif Nat.beq r 13 then [3, 4, 5, 6] else [3, 4]) Tryz.func64 fun xs K h => by
  obtain ⟨s, rfl, hb, hk⟩ := h
  simp only [big] at hb
  by_cases h0 : s.size > 255
  · have f0 : decide ((s.size : Int) > 255) = true := by simp; omega
    refine zs1 f0 ?_
    exact retB hk (by simp [domL, bl_length]; omega)
  have f0 : decide ((s.size : Int) > 255) = false := by simp; omega
  have h255 : decide ((bl s).length ≤ 255) = true := by rw [bl_length]; simp; omega
  cases hlit : litL (bl s) with
  | true =>
    refine zs2 f0 hlit ?_
    exact retB hk (by rw [domL, h255, hlit]; rfl)
  | false =>
  have hdom : domL (bl s) = (spl 46 (bl s) []).all labL := by rw [domL, h255, hlit]; rfl
  refine zs2 f0 hlit ?_
  intro zs mv hzs
  have hz1 : zs.length ≤ s.size + 1 := by
    have := (spl_size 46 (bl s) []).1
    rw [← hzs, List.length_map, bl_length] at this; exact this
  have hz2 : ∀ w ∈ zs, w.size ≤ s.size := fun w hw => by
    have := (spl_size 46 (bl s) []).2 (bl w) (by rw [← hzs]; exact List.mem_map_of_mem hw)
    simpa [bl_length] using this
  rw [← hzs] at hdom
  refine zv ?_
  refine iter_of (I := fun k σ => ∃ (j : Nat), k = zs.length - j ∧ j ≤ zs.length ∧ ((zs.take j).map bl).all labL = true ∧ σ = ⟨slots 75 [(3, .one (.own 0)), (4, .one (.int .i64 j))], [.own 9 .str zs true mv]⟩) ?_ zs.length ⟨0, by omega, by omega, by simp, rfl⟩
  rintro k σ K' ⟨j, rfl, hj, hall, rfl⟩ hK'
  by_cases h3 : j < zs.length
  case neg =>
    have f1 : decide ((j : Int) < zs.length) = false := by simp; omega
    obtain rfl : j = zs.length := by omega
    rw [List.take_length] at hall
    refine zs1 f1 ?_
    exact retB hk (by rw [hdom, hall])
  have f1 : decide ((j : Int) < zs.length) = true := by simpa using h3
  obtain ⟨w, hw⟩ : ∃ w, zs[j]? = some w := ⟨_, List.getElem?_eq_getElem h3⟩
  have hwm : w ∈ zs := List.mem_of_getElem? hw
  have hws := hz2 w hwm
  have hr : rdx zs (↑j : Int).toNat Ty.str.dflt = w := by
    show zs.getD j _ = w
    simp [List.getD, hw]
  have w1 := IntWalk.i64_in (↑j + 1) (by omega)
  have bad : labL (bl w) = false → domL (bl s) = false := fun h => by
    rw [hdom, Bool.eq_false_iff]
    intro h'
    have := List.all_eq_true.1 h' (bl w) (List.mem_map_of_mem hwm)
    rw [h] at this; cases this
  have good : labL (bl w) = true → ((zs.take (j + 1)).map bl).all labL = true := fun h => by
    rw [List.take_add_one, hw, List.map_append, List.all_append, hall]
    simp [h]
  by_cases c0 : w.size < 1
  · have e0 : decide ((w.size : Int) < 1) = true := by simp; omega
    have : bl w = [] := List.length_eq_zero_iff.1 (by rw [bl_length]; omega)
    refine zs3 f1 hr e0 ?_
    exact retB hk (bad (by rw [this]; rfl)).symm
  have e0 : decide ((w.size : Int) < 1) = false := by simp; omega
  by_cases c1 : w.size > 63
  · have e1 : decide ((w.size : Int) > 63) = true := by simp; omega
    refine zs4 f1 hr e0 e1 ?_
    exact retB hk (bad (by simp [labL, bl_length]; omega)).symm
  have e1 : decide ((w.size : Int) > 63) = false := by simp; omega
  have hh := bl_head (s := w) (by omega)
  have hl := bl_last (s := w) (by omega)
  have w0 := IntWalk.i64_in (↑w.size - 1) (by omega)
  by_cases c2 : bt w 0 = 45
  · have e2 : (bt w 0 == 45) = true := by simpa using c2
    refine zs5 f1 hr e0 e1 e2 ?_
    exact retB hk (bad (by simp [labL, hh, c2])).symm
  have e2 : (bt w 0 == 45) = false := by simpa using c2
  by_cases c3 : bt w ((w.size : Int) - 1) = 45
  · have e3 : (bt w ((w.size : Int) - 1) == 45) = true := by simpa using c3
    refine zs7 f1 hr e0 e1 e2 w0 e3 ?_
    exact retB hk (bad (by simp [labL, hl, c3])).symm
  have e3 : (bt w ((w.size : Int) - 1) == 45) = false := by simpa using c3
  have hlab : labL (bl w) = (bl w).all okD := by
    have h1 : (bl w).isEmpty = false := by rw [List.isEmpty_eq_false_iff]; intro h; rw [h] at hh; cases hh
    have h2 : decide ((bl w).length ≤ 63) = true := by rw [bl_length]; simp; omega
    have q1 : (some (bt w 0) != some (45 : Int)) = true := by simpa using c2
    have q2 : (some (bt w ((w.size : Int) - 1)) != some (45 : Int)) = true := by simpa using c3
    rw [labL_def, h1, h2, hh, hl, q1, q2]
    simp
  refine zs7 f1 hr e0 e1 e2 w0 e3 ?_
  refine iter_of (I := fun k σ => ∃ (q : Nat), k = w.size - q ∧ q ≤ w.size ∧ ((bl w).take q).all okD = true ∧ σ = ⟨slots 75 [(3, .one (.own 0)), (4, .one (.int .i64 j)), (5, .one (.str w)), (6, .one (.int .i64 q))], [.own 9 .str zs true mv]⟩) ?_ w.size ⟨0, by omega, by omega, by simp, rfl⟩
  rintro k σ K2 ⟨q, rfl, hq, hok, rfl⟩ hK2
  by_cases g2 : q < w.size
  · have g1 : decide ((q : Int) < w.size) = true := by simpa using g2
    have w2 := IntWalk.i64_in (↑q + 1) (by omega)
    cases d1 : (bif decide (bt w q ≥ 97) then decide (bt w q ≤ 122) else false) <;> cases d2 : isDigit (bt w q) <;> cases d3 : (bt w q != 45)
    case false.false.true =>
      refine zs4 g1 d1 d2 d3 ?_
      refine retB hk (bad ?_).symm
      rw [hlab, Bool.eq_false_iff]
      intro h'
      have := List.all_eq_true.1 h' (bt w q) (List.mem_of_getElem? (bl_get g2))
      simp [okD, isSign, isDigit] at this d1 d2 d3
      omega
    all_goals
      refine zs5 g1 d1 d2 d3 w2 ?_
      refine hK2 _ _ (by omega) ⟨q + 1, rfl, by omega, ?_, rfl⟩
      have hc : okD (bt w q) = true := by
        simp [okD, isSign, isDigit] at d1 d2 d3 ⊢
        omega
      rw [List.take_add_one, bl_get g2, List.all_append, hok]
      simp [hc]
  · have g1 : decide ((q : Int) < w.size) = false := by simp; omega
    refine zs2 g1 w1 ?_
    refine hK' _ _ (by omega) ⟨j + 1, rfl, by omega, good ?_, rfl⟩
    have : (bl w).take q = bl w := List.take_of_length_le (by rw [bl_length]; omega)
    rw [this] at hok
    rw [hlab, hok]
def Γ47 : Sems := ext 63 s70 (ext 64 s68 Γ0)
theorem Γ47.ok : SemsOK G Tryz.prog Γ47 := (Γ0.ok.ext Tryz.func64 rfl (by decide) ok68).ext Tryz.func63 rfl (by decide) ok70
def s47 : Sense := pureS fun xs K => ∃ a b, xs = [.agg [.str a, .str b]] ∧ b.size ≤ big ∧ K (.ret (.one (.bool (mayR (bl a) (bl b)))))
theorem ok47 : SenseOK G Tryz.prog 40 s47 := SenseOK.pure Γ47.ok (fun _ => []) Tryz.func40 fun xs K h => by
  obtain ⟨a, b, rfl, hb, hk⟩ := h
  cases h1 : localR (bl a) with
  | false =>
    refine zs1 h1 ?_
    exact retB hk (by simp [mayR, h1])
  | true =>
    refine zs1 h1 ?_
    exact retB hk (by simp [mayR, h1])
def Γ42 : Sems := ext 109 s69 (ext 64 s68 Γ0)
theorem Γ42.ok : SemsOK G Tryz.prog Γ42 := (Γ0.ok.ext Tryz.func64 rfl (by decide) ok68).ext Tryz.func109 rfl (by decide) ok69
def s42 : Sense := pureS fun xs K => ∃ s, xs = [.one (.str s)] ∧ s.size ≤ big ∧ K (.ret (.one (.bool (domL (bl s) && !litL (bl s)))))
theorem ok42 : SenseOK G Tryz.prog 123 s42 := SenseOK.pure Γ42.ok (fun _ => []) Tryz.func123 fun xs K h => by
  obtain ⟨s, rfl, hb, hk⟩ := h
  cases h1 : domL (bl s) with
  | false =>
    refine zs1 h1 ?_
    exact retB hk (by simp [h1])
  | true =>
    refine zs1 h1 ?_
    exact retB hk (by simp [h1])
def rcP (r : Rc) : Bool := mayR r.bl_ r.bd && !decide (r.st < 0) && !decide (r.st > 4) && (decide (0 ≤ r.at_) && decide (r.at_ ≤ 1048576)) && (decide (0 ≤ r.nx) && decide (r.nx ≤ 2199023255552)) && (decide (0 ≤ r.co) && decide (r.co ≤ 599))
def sameA (r q : Rc) : Bool := decide (q.bl_ = r.bl_) && decide (q.bd = r.bd)
def rcsP : List Rc → List Rc → Bool
  | _, [] => true
  | p, r :: l => rcP r && !p.any (sameA r) && rcsP (p ++ [r]) l
def frmP (m : Ml) : Bool := bif m.nul then decide (m.fl = []) && decide (m.fd = []) else mayR m.fl m.fd
def mailP (m : Ml) : Bool := !decide (m.id < 1) && !decide (m.id > 1099511627776) && (decide (0 ≤ m.te) && decide (m.te ≤ 3)) && !decide ((m.rc.length : Int) < 1) && !decide ((m.rc.length : Int) > 8) && (decide (0 ≤ m.born) && decide (m.born ≤ 1099511627776)) &&
  frmP m && rcsP [] m.rc && mayT m.body
def Γ18 : Sems := ext 39 s43 (ext 40 s47 (ext 14 s48 Γ0))
theorem Γ18.ok : SemsOK G Tryz.prog Γ18 := ((Γ0.ok.ext Tryz.func14 rfl (by decide) ok48).ext Tryz.func40 rfl (by decide) ok47).ext Tryz.func39 rfl (by decide) ok43
def s18 : Sense := ⟨false, fun os xs K => ∃ (m : Md) (c : C), xs = [.agg (m.cs c)] ∧ RcIn 0 m.rc c os ∧ m.body.size ≤ big ∧ m.fd.size ≤ big ∧ (∀ r ∈ m.rc, r.1.2.size ≤ big) ∧ K os (.ret (.one (.bool (mailP m.ml))))⟩
theorem ok18 : SenseOK G Tryz.prog 24 s18 := SenseOK.any Γ18.ok (fun r => if r = 12 then [1, 3, 4, 5] else [1, 3]) Tryz.func24 fun os xs K h => by
  obtain ⟨m, c, rfl, ha, hb, hfd, hrd, hk⟩ := h
  simp only [big] at hb
  have no : mailP m.ml = false → K os (.ret (.one (.bool false))) := fun h => by rw [h] at hk; exact hk
  have hm0 : mailP m.ml = (!decide (m.id < 1) && !decide (m.id > 1099511627776) && (decide (0 ≤ m.te) && decide (m.te ≤ 3)) && !decide ((m.rc.length : Int) < 1) && !decide ((m.rc.length : Int) > 8) && (decide (0 ≤ m.born) && decide (m.born ≤ 1099511627776)) && frmP m.ml && rcsP [] m.ml.rc && mayT (bl m.body)) := by
    have h1 : m.ml.rc.length = m.rc.length := List.length_map _
    rw [mailP, h1]; rfl
  rcases ha with ⟨hc, ho⟩ | ⟨hc, ho, ha0⟩ | ⟨ap, hc, ho⟩
  case inr.inl =>
    have no := no (by simp [mailP, Md.ml, ha0])
    rw [hc, ho]
    rw [ho] at no
    cases e1 : decide (m.id < 1) with
    | true => refine zs1 e1 ?_; exact no
    | false =>
      cases e2 : decide (m.id > 1099511627776) with
      | true => refine zs2 e1 e2 ?_; exact no
      | false =>
        cases e3 : (decide (0 ≤ m.te) && decide (m.te ≤ 3)) with
        | false => refine zs3 e1 e2 e3 ?_; exact no
        | true => refine zs3 e1 e2 e3 ?_; exact no
  all_goals
    rw [hc, ho]
    rw [ho] at hk no
    cases e1 : decide (m.id < 1) with
    | true => refine zs1 e1 ?_; exact no (by rw [hm0, e1]; rfl)
    | false =>
    cases e2 : decide (m.id > 1099511627776) with
    | true => refine zs2 e1 e2 ?_; exact no (by rw [hm0, e1, e2]; rfl)
    | false =>
    cases e3 : (decide (0 ≤ m.te) && decide (m.te ≤ 3)) with
    | false => refine zs3 e1 e2 e3 ?_; exact no (by rw [hm0, e1, e2, e3]; rfl)
    | true =>
    cases e4 : decide ((m.rc.length : Int) < 1) with
    | true => refine zs4 e1 e2 e3 e4 ?_; exact no (by rw [hm0, e1, e2, e3, e4]; rfl)
    | false =>
    cases e5 : decide ((m.rc.length : Int) > 8) with
    | true => refine zs5 e1 e2 e3 e4 e5 ?_; exact no (by rw [hm0, e1, e2, e3, e4, e5]; rfl)
    | false =>
    cases e6 : (decide (0 ≤ m.born) && decide (m.born ≤ 1099511627776)) with
    | false => refine zs6 e1 e2 e3 e4 e5 e6 ?_; exact no (by rw [hm0, e1, e2, e3, e4, e5, e6]; rfl)
    | true =>
    have hm : mailP m.ml = (frmP m.ml && rcsP [] m.ml.rc && mayT (bl m.body)) := by
      rw [hm0, e1, e2, e3, e4, e5, e6]; rfl
    have bl0 : bl ByteArray.empty = [] := rfl
    cases e7 : m.nul
    case' true =>
      have hfr : frmP m.ml = (m.fl.toList == ByteArray.empty.toList && (m.fd.toList == ByteArray.empty.toList && true)) := by
        rw [str_beq, str_beq, bl0, Bool.and_true]
        show (bif m.nul then _ else _) = _
        rw [e7, cond_true]
        show (decide (bl m.fl = []) && decide (bl m.fd = [])) = _
        cases bl m.fl <;> cases bl m.fd <;> rfl
      obtain ⟨bx, hbx⟩ : ∃ bx, bx = Md.cs ⟨m.id, m.te, true, m.fl, m.fd, m.rc, m.body, m.born, m.held, m.told⟩ c := ⟨_, rfl⟩
      by_cases e8 : (m.fl.toList == ByteArray.empty.toList && (m.fd.toList == ByteArray.empty.toList && true)) = true
    case' false =>
      have hfr : frmP m.ml = mayR (bl m.fl) (bl m.fd) := by
        show (bif m.nul then _ else _) = _
        rw [e7, cond_false]; rfl
      obtain ⟨bx, hbx⟩ : ∃ bx, bx = Md.cs ⟨m.id, m.te, false, m.fl, m.fd, m.rc, m.body, m.born, m.held, m.told⟩ c := ⟨_, rfl⟩
      by_cases e8 : mayR (bl m.fl) (bl m.fd) = true
    case' neg =>
      have e9 := Bool.eq_false_iff.2 e8
      rw [hfr, e9] at hm
      refine zs8 e1 e2 e3 e4 e5 e6 e7 e9 ?_
      exact no (by rw [hm]; rfl)
    case' neg =>
      have e9 := Bool.eq_false_iff.2 e8
      rw [hfr, e9] at hm
      refine zs8 e1 e2 e3 e4 e5 e6 e7 e9 ?_
      exact no (by rw [hm]; rfl)
    all_goals
      rw [hfr, e8, Bool.true_and] at hm
      rw [hm] at hk no
      refine zs8 e1 e2 e3 e4 e5 e6 e7 e8 ?_
      refine iter_of (I := fun k σ => ∃ (j : Nat), k = m.rc.length - j ∧ j ≤ m.rc.length ∧ rcsP [] m.ml.rc = rcsP ((m.rc.take j).map rcOf) ((m.rc.drop j).map rcOf) ∧ σ = ⟨slots 124 [(1, .one (.ref os.length 0)), (3, .one (.int .i64 j))], os ++ [.box 32 bx]⟩) ?_ m.rc.length ⟨0, by omega, by omega, rfl, by rw [hbx, hc, ho]; rfl⟩
      rintro k σ K' ⟨j, rfl, hj, hn, rfl⟩ hK'
      rw [hbx, hc, ho] at hK' ⊢
      have hlt8 : (m.rc.length : Int) ≤ 8 := by simpa using e5
      have w1 := IntWalk.i64_in ((j : Int) + 1) (by omega)
      by_cases h1 : j < m.rc.length
      case neg =>
        have f1 : decide ((j : Int) < m.rc.length) = false := by simp; omega
        obtain rfl : j = m.rc.length := by omega
        rw [List.drop_length, List.map_nil, rcsP] at hn
        rw [hn, Bool.true_and] at hk
        refine zs1 f1 ?_
        refine ⟨?_, fun rows mv => ?_⟩
        · refine zv ?_
          exact hk
        · refine zv ?_
          exact hk
      have f1 : decide ((j : Int) < m.rc.length) = true := by simpa using h1
      obtain ⟨r, hr⟩ : ∃ r, m.rc[j]? = some r := ⟨_, List.getElem?_eq_getElem h1⟩
      have rr := nth_of hr RT.dflt
      have hrb := hrd r (List.mem_of_getElem? hr)
      have hdr : m.rc.drop j = r :: m.rc.drop (j + 1) := by
        rw [List.drop_eq_getElem_cons h1]; congr 1
        exact Option.some.inj (by rw [← List.getElem?_eq_getElem h1, hr])
      have hst : rcsP [] m.ml.rc = ((mayR (bl r.1.1) (bl r.1.2) && !decide (r.2.1 < 0) && !decide (r.2.1 > 4) && (decide (0 ≤ r.2.2.1) && decide (r.2.2.1 ≤ 1048576)) && (decide (0 ≤ r.2.2.2.1) && decide (r.2.2.2.1 ≤ 2199023255552)) && (decide (0 ≤ r.2.2.2.2) && decide (r.2.2.2.2 ≤ 599))) && !((m.rc.take j).map rcOf).any (sameA (rcOf r)) && rcsP ((m.rc.take (j + 1)).map rcOf) ((m.rc.drop (j + 1)).map rcOf)) := by
        rw [hn, hdr, List.map_cons, rcsP, List.take_add_one, hr, List.map_append]; rfl
      cases g1 : mayR (bl r.1.1) (bl r.1.2) with
      | false => refine zs3 f1 rr g1 ?_; exact no (by rw [hst, g1]; rfl)
      | true =>
      cases g2 : decide (r.2.1 < 0) with
      | true => refine zs4 f1 rr g1 g2 ?_; exact no (by rw [hst, g1, g2]; rfl)
      | false =>
      cases g3 : decide (r.2.1 > 4) with
      | true => refine zs5 f1 rr g1 g2 g3 ?_; exact no (by rw [hst, g1, g2, g3]; rfl)
      | false =>
      cases g4 : (decide (0 ≤ r.2.2.1) && decide (r.2.2.1 ≤ 1048576)) with
      | false => refine zs6 f1 rr g1 g2 g3 g4 ?_; exact no (by rw [hst, g1, g2, g3, g4]; rfl)
      | true =>
      cases g5 : (decide (0 ≤ r.2.2.2.1) && decide (r.2.2.2.1 ≤ 2199023255552)) with
      | false => refine zs7 f1 rr g1 g2 g3 g4 g5 ?_; exact no (by rw [hst, g1, g2, g3, g4, g5]; rfl)
      | true =>
      cases g6 : (decide (0 ≤ r.2.2.2.2) && decide (r.2.2.2.2 ≤ 599)) with
      | false => refine zs8 f1 rr g1 g2 g3 g4 g5 g6 ?_; exact no (by rw [hst, g1, g2, g3, g4, g5, g6]; rfl)
      | true =>
      rw [g1, g2, g3, g4, g5, g6] at hst
      refine zs8 f1 rr g1 g2 g3 g4 g5 g6 ?_
      refine iter_of (I := fun k σ => ∃ (i : Nat), k = j - i ∧ i ≤ j ∧ ((m.rc.take i).map rcOf).any (sameA (rcOf r)) = false ∧ σ = ⟨slots 124 [(1, .one (.ref os.length 0)), (3, .one (.int .i64 j)), (4, .one (.ref (os.length + 1) 0)), (5, .one (.int .i64 i))], os ++ [.box 32 bx, .box 39 (rcs r)]⟩) ?_ j ⟨0, by omega, by omega, rfl, by rw [hbx, hc, ho]; rfl⟩
      rintro k σ K2 ⟨i, rfl, hi, hni, rfl⟩ hK2
      rw [hbx, hc, ho] at hK2 ⊢
      have w2 := IntWalk.i64_in ((i : Int) + 1) (by omega)
      by_cases h2 : i < j
      case neg =>
        have f2 : decide ((i : Int) < j) = false := by simp; omega
        obtain rfl : i = j := by omega
        rw [hni] at hst
        refine zs2 f2 w1 ?_
        exact hK' _ _ (by omega) ⟨i + 1, rfl, by omega, hst.trans rfl, rfl⟩
      have f2 : decide ((i : Int) < j) = true := by simpa using h2
      obtain ⟨q, hq⟩ : ∃ q, m.rc[i]? = some q := ⟨_, List.getElem?_eq_getElem (by omega)⟩
      have rq := nth_of hq RT.dflt
      have hqt : ((m.rc.take j).map rcOf)[i]? = some (rcOf q) := by rw [List.getElem?_map, List.getElem?_take_of_lt h2, hq]; rfl
      have hqi : ((m.rc.take (i + 1)).map rcOf) = (m.rc.take i).map rcOf ++ [rcOf q] := by rw [List.take_add_one, hq, List.map_append]; rfl
      have hsm : (q.1.1.toList == r.1.1.toList && (q.1.2.toList == r.1.2.toList && true)) = sameA (rcOf r) (rcOf q) := by
        rw [str_beq, str_beq, Bool.and_true]
        show _ = (decide (bl q.1.1 = bl r.1.1) && decide (bl q.1.2 = bl r.1.2))
        rfl
      refine zs1 f2 ?_
      refine ⟨[], .take 0 (.take 1 (.take 2 (.take 3 (.take 4 (.take 5 (.take 6 (.take 7 (.take 8 .done)))))))), ⟨by kernel_rfl⟩, ?_⟩
      refine zs1 rq ?_
      rw [hsm]
      cases g7 : sameA (rcOf r) (rcOf q) with
      | true =>
        refine zs1 g7 ?_
        exact no (by rw [hst, any_at hqt g7]; rfl)
      | false =>
        refine zs2 g7 w2 ?_
        exact hK2 _ _ (by omega) ⟨i + 1, rfl, by omega, by rw [hqi, List.any_append, hni]; simp [g7], rfl⟩
def Γ12 : Sems := ext 24 s18 (ext 123 s42 (ext 39 s43 Γ0))
theorem Γ12.ok : SemsOK G Tryz.prog Γ12 := ((Γ0.ok.ext Tryz.func39 rfl (by decide) ok43).ext Tryz.func123 rfl (by decide) ok42).ext Tryz.func24 rfl (by decide) ok18
def wtL : Int → List RT.den → Int
  | a, [] => a
  | a, r :: l => if a < 1048576 then wtL (a + 1 + r.1.1.size + r.1.2.size) l else a
def wtM (m : Md) : Int := wtL (m.body.size + m.fl.size + m.fd.size) m.rc
def s35 : Sense := ⟨false, fun os xs K => ∃ (m : Md) (c : C), xs = [.agg (m.cs c)] ∧ RcIn 0 m.rc c os ∧ m.rc.length ≤ big ∧ m.body.size ≤ big ∧ m.fl.size ≤ big ∧ m.fd.size ≤ big ∧ (∀ r ∈ m.rc, r.1.1.size ≤ big ∧ r.1.2.size ≤ big) ∧ K os (.ret (.one (.int .i64 (wtM m))))⟩
theorem ok35 : SenseOK G Tryz.prog 67 s35 := SenseOK.any Γ0.ok (fun _ => [1, 3, 4]) Tryz.func67 fun os xs K h => by
  obtain ⟨m, c, rfl, ha, hb, hb1, hb2, hb3, hrs, hk⟩ := h
  simp only [big] at hb hb1 hb2 hb3
  have v1 := IntWalk.i64_in ((m.body.size : Int) + m.fl.size) (by omega)
  have v2 := IntWalk.i64_in ((m.body.size : Int) + m.fl.size + m.fd.size) (by omega)
  rcases ha with ⟨hc, ho⟩ | ⟨hc, ho, ha0⟩ | ⟨ap, hc, ho⟩
  all_goals
    rw [hc, ho]
    rw [ho] at hk
    refine zs2 v1 v2 ?_
    refine iter_of (I := fun k σ => ∃ (j : Nat) (w : Int), k = m.rc.length - j ∧ j ≤ m.rc.length ∧ 0 ≤ w ∧ w ≤ 4294967296 ∧ wtM m = wtL w (m.rc.drop j) ∧ σ = ⟨slots 50 [(1, .one (.ref os.length 0)), (3, .one (.int .i64 w)), (4, .one (.int .i64 j))], os ++ [.box 32 (m.cs c)]⟩) ?_ m.rc.length ⟨0, m.body.size + m.fl.size + m.fd.size, by omega, by omega, by omega, by omega, rfl, by rw [hc, ho]; rfl⟩
    rintro k σ K' ⟨j, w, rfl, hj, hw0, hw1, hn, rfl⟩ hK'
    rw [hc, ho] at hK' ⊢
    by_cases h1 : j < m.rc.length
    case neg =>
      obtain rfl : j = m.rc.length := by omega
      rw [List.drop_length, wtL] at hn
      have f1 : decide ((m.rc.length : Int) < m.rc.length) = false := by simp
      rw [hn] at hk
      first | (have f0 : decide ((m.rc.length : Int) < 0) = false := by simp) | skip
      refine zs2 f1 f0 ?_
      exact hk
    first | (rw [ha0] at h1; exact absurd h1 (by simp)) | skip
  all_goals
    have f1 : decide ((j : Int) < m.rc.length) = true := by simp; omega
    obtain ⟨r, hr⟩ : ∃ r, m.rc[j]? = some r := ⟨_, List.getElem?_eq_getElem h1⟩
    have rr := nth_of hr RT.dflt
    have hrb := hrs r (List.mem_of_getElem? hr)
    simp only [big] at hrb
    have hdr : m.rc.drop j = r :: m.rc.drop (j + 1) := by
      rw [List.drop_eq_getElem_cons h1]; congr 1
      exact Option.some.inj (by rw [← List.getElem?_eq_getElem h1, hr])
    have w2 := IntWalk.i64_in (↑j + 1) (by omega)
    rw [hdr, wtL] at hn
    by_cases h2 : w < 1048576
    case neg =>
      have f2 : decide (w < 1048576) = false := by simp; omega
      rw [if_neg h2] at hn
      rw [hn] at hk
      refine zs2 f1 f2 ?_
      exact hk
    have f2 : decide (w < 1048576) = true := by simpa using h2
    rw [if_pos h2] at hn
    have x1 := IntWalk.i64_in (w + 1) (by omega)
    have x2 := IntWalk.i64_in (w + 1 + r.1.1.size) (by omega)
    have x3 := IntWalk.i64_in (w + 1 + r.1.1.size + r.1.2.size) (by omega)
    refine zs2 f1 f2 ?_
    refine ⟨[], .take 0 (.take 1 (.take 2 (.take 3 (.take 4 (.take 5 (.take 6 (.take 7 (.take 8 (.take 9 (.take 10 (.take 11 (.take 12 (.take 13 (.take 14 (.take 15 (.take 16 (.take 17 (.take 18 (.take 19 (.take 20 .done)))))))))))))))))))), ⟨by kernel_rfl⟩, ?_⟩
    refine zs5 rr x1 x2 x3 w2 ?_
    exact hK' _ _ (by omega) ⟨j + 1, _, rfl, by omega, by omega, by omega, hn, rfl⟩
def md0 : Md := ⟨0, 0, false, ByteArray.empty, ByteArray.empty, [], ByteArray.empty, 0, false, false⟩
def Γ34 : Sems := ext 70 s10 Γ0
theorem Γ34.ok : SemsOK G Tryz.prog Γ34 := Γ0.ok.ext Tryz.func70 rfl (by decide) ok10
def lendS (s : Sense) : Sense := ⟨true, fun os xs K => ∃ xs', ownsB os = true ∧ All2 (lendV os) xs xs' ∧ s.f [] xs' fun os' out => plnOs os' = true ∧ out.pln = true ∧ K (os ++ os'.map (Ob.ren (· + os.length))) (out.upN os.length)⟩
def Γ37q : Sems := ext 38 q38 (ext 62 q62 (Γ0))
theorem Γ37q.ok : SemsOK G Tryz.prog Γ37q := ((Γ0.ok.ext Tryz.func62 rfl (by decide) qk62).ext Tryz.func38 rfl (by decide) qk38)
def q37 : Sense := ⟨false, fun os xs K => ∃ s : Sd, xs = [.agg s.fz] ∧ os = [] ∧ s.sml ∧ ∀ m0 m1 m2 m3, K [.own 3 IT s.rc true m0, .own 3 IT s.tk true m1, .own 3 IT s.cd true m2, .own 9 ST s.ln true m3] (.ret (.agg (s.ow 0)))⟩
theorem qk37 : SenseOK G Tryz.prog 37 q37 := SenseOK.any Γ37q.ok (fun _ => []) Tryz.func37 fun os xs K h => by
  obtain ⟨s, rfl, rfl, ⟨l0, l1, l2, l3⟩, hk⟩ := h
  refine zv ?_
  refine ⟨[], (.take 0 (.take 1 (.take 2 (.take 4 (.take 5 (.take 7 (.take 8 (.take 10 (.take 11 (.br 3 (.take 13 (.take 14 (.br 6 (.br 9 (.br 12 (.rest 15) .nil) .nil) .nil))) .nil)))))))))), ⟨by kernel_rfl⟩, ?_⟩
  refine zv ?_
  intro m0
  refine zv ?_
  intro m1
  refine zv ?_
  intro m2
  refine zv ?_
  intro m3
  refine zv ?_
  exact hk _ _ _ _
def Γ31q : Sems := ext 37 (lendS q37) (Γ0)
theorem Γ31q.ok : SemsOK G Tryz.prog Γ31q := (Γ0.ok.ext Tryz.func37 rfl (by decide) (SenseOK.lendL qk37))
def newSd (id : Int) (j : Jb) (lm : Bool) : Sd := ⟨id, j.m, j.t, j.dom, j.rc, lm, 0, 0, [], List.replicate (Int.toNat (j.rc.length : Int)) (0 : Int), 0, ByteArray.empty, false, []⟩
def q31 : Sense := ⟨false, fun os xs K => ∃ (id : Int) (j : Jb) (lm : Bool), xs = [.one (.int .i64 id), .agg j.fz, .one (.bool lm)] ∧ os = [] ∧ j.rc.length ≤ big ∧
  ∀ m0 m1 m2 m3, K [.own 3 IT (newSd id j lm).rc true m0, .own 3 IT (newSd id j lm).tk true m1, .own 3 IT (newSd id j lm).cd true m2, .own 9 ST (newSd id j lm).ln true m3] (.ret (.agg ((newSd id j lm).ow 0)))⟩
theorem qk31 : SenseOK G Tryz.prog 31 q31 := SenseOK.any Γ31q.ok (fun _ => []) Tryz.func31 fun os xs K h => by
  obtain ⟨id, j, lm, rfl, rfl, hl, hk⟩ := h
  have hb : (j.rc.length : Int) = j.rc.length ∧ (0 : Int) ≤ j.rc.length ∧ (j.rc.length : Int) * 8 ≤ 140737488355328 := ⟨rfl, by omega, by simp only [big] at hl; omega⟩
  have hs : (newSd id j lm).sml := ⟨hl, by simp [newSd], by simp [newSd]; exact hl, by simp [newSd]⟩
  refine zv ?_
  refine ⟨[1], (.take 0 (.take 1 (.take 2 (.take 3 (.take 4 (.take 5 (.br 6 (.take 7 (.br 8 (.br 9 .done .nil) .nil)) .nil))))))), ⟨by kernel_rfl⟩, ?_⟩
  refine zy ?_
  refine ⟨[.agg (newSd id j lm).fz], rfl, lnt, ?_⟩
  refine zy ?_
  refine ⟨newSd id j lm, rfl, rfl, hs, fun m0 m1 m2 m3 => ?_⟩
  refine zv ?_
  exact hk _ _ _ _
def brkS (s : Sd) : Sd := { s with st := 7, at_ := 0, tk := [], ln := [], rest := ByteArray.empty, skip := false }
def brk0 (s : Sd) : Sd := { brkS s with wt := 0 }
def Sd.osF (s : Sd) : List Ob := [.own 3 IT s.rc true false, .own 3 IT s.tk true false, .own 3 IT s.cd true false, .own 9 ST s.ln true false]
def q104 : Sense := ⟨false, fun os xs K => ∃ (s : Sd) (m : Md) (mc : C) (h o : ByteArray), xs = [.one (.ref 0 0)] ∧ os = .box 96 (s.ow 1 ++ (m.cs mc ++ [.str h, .str o])) :: s.osF ∧ (mc = .nil ∨ mc = .sl RT m.rc) ∧
  K [.box 96 ((brkS s).ow 1 ++ (m.cs mc ++ [.str h, .str o])), .own 3 IT s.rc true false, .own 3 IT [] true true, .own 3 IT s.cd true false, .own 9 ST [] true true] (.ret (.tup []))⟩
theorem qk104 : SenseOK G Tryz.prog 104 q104 := SenseOK.anyL Γ0.ok (fun _ => []) [.box 0 8 3 IT, .box 0 13 9 ST] Tryz.func104 fun os xs K hh => by
  obtain ⟨s, m, mc, h, o, rfl, rfl, hm, hk⟩ := hh
  rcases hm with rfl | rfl
  all_goals
    refine zv ?_
    exact hk
def Γ65q : Sems := ext 37 q37 (ext 104 q104 (Γ0))
theorem Γ65q.ok : SemsOK G Tryz.prog Γ65q := ((Γ0.ok.ext Tryz.func104 rfl (by decide) qk104).ext Tryz.func37 rfl (by decide) qk37)
def q65 : Sense := ⟨false, fun os xs K => ∃ s : Sd, xs = [.agg s.fz] ∧ os = [] ∧ s.sml ∧ ∀ m0 m1 m2 m3, K [.own 3 IT s.rc true m0, .own 3 IT [] true m1, .own 3 IT s.cd true m2, .own 9 ST [] true m3] (.ret (.agg ((brk0 s).ow 0)))⟩
theorem qk65 : SenseOK G Tryz.prog 65 q65 := SenseOK.any Γ65q.ok (fun _ => []) Tryz.func65 fun os xs K hh => by
  obtain ⟨s, rfl, rfl, hs, hk⟩ := hh
  refine zy ?_
  refine ⟨s, rfl, rfl, hs, fun m0 m1 m2 m3 => ?_⟩
  refine zy ?_
  refine ⟨s, md0, .nil, ByteArray.empty, ByteArray.empty, rfl, rfl, .inl rfl, ?_⟩
  refine zv ?_
  exact hk _ _ _ _
def Γ41q : Sems := ext 65 (lendS q65) (Γ0)
theorem Γ41q.ok : SemsOK G Tryz.prog Γ41q := (Γ0.ok.ext Tryz.func65 rfl (by decide) (SenseOK.lendL qk65))
def q41 : Sense := ⟨false, fun os xs K => ∃ s : Sd, xs = [.agg (s.ow 0)] ∧ os = s.osF ∧ s.sml ∧ 0 ≤ s.wt ∧ s.wt ≤ 1000 ∧ (s.wt + 1 < 100 → K s.osF (.ret (.agg (({ s with wt := s.wt + 1 } : Sd).ow 0)))) ∧
  (¬ s.wt + 1 < 100 → ∀ m0 m1 m2 m3, K (s.osF ++ [.own 3 IT s.rc true m0, .own 3 IT [] true m1, .own 3 IT s.cd true m2, .own 9 ST [] true m3]) (.ret (.agg ((brk0 s).ow 4))))⟩
theorem qk41 : SenseOK G Tryz.prog 41 q41 := SenseOK.any Γ41q.ok (fun _ => []) Tryz.func41 fun os xs K hh => by
  obtain ⟨s, rfl, rfl, hs, h0, h1, hk0, hk1⟩ := hh
  have w1 := IntWalk.i64_in (s.wt + 1) (by omega)
  by_cases h2 : s.wt + 1 < 100
  · have f1 : decide (s.wt + 1 ≥ 100) = false := decide_eq_false (by omega)
    refine zx2 w1 f1 ?_
    exact hk0 h2
  · have f1 : decide (s.wt + 1 ≥ 100) = true := decide_eq_true (by omega)
    refine zx2 w1 f1 ?_
    refine ⟨[.agg ({ s with wt := s.wt + 1 } : Sd).fz], rfl, lnt, ?_⟩
    refine zy ?_
    refine ⟨{ s with wt := s.wt + 1 }, rfl, rfl, hs, fun m0 m1 m2 m3 => ?_⟩
    refine zv ?_
    exact hk1 h2 _ _ _ _
def q112 : Sense := ⟨false, fun os xs K => ∃ l : List ByteArray, xs = [.one (.sl ST l)] ∧ os = [] ∧ l.length ≤ big ∧ (∀ x ∈ l, x.size ≤ big) ∧ ∀ n : Int, 0 ≤ n ∧ n ≤ 4294967296 → K [] (.ret (.one (.int .i64 n)))⟩
theorem qk112 : SenseOK G Tryz.prog 112 q112 := SenseOK.any Γ0.ok (fun _ => [0, 3, 4]) Tryz.func112 fun os xs K hh => by
  obtain ⟨l, rfl, rfl, hl, hx, hk⟩ := hh
  simp only [big] at hl hx
  refine zv ?_
  refine iter_of (I := fun k σ => ∃ (j : Nat) (n : Int), k = l.length - j ∧ j ≤ l.length ∧ (0 ≤ n ∧ n ≤ 4294967296) ∧ σ = ⟨slots 25 [(0, .one (.sl ST l)), (3, .one (.int .i64 n)), (4, .one (.int .i64 j))], []⟩) ?_ l.length ⟨0, l.length, by omega, by omega, by omega, rfl⟩
  rintro k σ K' ⟨j, n, rfl, hj, hn, rfl⟩ hK'
  have w1 := IntWalk.i64_in (↑j + 1) (by omega)
  by_cases h1 : j < l.length
  case neg =>
    have f1 : decide ((j : Int) < l.length) = false := by simp; omega
    refine zs1 f1 ?_
    exact hk _ hn
  have f1 : decide ((j : Int) < l.length) = true := by simpa using h1
  by_cases h2 : n < 1048576
  case neg =>
    have f2 : decide (n < 1048576) = false := decide_eq_false h2
    refine zs2 f1 f2 ?_
    exact hk _ hn
  have f2 : decide (n < 1048576) = true := decide_eq_true h2
  obtain ⟨x, hr⟩ : ∃ x, l[j]? = some x := ⟨_, List.getElem?_eq_getElem h1⟩
  have rr := nth_of hr ST.dflt
  have hb := hx x (List.mem_of_getElem? hr)
  have w2 := IntWalk.i64_in (n + x.size) (by omega)
  refine zs5 f1 f2 rr w1 w2 ?_
  exact hK' _ _ (by omega) ⟨j + 1, _, rfl, by omega, ⟨by omega, by omega⟩, rfl⟩
def Γ66q : Sems := ext 112 q112 (Γ0)
theorem Γ66q.ok : SemsOK G Tryz.prog Γ66q := (Γ0.ok.ext Tryz.func112 rfl (by decide) qk112)
def Sd.txs (s : Sd) : Prop := s.dom.size ≤ big ∧ s.rest.size ≤ big ∧ ∀ x ∈ s.ln, x.size ≤ big
def q66 : Sense := ⟨false, fun os xs K => ∃ s : Sd, xs = [.agg s.fz] ∧ os = [] ∧ s.sml ∧ s.txs ∧ ∀ n : Int, 0 ≤ n ∧ n ≤ 17179869184 → K [] (.ret (.one (.int .i64 n)))⟩
theorem qk66 : SenseOK G Tryz.prog 66 q66 := SenseOK.any Γ66q.ok (fun _ => []) Tryz.func66 fun os xs K hh => by
  obtain ⟨s, rfl, rfl, ⟨l0, l1, l2, l3⟩, ⟨t0, t1, t2⟩, hk⟩ := hh
  simp only [big] at l0 l1 l2 l3 t0 t1
  have w1 := IntWalk.i64_in ((s.dom.size : Int) + s.rc.length) (by omega)
  have w2 := IntWalk.i64_in ((s.dom.size : Int) + s.rc.length + s.tk.length) (by omega)
  have w3 := IntWalk.i64_in ((s.dom.size : Int) + s.rc.length + s.tk.length + s.cd.length) (by omega)
  have w4 := IntWalk.i64_in ((s.dom.size : Int) + s.rc.length + s.tk.length + s.cd.length + s.rest.size) (by omega)
  refine zv ?_
  refine ⟨[], (.take 0 (.take 1 (.take 2 (.take 3 (.take 4 (.take 5 (.take 6 (.take 7 (.take 8 (.take 9 (.take 10 (.take 11 (.take 12 (.take 13 (.take 14 (.take 15 (.take 16 (.take 17 (.take 18 (.take 19 (.take 20 (.take 21 (.take 22 (.take 23 (.br 24 (.take 25 (.take 26 .done)) .nil))))))))))))))))))))))))), ⟨by kernel_rfl⟩, ?_⟩
  refine zx4 w1 w2 w3 w4 ?_
  refine ⟨s.ln, rfl, trr, l3, t2, fun n hn => ?_⟩
  have w5 := IntWalk.i64_in ((s.dom.size : Int) + s.rc.length + s.tk.length + s.cd.length + s.rest.size + n) (by omega)
  refine zs5 w1 w2 w3 w4 w5 ?_
  exact hk _ (by omega)
def Γ84q : Sems := ext 74 q74 (ext 126 q126 (Γ0))
theorem Γ84q.ok : SemsOK G Tryz.prog Γ84q := ((Γ0.ok.ext Tryz.func126 rfl (by decide) qk126).ext Tryz.func74 rfl (by decide) qk74)
def q84 : Sense := ⟨false, fun os xs K => ∃ s : Sd, xs = [.agg (s.ow 0)] ∧ os = s.osF ∧ s.sml ∧ ∀ b0 b1 b2 b3 m0 m1 m2 m3, K [.own 3 IT b0 true m0, .own 3 IT b1 true m1, .own 3 IT b2 true m2, .own 9 ST b3 true m3] (.ret (.tup []))⟩
theorem qk84 : SenseOK G Tryz.prog 84 q84 := SenseOK.any Γ84q.ok (fun _ => []) Tryz.func84 fun os xs K hh => by
  obtain ⟨s, rfl, rfl, ⟨l0, l1, l2, l3⟩, hk⟩ := hh
  refine zy ?_
  refine ⟨s.rc, true, rfl, rfl, l0, fun b0 => ?_⟩
  refine zy ?_
  refine ⟨s.tk, true, rfl, rfl, l1, fun b1 => ?_⟩
  refine zy ?_
  refine ⟨s.cd, true, rfl, rfl, l2, fun b2 => ?_⟩
  refine zy ?_
  refine ⟨s.ln, true, rfl, rfl, l3, fun b3 => ?_⟩
  refine zy ?_
  exact hk _ _ _ _ _ _ _ _
end Go.Proofs.YtilagaapfbfkkaaGreatDoor.Ab
