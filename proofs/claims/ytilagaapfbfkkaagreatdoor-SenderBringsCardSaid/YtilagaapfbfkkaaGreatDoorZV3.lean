/- Part 3 of 10 of the texts that the sender's rows rest on, put together by a program; no condition. -/
import Derived.Test.YtilagaapfbfkkaaGreatDoorZV2
import Derived.MapKept
set_option maxHeartbeats 128000000
set_option linter.unusedSimpArgs false
set_option linter.unusedVariables false
namespace Go.Proofs.YtilagaapfbfkkaaGreatDoor.Ab
open Go Go.RowKit Go.Proofs.YtilagaapfbfkkaaGreatDoorW.PrintWords
variable {X : Cx} {P : Program} {T : Tab} {Γ : Sems}
abbrev KK (X : Cx) (M : Nat → Prop) (w0 : World) (a : Act) (Q : V → St → Prop) (d : Option Tmp) (K : Act → World → Prop) : Prop :=
  ∀ x σ' v w' lk', Q x σ' → Rel X w' lk' σ' a → Inv X M w0 w' lk' → VRep w' (Imm X w' lk') lk' x v → K (a.put d v) w'
theorem wp_of_yl {M : Nat → Prop} {w0 w : World} {a : Act} {Q : V → St → Prop} {o : Oper} {K : Act → World → Prop} {QQ : Exit → Act → World → Prop} {s : Go.Sem Value} (he : execOp a.eval o = (do pure (Next.value (← s)))) (hy : Yl X M w0 a Q (s.run P w)) (hk : KK X M w0 a Q o.dst K) : o.wp P a w K QQ := by
  obtain ⟨x, σ', v, w', lk', hr, hq, h1, h2, h3⟩ := hy
  unfold Oper.wp
  rw [he, Sem.run_bind, hr]
  exact hk x σ' v w' lk' hq h1 h2 h3
theorem wp_of_pure {M : Nat → Prop} {w0 w : World} {lk : List Value} {σ : St} {a : Act} {Q : V → St → Prop} {o : Oper} {K : Act → World → Prop} {QQ : Exit → Act → World → Prop} {v : Value} {x : V} (he : (execOp a.eval o).run P w = .ok (.value v) w) (hr : Rel X w lk σ a) (hi : Inv X M w0 w lk) (hq : Q x σ) (hv : VRep w (Imm X w lk) lk x v) (hk : KK X M w0 a Q o.dst K) : o.wp P a w K QQ := by
  unfold Oper.wp
  rw [he]
  exact hk x σ v w lk hq hr hi hv
theorem run_callFunc_enter {f : FuncId} {fn : Func} (hf : P.funcs[f]? = some fn) (hb : fn.body.isSome = true) (hn : fn.name ≠ "runtime.NumGoroutine") (args : Array Value) (w : World) : (callFunc f args).run P w = .ok (.enter f args) w := by
  obtain ⟨c, hc⟩ := Option.isSome_iff_exists.1 hb
  simp [callFunc, hf, hn, hc]
theorem field_off (hT : TabOK P T) {s : TypeId} {fs : List (Nat × TypeId)} {sz b : Nat} {z : List C} (ht : T s = some ⟨.struct fs, sz, b, z⟩) {f off : Nat} {ft : TypeId} (hf : nth fs f = some (off, ft)) :
    ∃ F fd i, P.underlying s = some (.struct F) ∧ F[f]? = some fd ∧ fd.offset = off ∧ fd.type = ft ∧ P.info? fd.type = some i ∧ i.size ≠ 0 := by
  obtain ⟨F, hu, hF, hsz⟩ := hT.struct _ _ _ _ _ ht
  rw [nth_get, ← hF] at hf
  obtain ⟨fd, h1, h2⟩ := get_map hf
  simp only [Prod.mk.injEq] at h2
  obtain ⟨i, hi, hi0⟩ := hsz fd (List.mem_of_getElem? h1)
  exact ⟨F, fd, i, hu, by simpa using h1, h2.1, h2.2, hi, hi0⟩
theorem fieldAt_run {s : TypeId} {F : Array Field} {f : Nat} {fd : Field} {i : TypeInfo} {a : Addr} {w : World} (hu : P.underlying s = some (.struct F)) (hf : F[f]? = some fd) (hi : P.info? fd.type = some i) (h0 : i.size ≠ 0) :
    (Instr.fieldAt s (.pointer (some a)) f).run P w = .ok (.pointer (some (a.add fd.offset))) w := by
  simp [Instr.fieldAt, run_underlying hu, hf, Instr.sureAddr, fieldPlace, sizeOf, typeInfo, hi, h0]
theorem part_run_all (hT : TabOK P T) {t : TypeId} {ti : TI} (ht : T t = some ti) {w : World} {I : Nat → Prop} {lk : List Value} {vs : List Value} {l cs : List C} {off : Nat} {v : V} (ha : All2 (Cel w I lk) l vs) (hs : sub off ti.sz l = some cs) (hv : shape T t cs = some v) :
    ∃ r, (∀ w', (part t vs.toArray off).run P w' = .ok r w') ∧ VRep w I lk v r := by
  obtain ⟨i, z, hi, hsz, _⟩ := hT.info t ti ht
  obtain ⟨h1, h2, h3⟩ := sub_all ha hs
  rcases hT.agg ht with ⟨fs, hd, F, hF⟩ | ⟨hd, hs1, d, hud, hn1, hn2⟩
  · refine ⟨.agg (vs.toArray.extract off (off + ti.sz)), fun w' => ?_, ?_⟩
    · simp [part, run_isAgg_struct hF, sizeOf, typeInfo, hi, hsz]
    · unfold shape at hv
      rw [ht] at hv
      obtain ⟨d, s, b, zz⟩ := ti
      simp only at hd; subst hd
      simp at hv; subst hv
      exact ⟨(vs.drop off).take s, by simp [List.extract], h1⟩
  · rw [hs1] at h1 h2 h3
    obtain ⟨c, rfl⟩ : ∃ c, cs = [c] := by
      cases cs with
      | nil => simp at h3
      | cons c l => cases l with
        | nil => exact ⟨c, rfl⟩
        | cons _ _ => simp at h3
    obtain ⟨u, m, hm, hcu, _⟩ := h1.cons_inv
    have hu : vs[off]? = some u := by
      have := congrArg (fun l => l[0]?) hm
      simpa [List.getElem?_take, List.getElem?_drop] using this
    refine ⟨u, fun w' => ?_, ?_⟩
    · simp [part, run_isAgg_not hud hn1 hn2, hu]
    · unfold shape at hv
      rw [ht] at hv
      split at hv
      · rename_i heq; simp only [Option.some.injEq] at heq; rw [heq] at hd; exact absurd rfl (hd _)
      · simp at hv; subst hv
        exact hcu.1
      · cases hv
theorem part_run (hT : TabOK P T) {t : TypeId} {ti : TI} (ht : T t = some ti) {w : World} {I : Nat → Prop} {lk : List Value} {vs : List Value} {l cs : List C} {off : Nat} {v : V} (ha : All2 (Cel w I lk) l vs) (hs : sub off ti.sz l = some cs) (hv : shape T t cs = some v) :
    ∃ r, (part t vs.toArray off).run P w = .ok r w ∧ VRep w I lk v r := by
  obtain ⟨r, h1, h2⟩ := part_run_all hT ht ha hs hv
  exact ⟨r, h1 w, h2⟩
theorem ev_move (hT : TabOK P T) (hΓ : SemsOK X.gr P Γ) {M : Nat → Prop} {w0 w : World} {lk : List Value} {σ : St} {a : Act} {Q : V → St → Prop} {Xk : Ex → St → Prop} {K : Act → World → Prop} {QQ : Exit → Act → World → Prop}
    {dst : Option Tmp} {ty : TypeId} {pos : String} {after : Array Edge} {guard : Option (Nat × Bool)} (x : Operand) (h : evOp T Γ (.move x) σ Q Xk) (hr : Rel X w lk σ a) (hi : Inv X M w0 w lk) (hk : KK X M w0 a Q dst K)
    (hx : ∀ t k n σ' w' lk', Xk (.panic (.ifa t k n)) σ' → Rel X w' lk' σ' a → Inv X M w0 w' lk' → QQ (.panic (panE t k n)) a w') : Oper.wp P ⟨dst, .move x, ty, pos, after, guard⟩ a w K QQ := by
  have hop := opdR_rep hr
  exact wp_of_pure (x := opdR σ x) (v := a.eval x) rfl hr hi h (hop x) hk
theorem ev_assign (hT : TabOK P T) (hΓ : SemsOK X.gr P Γ) {M : Nat → Prop} {w0 w : World} {lk : List Value} {σ : St} {a : Act} {Q : V → St → Prop} {Xk : Ex → St → Prop} {K : Act → World → Prop} {QQ : Exit → Act → World → Prop}
    {dst : Option Tmp} {ty : TypeId} {pos : String} {after : Array Edge} {guard : Option (Nat × Bool)} (x : Operand) (h : evOp T Γ (.assign x) σ Q Xk) (hr : Rel X w lk σ a) (hi : Inv X M w0 w lk) (hk : KK X M w0 a Q dst K)
    (hx : ∀ t k n σ' w' lk', Xk (.panic (.ifa t k n)) σ' → Rel X w' lk' σ' a → Inv X M w0 w' lk' → QQ (.panic (panE t k n)) a w') : Oper.wp P ⟨dst, .assign x, ty, pos, after, guard⟩ a w K QQ := by
  have hop := opdR_rep hr
  exact wp_of_pure (x := opdR σ x) (v := a.eval x) rfl hr hi h (hop x) hk
theorem ev_pick (hT : TabOK P T) (hΓ : SemsOK X.gr P Γ) {M : Nat → Prop} {w0 w : World} {lk : List Value} {σ : St} {a : Act} {Q : V → St → Prop} {Xk : Ex → St → Prop} {K : Act → World → Prop} {QQ : Exit → Act → World → Prop}
    {dst : Option Tmp} {ty : TypeId} {pos : String} {after : Array Edge} {guard : Option (Nat × Bool)} (c x y : Operand) (h : evOp T Γ (.pick c x y) σ Q Xk) (hr : Rel X w lk σ a) (hi : Inv X M w0 w lk) (hk : KK X M w0 a Q dst K)
    (hx : ∀ t k n σ' w' lk', Xk (.panic (.ifa t k n)) σ' → Rel X w' lk' σ' a → Inv X M w0 w' lk' → QQ (.panic (panE t k n)) a w') : Oper.wp P ⟨dst, .pick c x y, ty, pos, after, guard⟩ a w K QQ := by
  have hop := opd_rep hr
  simp only [evOp] at h
  split at h
  · rename_i g hc
    have hcv := hop c
    rw [hc] at hcv
    have hcv' : a.eval c = .bool g := hcv
    have he : ∀ r, (if g then a.eval x else a.eval y) = r → (execOp a.eval ⟨dst, .pick c x y, ty, pos, after, guard⟩).run P w = .ok (.value r) w := by
      intro r hr'
      simp [execOp, hcv', asBool, hr']
    split at h
    · rename_i ga bx gb by_ h1 h2
      have hxv : ga.getD true = true → a.eval x = .bool bx := by
        intro hg
        have := opdR_rep hr x
        revert h1 this
        cases hxo : opdR σ x <;> simp [rdW]
        · intro h3 h4 h5; subst h3; subst h4; exact h5
        · intro h3 h4 h5; subst h3; subst h4; exact h5.1 (by simpa using hg)
      have hyv : gb.getD true = true → a.eval y = .bool by_ := by
        intro hg
        have := opdR_rep hr y
        revert h2 this
        cases hxo : opdR σ y <;> simp [rdW]
        · intro h3 h4 h5; subst h3; subst h4; exact h5
        · intro h3 h4 h5; subst h3; subst h4; exact h5.1 (by simpa using hg)
      have hq : (bif g then ga.getD true else gb.getD true) = true ∧ Q (.one (.bool (bif g then bx else by_))) σ := by
        cases ga <;> cases gb <;> simp only [iteO, owed] at h
        · exact ⟨by cases g <;> rfl, h⟩
        · exact ⟨h.1 trivial, h.2⟩
        · exact ⟨h.1 trivial, h.2⟩
        · exact ⟨h.1 trivial, h.2⟩
      refine wp_of_pure (x := .one (.bool (bif g then bx else by_))) (v := .bool (bif g then bx else by_)) (he _ ?_) hr hi hq.2 rfl hk
      cases g
      · exact hyv (by simpa using hq.1)
      · exact hxv (by simpa using hq.1)
    · cases g with
      | true => exact wp_of_pure (he (a.eval x) rfl) hr hi ((Br_iff.1 h).1 rfl) (hop x) hk
      | false => exact wp_of_pure (he (a.eval y) rfl) hr hi ((Br_iff.1 h).2 rfl) (hop y) hk
  · exact h.elim
theorem ev_alloc (hT : TabOK P T) (hΓ : SemsOK X.gr P Γ) {M : Nat → Prop} {w0 w : World} {lk : List Value} {σ : St} {a : Act} {Q : V → St → Prop} {Xk : Ex → St → Prop} {K : Act → World → Prop} {QQ : Exit → Act → World → Prop}
    {dst : Option Tmp} {ty : TypeId} {pos : String} {after : Array Edge} {guard : Option (Nat × Bool)} (e : TypeId) (h : evOp T Γ (.alloc e) σ Q Xk) (hr : Rel X w lk σ a) (hi : Inv X M w0 w lk) (hk : KK X M w0 a Q dst K)
    (hx : ∀ t k n σ' w' lk', Xk (.panic (.ifa t k n)) σ' → Rel X w' lk' σ' a → Inv X M w0 w' lk' → QQ (.panic (panE t k n)) a w') : Oper.wp P ⟨dst, .alloc e, ty, pos, after, guard⟩ a w K QQ := by
  have hop := opd_rep hr
  simp only [evOp] at h
  split at h
  · rename_i ti hti
    obtain ⟨i, z, hinf, _, _, hz, _, hzr⟩ := hT.info e ti hti
    refine wp_of_yl (s := Instr.alloc e true (.tuple #[])) rfl ?_ hk
    have := boxed_sound h hr hi (hzr w (Imm X w lk) lk)
    have he : (Instr.alloc e true (.tuple #[])).run P w = .ok (.pointer (some ⟨w.heap.size, 0, none⟩)) (w.alloc (.cells z.cells.toList.toArray e)) := by
      simp [Instr.alloc, zeroValue, typeInfo, hinf, hz, newVar, newRow]
    rw [he]; exact this
  · exact h.elim
theorem ev_box (hT : TabOK P T) (hΓ : SemsOK X.gr P Γ) {M : Nat → Prop} {w0 w : World} {lk : List Value} {σ : St} {a : Act} {Q : V → St → Prop} {Xk : Ex → St → Prop} {K : Act → World → Prop} {QQ : Exit → Act → World → Prop}
    {dst : Option Tmp} {ty : TypeId} {pos : String} {after : Array Edge} {guard : Option (Nat × Bool)} (e : TypeId) (x : Operand) (h : evOp T Γ (.box e x) σ Q Xk) (hr : Rel X w lk σ a) (hi : Inv X M w0 w lk) (hk : KK X M w0 a Q dst K)
    (hx : ∀ t k n σ' w' lk', Xk (.panic (.ifa t k n)) σ' → Rel X w' lk' σ' a → Inv X M w0 w' lk' → QQ (.panic (panE t k n)) a w') : Oper.wp P ⟨dst, .box e x, ty, pos, after, guard⟩ a w K QQ := by
  have hop := opd_rep hr
  simp only [evOp] at h
  split at h
  · rename_i ti cs hti hcs
    split at h
    · refine wp_of_yl (s := Instr.box e (a.eval x)) rfl ?_ hk
      have := boxed_sound h hr hi (cells_rep (hop x) hcs)
      have he : (Instr.box e (a.eval x)).run P w = .ok (.pointer (some ⟨w.heap.size, 0, none⟩)) (w.alloc (.cells (a.eval x).cells.toList.toArray e)) := by
        simp [Instr.box, newVar, newRow]
      rw [he]; exact this
    · exact h.elim
  · exact h.elim
theorem ev_build (hT : TabOK P T) (hΓ : SemsOK X.gr P Γ) {M : Nat → Prop} {w0 w : World} {lk : List Value} {σ : St} {a : Act} {Q : V → St → Prop} {Xk : Ex → St → Prop} {K : Act → World → Prop} {QQ : Exit → Act → World → Prop}
    {dst : Option Tmp} {ty : TypeId} {pos : String} {after : Array Edge} {guard : Option (Nat × Bool)} (t : TypeId) (ps : Array (Nat × Operand)) (h : evOp T Γ (.build t ps) σ Q Xk) (hr : Rel X w lk σ a) (hi : Inv X M w0 w lk) (hk : KK X M w0 a Q dst K)
    (hx : ∀ t k n σ' w' lk', Xk (.panic (.ifa t k n)) σ' → Rel X w' lk' σ' a → Inv X M w0 w' lk' → QQ (.panic (panE t k n)) a w') : Oper.wp P ⟨dst, .build t ps, ty, pos, after, guard⟩ a w K QQ := by
  have hop := opd_rep hr
  simp only [evOp] at h
  split at h
  · rename_i fs sz by_ z ht
    split at h
    · rename_i cs hcs
      rw [mkL_iff] at h
      obtain ⟨v, he, hv⟩ := build_sound hT ht hr hcs
      exact wp_of_yl (s := Instr.build t (ps.map fun (i, x) => (i, a.eval x))) rfl (Yl.pure hr hi h hv (he w)) hk
    · exact h.elim
  · exact h.elim
theorem ev_buildSlice (hT : TabOK P T) (hΓ : SemsOK X.gr P Γ) {M : Nat → Prop} {w0 w : World} {lk : List Value} {σ : St} {a : Act} {Q : V → St → Prop} {Xk : Ex → St → Prop} {K : Act → World → Prop} {QQ : Exit → Act → World → Prop}
    {dst : Option Tmp} {ty : TypeId} {pos : String} {after : Array Edge} {guard : Option (Nat × Bool)} (t : TypeId) (n : Nat) (ps : Array (Nat × Operand)) (h : evOp T Γ (.buildSlice t n ps) σ Q Xk) (hr : Rel X w lk σ a) (hi : Inv X M w0 w lk) (hk : KK X M w0 a Q dst K)
    (hx : ∀ t k n σ' w' lk', Xk (.panic (.ifa t k n)) σ' → Rel X w' lk' σ' a → Inv X M w0 w' lk' → QQ (.panic (panE t k n)) a w') : Oper.wp P ⟨dst, .buildSlice t n ps, ty, pos, after, guard⟩ a w K QQ := by
  have hop := opd_rep hr
  simp only [evOp] at h
  split at h
  · rename_i e te sz by_ z ht
    split at h
    · rename_i hcond
      obtain ⟨lk', σ', l', h2, hr', hi', _, _⟩ := frzAll_sound (us := []) _ h hr hi trivial
      have hy := buildSlice_sound (P := P) (a := a) (w := w) hT ht hcond.1 hcond.2.1 hcond.2.2 h2 hr' hi'
      refine wp_of_yl ?_ hy hk
      rfl
    · exact h.elim
  · exact h.elim
theorem ev_load (hT : TabOK P T) (hΓ : SemsOK X.gr P Γ) {M : Nat → Prop} {w0 w : World} {lk : List Value} {σ : St} {a : Act} {Q : V → St → Prop} {Xk : Ex → St → Prop} {K : Act → World → Prop} {QQ : Exit → Act → World → Prop}
    {dst : Option Tmp} {ty : TypeId} {pos : String} {after : Array Edge} {guard : Option (Nat × Bool)} (t : TypeId) (p : Operand) (h : evOp T Γ (.load t p) σ Q Xk) (hr : Rel X w lk σ a) (hi : Inv X M w0 w lk) (hk : KK X M w0 a Q dst K)
    (hx : ∀ t k n σ' w' lk', Xk (.panic (.ifa t k n)) σ' → Rel X w' lk' σ' a → Inv X M w0 w' lk' → QQ (.panic (panE t k n)) a w') : Oper.wp P ⟨dst, .load t p, ty, pos, after, guard⟩ a w K QQ := by
  have hop := opd_rep hr
  simp only [evOp] at h
  split at h
  · rename_i ti c hti hp
    split at h
    · rename_i cs hcs
      rw [mkCs_iff] at h
      split at h
      · rename_i v hsh
        have hpv := hop p
        rw [hp] at hpv
        obtain ⟨ad, us, hpe, hl, ha, hu⟩ := cellsAt_sound hr hcs hpv
        obtain ⟨r, hrun, hrv⟩ := run_load_any hT hti hl hu ha hsh
        refine wp_of_yl (s := Instr.loadAt t (a.eval p)) rfl (Yl.pure hr hi h hrv ?_) hk
        rw [hpe]
        simpa [Instr.loadAt, Instr.sureAddr] using hrun
      · exact h.elim
    · exact h.elim
  · exact h.elim
theorem ev_store (hT : TabOK P T) (hΓ : SemsOK X.gr P Γ) {M : Nat → Prop} {w0 w : World} {lk : List Value} {σ : St} {a : Act} {Q : V → St → Prop} {Xk : Ex → St → Prop} {K : Act → World → Prop} {QQ : Exit → Act → World → Prop}
    {dst : Option Tmp} {ty : TypeId} {pos : String} {after : Array Edge} {guard : Option (Nat × Bool)} (t : TypeId) (p x : Operand) (h : evOp T Γ (.store t p x) σ Q Xk) (hr : Rel X w lk σ a) (hi : Inv X M w0 w lk) (hk : KK X M w0 a Q dst K)
    (hx : ∀ t k n σ' w' lk', Xk (.panic (.ifa t k n)) σ' → Rel X w' lk' σ' a → Inv X M w0 w' lk' → QQ (.panic (panE t k n)) a w') : Oper.wp P ⟨dst, .store t p x, ty, pos, after, guard⟩ a w K QQ := by
  have hop := opd_rep hr
  simp only [evOp] at h
  obtain ⟨σ', w', lk', hrun, hq, hr', hi'⟩ := evStore_sound hT h hr hi (hop p) (hop x)
  unfold Oper.wp
  have he : (execOp a.eval ⟨dst, .store t p x, ty, pos, after, guard⟩).run P w = .ok .skip w' := by
    show ((do Instr.storeAt t (a.eval p) (a.eval x); pure Next.skip : Go.Sem Next)).run P w = _
    rw [Sem.run_bind, hrun]; rfl
  rw [he]
  exact hk _ σ' undef w' lk' hq hr' hi' trivial
theorem eqC_shape {n : Nat} {t : TypeId} {xs ys : List C} {b : Bool} (h : eqC T n t xs ys = some b) : ∃ v v', shape T t xs = some v ∧ shape T t ys = some v' := by
  cases n with
  | zero => cases h
  | succ n =>
    unfold eqC at h
    unfold shape
    split at h
    · rename_i ht; rw [ht]; split at h
      · exact ⟨_, _, rfl, rfl⟩
      · cases h
    · rename_i ht; rw [ht]; split at h
      · exact ⟨_, _, rfl, rfl⟩
      · cases h
    · rename_i ht; rw [ht]; split at h
      · exact ⟨_, _, rfl, rfl⟩
      · cases h
    · rename_i ht; rw [ht]; exact ⟨_, _, rfl, rfl⟩
    · cases h
theorem eqFs_sound (hT : TabOK P T) {w w' : World} {I : Nat → Prop} {lk : List Value} {f : TypeId → List C → List C → Option Bool} {d : Nat}
    (hf : ∀ t xs ys b, f t xs ys = some b → (∃ v v', shape T t xs = some v ∧ shape T t ys = some v') ∧ ∀ v v' A B, shape T t xs = some v → shape T t ys = some v' → VRep w I lk v A → VRep w I lk v' B → (Op.equalIn d t A B).run P w' = .ok b w')
    {xs ys : List C} {us vs : List Value} (hx : All2 (Cel w I lk) xs us) (hy : All2 (Cel w I lk) ys vs) :
    ∀ (F : List Field) (b : Bool), (∀ g ∈ F, (g.name == "_") = false) → eqFsK T f (F.map fun g => (g.offset, g.type)) xs ys = some b → (Op.eqFields d us.toArray vs.toArray F).run P w' = .ok b w'
  | [], b, _, h => by simp only [List.map_nil, eqFsK, Option.some.injEq] at h; subst h; exact eqf_nil
  | g :: F, b, hn, h => by
    simp only [List.map_cons, eqFsK] at h
    split at h
    · rename_i ti hti
      split at h
      · rename_i a c ha hc
        split at h
        · rename_i p q hp hq
          simp only [Option.some.injEq] at h
          subst h
          obtain ⟨⟨v, v', h1, h2⟩, h3⟩ := hf _ _ _ _ hp
          obtain ⟨r, hr1, hr2⟩ := part_run_all hT hti hx ha h1
          obtain ⟨r', hr3, hr4⟩ := part_run_all hT hti hy hc h2
          exact eqf_cons (hn g (by simp)) (hr1 w') (hr3 w') (h3 v v' r r' h1 h2 hr2 hr4) (eqFs_sound hT hf hx hy F q (fun z hz => hn z (by simp [hz])) hq)
        · cases h
      · cases h
    · cases h
theorem eqC_sound (hT : TabOK P T) {w w' : World} {I : Nat → Prop} {lk : List Value} : ∀ (n m : Nat) (t : TypeId) (xs ys : List C) (b : Bool), eqC T n t xs ys = some b → ∀ v v' A B, shape T t xs = some v → shape T t ys = some v' → VRep w I lk v A → VRep w I lk v' B → (Op.equalIn (m + n) t A B).run P w' = .ok b w'
  | 0, m, t, xs, ys, b, h => by cases h
  | n + 1, m, t, xs, ys, b, h => by
    intro v v' A B h1 h2 hA hB
    unfold eqC at h
    unfold shape at h1 h2
    split at h
    · rename_i ht
      rw [ht] at h1 h2
      split at h
      · split at h
        · rename_i hk
          subst hk
          cases h1; cases h2; cases h
          obtain rfl : A = _ := hA
          obtain rfl : B = _ := hB
          exact run_equalIn_int w' (m + n) t _ _ _ _ (hT.int _ _ _ _ _ ht).1
        · cases h
      · cases h
    · rename_i ht
      rw [ht] at h1 h2
      split at h
      · cases h1; cases h2; cases h
        obtain rfl : A = _ := hA
        obtain rfl : B = _ := hB
        exact run_equalIn_bool' w' (m + n) t _ _ (hT.bool _ _ _ _ ht).1
      · cases h
    · rename_i ht
      rw [ht] at h1 h2
      split at h
      · cases h1; cases h2; cases h
        obtain rfl : A = _ := hA
        obtain rfl : B = _ := hB
        exact run_equalIn_string w' (m + n) t _ _ (hT.str _ _ _ _ ht).1
      · cases h
    · rename_i fs s b' z ht
      rw [ht] at h1 h2
      cases h1; cases h2
      obtain ⟨us, rfl, hx⟩ := hA
      obtain ⟨vs, rfl, hy⟩ := hB
      obtain ⟨F, hu, hF, _⟩ := hT.struct _ _ _ _ _ ht
      obtain ⟨F', hu', hs, _, hn⟩ := hT.eqs _ _ _ _ _ ht
      rw [hu] at hu'
      cases hu'
      rw [← hF] at h
      exact eqA_of hu hs (eqFs_sound hT (fun t xs ys b h => ⟨eqC_shape h, eqC_sound hT n m t xs ys b h⟩) hx hy F.toList b hn h)
    · cases h
theorem eqO_sound {op : BinOp} {t : TypeId} {x y : Operand} {r : Bool} {Q : V → Prop} {w : World} {I : Nat → Prop} {lk : List Value} {va vb : Value} (h : eqO op r Q)
    (hg : (eqGuard op t x y va vb).run P w = .ok () w) (he : (Op.equal t va vb).run P w = .ok r w) (h1 : binOp .eql t va vb = (do pure (.bool (← Op.equal t va vb)))) (h2 : binOp .neq t va vb = (do pure (.bool (!(← Op.equal t va vb))))) :
    ∃ X v, Q X ∧ VRep w I lk X v ∧ (do eqGuard op t x y va vb; binOp op t va vb : Sem Value).run P w = .ok v w := by
  unfold eqO at h
  simp only [Sem.run_bind, hg, Result.andThen_ok]
  split at h
  · exact ⟨_, _, h, rfl, by rw [h1]; simp [Sem.run_bind, he]⟩
  · exact ⟨_, _, h, rfl, by rw [h2]; simp [Sem.run_bind, he]⟩
  · exact h.elim
theorem iface_nil {w : World} (d : Nat) {t t' : TypeId} {x : Value} {ms : Array (String × TypeId)} (hu : P.underlying t = some (.interface ms)) : (Op.equalIn (d + 1) t (.iface t' x) .nilIface).run P w = .ok false w := by
  simp [Op.equalIn, run_underlying hu]
theorem nil_nil {w : World} (d : Nat) {t : TypeId} {ms : Array (String × TypeId)} (hu : P.underlying t = some (.interface ms)) : (Op.equalIn (d + 1) t .nilIface .nilIface).run P w = .ok true w := by
  simp [Op.equalIn, run_underlying hu]
theorem evBin2_sound (hT : TabOK P T) {op : BinOp} {t : TypeId} {x y : Operand} {A B : V} {Q : V → Prop} {w : World} {I : Nat → Prop} {lk : List Value} {va vb : Value}
    (h : evBin2 T op t y A B Q) (ha : VRep w I lk A va) (hb : VRep w I lk B vb) :
    ∃ X v, Q X ∧ VRep w I lk X v ∧ (do eqGuard op t x y va vb; binOp op t va vb : Sem Value).run P w = .ok v w := by
  unfold evBin2 at h
  split at h
  · split at h
    · rename_i fs s b z ht
      split at h
      · rename_i l l' _ _ _ _ r hr
        have hsh : ∀ l, shape T t l = some (.agg l) := fun l => by unfold shape; rw [ht]
        have := eqC_sound (w' := w) hT 9 9991 t _ _ _ hr _ _ va vb (hsh _) (hsh _) ha hb
        obtain ⟨us, rfl, _⟩ := ha
        obtain ⟨vs, rfl, _⟩ := hb
        obtain ⟨F, hu, _, hgt, _⟩ := hT.eqs _ _ _ _ _ ht
        refine eqO_sound h ?_ this (by simp [binOp]) (by simp [binOp])
        cases op <;> simp [eqGuard, Sem.run_bind, hgt]
      · exact h.elim
    · exact h.elim
  · split at h
    · rename_i s b z ht
      obtain ⟨t', x', rfl⟩ := ha
      obtain rfl : vb = _ := hb
      obtain ⟨_, ms, hu⟩ := hT.iface _ _ _ _ ht
      refine eqO_sound h ?_ ?_ (by simp [binOp]) (by simp [binOp])
      · cases op <;> simp [eqGuard]
      · exact iface_nil 9999 hu
    · exact h.elim
  · split at h
    · rename_i s b z c ht
      obtain rfl : va = _ := ha
      obtain rfl : vb = _ := hb
      obtain ⟨_, ms, hu⟩ := hT.iface _ _ _ _ ht
      refine eqO_sound h ?_ ?_ (by simp [binOp]) (by simp [binOp])
      · cases op <;> simp [eqGuard]
      · exact nil_nil 9999 hu
    · exact h.elim
  · exact evBin_sound hT h ha hb
theorem slice_nil {w : World} (d : Nat) {t e : TypeId} (hu : P.underlying t = some (.slice e)) (A : Option Addr) (n c : Nat) : (Op.equalIn (d + 1) t (.slice A n c) (.slice none 0 0)).run P w = .ok A.isNone w := by
  cases A <;> simp [Op.equalIn, run_underlying hu]
theorem nilSl_sound {op : BinOp} {t e : TypeId} {x : Operand} {r : Bool} {Q : V → Prop} {w : World} {I : Nat → Prop} {lk : List Value} (hu : P.underlying t = some (.slice e)) {A : Option Addr} {n c : Nat} (hr : A.isNone = r) (h : eqO op r Q) :
    ∃ X v, Q X ∧ VRep w I lk X v ∧ (do eqGuard op t x (.const (.slice none 0 0)) (.slice A n c) (.slice none 0 0); binOp op t (.slice A n c) (.slice none 0 0) : Sem Value).run P w = .ok v w := by
  refine eqO_sound h (eqGuard_one op t x _ w (by simp) (by simp)) ?_ rfl rfl
  subst hr
  exact slice_nil 9999 hu A n c
theorem nilEq_sound {α : Type} {xs : List α} {op : BinOp} {t e : TypeId} {x : Operand} {Q : V → Prop} {w : World} {I : Nat → Prop} {lk : List Value} (hu : P.underlying t = some (.slice e)) {A : Option Addr} {n c : Nat} (hA : 0 < xs.length → A.isNone = false) (h : nilEq op (nonE xs) Q) :
    ∃ X v, Q X ∧ VRep w I lk X v ∧ (do eqGuard op t x (.const (.slice none 0 0)) (.slice A n c) (.slice none 0 0); binOp op t (.slice A n c) (.slice none 0 0) : Sem Value).run P w = .ok v w := by
  unfold nilEq at h
  rw [Br_iff, Both_iff] at h
  cases xs with
  | cons y l => exact nilSl_sound hu (hA (by simp)) (h.1 rfl)
  | nil =>
    cases hA' : A.isNone with
    | true => exact nilSl_sound hu hA' (h.2 rfl).1
    | false => exact nilSl_sound hu hA' (h.2 rfl).2
theorem ev_binOp (hT : TabOK P T) (hΓ : SemsOK X.gr P Γ) {M : Nat → Prop} {w0 w : World} {lk : List Value} {σ : St} {a : Act} {Q : V → St → Prop} {Xk : Ex → St → Prop} {K : Act → World → Prop} {QQ : Exit → Act → World → Prop}
    {dst : Option Tmp} {ty : TypeId} {pos : String} {after : Array Edge} {guard : Option (Nat × Bool)} (op : BinOp) (t : TypeId) (x y : Operand) (yt : TypeId) (h : evOp T Γ (.binOp op t x y yt) σ Q Xk) (hr : Rel X w lk σ a) (hi : Inv X M w0 w lk) (hk : KK X M w0 a Q dst K)
    (hx : ∀ t k n σ' w' lk', Xk (.panic (.ifa t k n)) σ' → Rel X w' lk' σ' a → Inv X M w0 w' lk' → QQ (.panic (panE t k n)) a w') : Oper.wp P ⟨dst, .binOp op t x y yt, ty, pos, after, guard⟩ a w K QQ := by
  have hop := opd_rep hr
  simp only [evOp] at h
  refine wp_of_yl (s := (do eqGuard op t x y (a.eval x) (a.eval y); binOp op t (a.eval x) (a.eval y))) rfl ?_ hk
  split at h
  · rename_i e te sz by_ z ht
    have hxv := hop x
    obtain ⟨hu, _⟩ := hT.slice _ _ _ _ _ _ ht
    have hye : a.eval (.const (.slice none 0 0)) = .slice none 0 0 := rfl
    split at h
    · rename_i hxo
      rw [hxo] at hxv
      have hxe : a.eval x = .slice none 0 0 := hxv
      obtain ⟨V', v, hq, hv, he⟩ := nilSl_sound (P := P) (w := w) (I := Imm X w lk) (lk := lk) (x := x) hu (A := none) (n := 0) (c := 0) (r := true) (by simp) h
      rw [hxe, hye]
      exact Yl.pure hr hi hq hv he
    · rename_i te' xs hxo
      rw [hxo] at hxv
      obtain ⟨A, c, hxe, hc, hsr⟩ := hxv
      rw [hxe, hye]
      obtain ⟨V', v, hq, hv, he⟩ := nilEq_sound (P := P) (w := w) (I := Imm X w lk) (lk := lk) (x := x) hu (A := A) (c := c) (fun hp => by obtain ⟨ad, rfl, _⟩ := hsr.2 hp; rfl) h
      exact Yl.pure hr hi hq hv he
    · rename_i i hxo
      rw [hxo] at hxv
      rw [nth_get] at h
      split at h
      · rename_i e' te' xs ap mv ho
        obtain ⟨hlk, _⟩ := hxv
        obtain ⟨cells, _, hv⟩ := hr.ob i _ _ ho hlk
        rcases hv with ⟨hxe, rfl⟩ | ⟨g, cap, cur, fr, hxe, _⟩
        · obtain ⟨V', v, hq, hv, he⟩ := nilEq_sound (P := P) (w := w) (I := Imm X w lk) (lk := lk) (x := x) hu (A := none) (c := 0) (fun hp => by simp at hp) h
          rw [hxe, hye]
          exact Yl.pure hr hi hq hv he
        · obtain ⟨V', v, hq, hv, he⟩ := nilEq_sound (P := P) (w := w) (I := Imm X w lk) (lk := lk) (x := x) hu (A := some ⟨g, 0, none⟩) (c := cap) (fun _ => rfl) h
          rw [hxe, hye]
          exact Yl.pure hr hi hq hv he
      · exact h.elim
    · exact h.elim
  · obtain ⟨V', v, hq, hv, he⟩ := evBin2_sound (x := x) hT h (hop x) (hop _)
    exact Yl.pure hr hi hq hv he
theorem ev_unOp (hT : TabOK P T) (hΓ : SemsOK X.gr P Γ) {M : Nat → Prop} {w0 w : World} {lk : List Value} {σ : St} {a : Act} {Q : V → St → Prop} {Xk : Ex → St → Prop} {K : Act → World → Prop} {QQ : Exit → Act → World → Prop}
    {dst : Option Tmp} {ty : TypeId} {pos : String} {after : Array Edge} {guard : Option (Nat × Bool)} (op : UnOp) (t : TypeId) (x : Operand) (h : evOp T Γ (.unOp op t x) σ Q Xk) (hr : Rel X w lk σ a) (hi : Inv X M w0 w lk) (hk : KK X M w0 a Q dst K)
    (hx : ∀ t k n σ' w' lk', Xk (.panic (.ifa t k n)) σ' → Rel X w' lk' σ' a → Inv X M w0 w' lk' → QQ (.panic (panE t k n)) a w') : Oper.wp P ⟨dst, .unOp op t x, ty, pos, after, guard⟩ a w K QQ := by
  have hop := opd_rep hr
  simp only [evOp] at h
  obtain ⟨V', v, hq, hv, he⟩ := evUn_sound (P := P) h (hop x)
  exact wp_of_yl (s := Op.unary op (a.eval x)) rfl (Yl.pure hr hi hq hv he) hk
theorem ev_convert (hT : TabOK P T) (hΓ : SemsOK X.gr P Γ) {M : Nat → Prop} {w0 w : World} {lk : List Value} {σ : St} {a : Act} {Q : V → St → Prop} {Xk : Ex → St → Prop} {K : Act → World → Prop} {QQ : Exit → Act → World → Prop}
    {dst : Option Tmp} {ty : TypeId} {pos : String} {after : Array Edge} {guard : Option (Nat × Bool)} (s d : TypeId) (x : Operand) (h : evOp T Γ (.convert s d x) σ Q Xk) (hr : Rel X w lk σ a) (hi : Inv X M w0 w lk) (hk : KK X M w0 a Q dst K)
    (hx : ∀ t k n σ' w' lk', Xk (.panic (.ifa t k n)) σ' → Rel X w' lk' σ' a → Inv X M w0 w' lk' → QQ (.panic (panE t k n)) a w') : Oper.wp P ⟨dst, .convert s d x, ty, pos, after, guard⟩ a w K QQ := by
  have hop := opd_rep hr
  simp only [evOp] at h
  exact wp_of_yl (s := convert s d (a.eval x)) rfl (evConv_sound hT h hr hi (hop x)) hk
theorem ev_makeSlice (hT : TabOK P T) (hΓ : SemsOK X.gr P Γ) {M : Nat → Prop} {w0 w : World} {lk : List Value} {σ : St} {a : Act} {Q : V → St → Prop} {Xk : Ex → St → Prop} {K : Act → World → Prop} {QQ : Exit → Act → World → Prop}
    {dst : Option Tmp} {ty : TypeId} {pos : String} {after : Array Edge} {guard : Option (Nat × Bool)} (t : TypeId) (n c : Operand) (h : evOp T Γ (.makeSlice t n c) σ Q Xk) (hr : Rel X w lk σ a) (hi : Inv X M w0 w lk) (hk : KK X M w0 a Q dst K)
    (hx : ∀ t k n σ' w' lk', Xk (.panic (.ifa t k n)) σ' → Rel X w' lk' σ' a → Inv X M w0 w' lk' → QQ (.panic (panE t k n)) a w') : Oper.wp P ⟨dst, .makeSlice t n c, ty, pos, after, guard⟩ a w K QQ := by
  have hop := opd_rep hr
  simp only [evOp] at h
  split at h
  · rename_i e te sz by_ z m m' ht hn hc
    have hnv := hop n
    have hcv := hop c
    rw [hn] at hnv
    rw [hc] at hcv
    have hnv' : a.eval n = .int .i64 m := hnv
    have hcv' : a.eval c = .int .i64 m' := hcv
    split at h
    · rename_i ti hti
      obtain ⟨⟨rfl, h0, hb⟩, hq⟩ := h
      refine wp_of_yl (s := Instr.makeSlice t (a.eval n) (a.eval c)) rfl ?_ hk
      rw [hnv', hcv']
      exact make_sound hT ht hti h0 hb hq hr hi
    · exact h.elim
  · exact h.elim
theorem ev_slice (hT : TabOK P T) (hΓ : SemsOK X.gr P Γ) {M : Nat → Prop} {w0 w : World} {lk : List Value} {σ : St} {a : Act} {Q : V → St → Prop} {Xk : Ex → St → Prop} {K : Act → World → Prop} {QQ : Exit → Act → World → Prop}
    {dst : Option Tmp} {ty : TypeId} {pos : String} {after : Array Edge} {guard : Option (Nat × Bool)} (t : TypeId) (x : Operand) (lo hi' mx : Option Operand) (h : evOp T Γ (.slice t x lo hi' mx) σ Q Xk) (hr : Rel X w lk σ a) (hi : Inv X M w0 w lk) (hk : KK X M w0 a Q dst K)
    (hx : ∀ t k n σ' w' lk', Xk (.panic (.ifa t k n)) σ' → Rel X w' lk' σ' a → Inv X M w0 w' lk' → QQ (.panic (panE t k n)) a w') : Oper.wp P ⟨dst, .slice t x lo hi' mx, ty, pos, after, guard⟩ a w K QQ := by
  have hop := opd_rep hr
  simp only [evOp] at h
  split at h
  · rename_i ti hti
    split at h
    · rename_i i hxo
      rw [St.mkAll_iff] at h
      obtain ⟨lk', hr', hi2, _⟩ := hr.frz1 hi i
      exact wp_of_yl (s := Instr.sliceAt t (a.eval x) (lo.map a.eval) (hi'.map a.eval) (mx.map a.eval)) rfl (evSlice_sound hT hti h hr' hi2 (opd_rep hr' x)) hk
    · exact wp_of_yl (s := Instr.sliceAt t (a.eval x) (lo.map a.eval) (hi'.map a.eval) (mx.map a.eval)) rfl (evSlice_sound hT hti h hr hi (hop x)) hk
  · exact h.elim
theorem ev_fieldAddr (hT : TabOK P T) (hΓ : SemsOK X.gr P Γ) {M : Nat → Prop} {w0 w : World} {lk : List Value} {σ : St} {a : Act} {Q : V → St → Prop} {Xk : Ex → St → Prop} {K : Act → World → Prop} {QQ : Exit → Act → World → Prop}
    {dst : Option Tmp} {ty : TypeId} {pos : String} {after : Array Edge} {guard : Option (Nat × Bool)} (s : TypeId) (p : Operand) (f : Nat) (h : evOp T Γ (.fieldAddr s p f) σ Q Xk) (hr : Rel X w lk σ a) (hi : Inv X M w0 w lk) (hk : KK X M w0 a Q dst K)
    (hx : ∀ t k n σ' w' lk', Xk (.panic (.ifa t k n)) σ' → Rel X w' lk' σ' a → Inv X M w0 w' lk' → QQ (.panic (panE t k n)) a w') : Oper.wp P ⟨dst, .fieldAddr s p f, ty, pos, after, guard⟩ a w K QQ := by
  have hop := opd_rep hr
  simp only [evOp] at h
  split at h
  · rename_i fs sz by_ z ht
    have hpv := hop p
    split at h
    · rename_i off ft i o' hf hp
      rw [hp] at hpv
      obtain ⟨F, fd, inf, hu, hff, rfl, _, hinf, h0⟩ := field_off hT ht hf
      obtain ⟨b, hb, hpe⟩ := hpv
      refine wp_of_yl (s := Instr.fieldAt s (a.eval p) f) rfl (Yl.pure (v := .pointer (some ⟨b, o' + fd.offset, none⟩)) hr hi h ⟨b, hb, rfl⟩ ?_) hk
      rw [hpe, fieldAt_run hu hff hinf h0, add_mk]
    · rename_i off ft t' i j o' hf hp
      rw [hp] at hpv
      obtain ⟨F, fd, inf, hu, hff, rfl, _, hinf, h0⟩ := field_off hT ht hf
      obtain ⟨g, n, c, hb, hj, hpe⟩ := hpv
      refine wp_of_yl (s := Instr.fieldAt s (a.eval p) f) rfl (Yl.pure (v := .pointer (some ⟨g, j * t'.sz + (o' + fd.offset), none⟩)) hr hi h ⟨g, n, c, hb, hj, rfl⟩ ?_) hk
      rw [hpe, fieldAt_run hu hff hinf h0, add_mk, Nat.add_assoc]
    · rename_i off ft t' x' o' hf hp
      rw [hp] at hpv
      obtain ⟨F, fd, inf, hu, hff, rfl, _, hinf, h0⟩ := field_off hT ht hf
      obtain ⟨ad, m, us, hI, hs, hl, htr, hc, hpe⟩ := hpv
      refine wp_of_yl (s := Instr.fieldAt s (a.eval p) f) rfl (Yl.pure (v := .pointer (some (ad.add (m + (o' + fd.offset))))) hr hi h ⟨ad, m, us, hI, hs, hl, htr, hc, rfl⟩ ?_) hk
      rw [hpe, fieldAt_run hu hff hinf h0, add_add hs, Nat.add_assoc]
    · exact h.elim
  · exact h.elim
theorem ev_field (hT : TabOK P T) (hΓ : SemsOK X.gr P Γ) {M : Nat → Prop} {w0 w : World} {lk : List Value} {σ : St} {a : Act} {Q : V → St → Prop} {Xk : Ex → St → Prop} {K : Act → World → Prop} {QQ : Exit → Act → World → Prop}
    {dst : Option Tmp} {ty : TypeId} {pos : String} {after : Array Edge} {guard : Option (Nat × Bool)} (s : TypeId) (x : Operand) (f : Nat) (h : evOp T Γ (.field s x f) σ Q Xk) (hr : Rel X w lk σ a) (hi : Inv X M w0 w lk) (hk : KK X M w0 a Q dst K)
    (hx : ∀ t k n σ' w' lk', Xk (.panic (.ifa t k n)) σ' → Rel X w' lk' σ' a → Inv X M w0 w' lk' → QQ (.panic (panE t k n)) a w') : Oper.wp P ⟨dst, .field s x f, ty, pos, after, guard⟩ a w K QQ := by
  have hop := opd_rep hr
  simp only [evOp] at h
  split at h
  · rename_i fs sz by_ z ht
    split at h
    · rename_i off ft l hf hxo
      split at h
      · rename_i ti hti
        split at h
        · rename_i cs hcs
          rw [mkCs_iff] at h
          split at h
          · rename_i v hsh
            obtain ⟨F, fd, inf, hu, hff, rfl, rfl, hinf, h0⟩ := field_off hT ht hf
            have hxv := hop x
            rw [hxo] at hxv
            obtain ⟨vs, hxe, ha⟩ := hxv
            obtain ⟨r, hrun, hrv⟩ := part_run hT hti ha hcs hsh
            refine wp_of_yl (s := Instr.field s (a.eval x) f) rfl (Yl.pure hr hi h hrv ?_) hk
            rw [hxe]
            simp [Instr.field, run_underlying hu, hff, asAgg, hrun]
          · exact h.elim
        · exact h.elim
      · exact h.elim
    · exact h.elim
  · exact h.elim
theorem ev_indexAddr (hT : TabOK P T) (hΓ : SemsOK X.gr P Γ) {M : Nat → Prop} {w0 w : World} {lk : List Value} {σ : St} {a : Act} {Q : V → St → Prop} {Xk : Ex → St → Prop} {K : Act → World → Prop} {QQ : Exit → Act → World → Prop}
    {dst : Option Tmp} {ty : TypeId} {pos : String} {after : Array Edge} {guard : Option (Nat × Bool)} (t : TypeId) (x i : Operand) (h : evOp T Γ (.indexAddr t x i) σ Q Xk) (hr : Rel X w lk σ a) (hi : Inv X M w0 w lk) (hk : KK X M w0 a Q dst K)
    (hx : ∀ t k n σ' w' lk', Xk (.panic (.ifa t k n)) σ' → Rel X w' lk' σ' a → Inv X M w0 w' lk' → QQ (.panic (panE t k n)) a w') : Oper.wp P ⟨dst, .indexAddr t x i, ty, pos, after, guard⟩ a w K QQ := by
  have hop := opd_rep hr
  simp only [evOp] at h
  split at h
  · rename_i e te sz by_ z k n ht hio
    obtain ⟨hu, _, ti, hte, hsz, _⟩ := hT.slice _ _ _ _ _ _ ht
    obtain ⟨inf, zv, hinf, hisz, _⟩ := hT.info e ti hte
    have hiv := hop i
    rw [hio] at hiv
    have hiv' : a.eval i = .int k n := hiv
    have hxv := hop x
    have hrun : ∀ (ad : Addr) (m c : Nat), 0 ≤ n → n < m → (Instr.indexAt t (.slice (some ad) m c) (.int k n)).run P w = .ok (.pointer (some (ad.add (n.toNat * te.sz)))) w := by
      intro ad m c h0 h1
      simp [Instr.indexAt, asIntOf, run_underlying hu, h0, h1, sizeOf, typeInfo, hinf, hisz, hsz]
    split at h
    · rename_i t' xs hxo
      split at h
      · rename_i hte'
        subst hte'
        obtain ⟨⟨h0, h1⟩, hq⟩ := h
        rw [hxo] at hxv
        obtain ⟨A, c, hxe, hc, hsr⟩ := hxv
        obtain ⟨ad, rfl, hI, hcell⟩ := hsr.2 (by omega)
        have hx0 : xs[n.toNat]? = some (rdx xs n.toNat t'.dflt) := by
          have : n.toNat < xs.length := by omega
          simp [rdx, List.getD, List.getElem?_eq_getElem this]
        obtain ⟨cs, hl, htr, hcu⟩ := hcell _ _ hx0
        have hsp : ad.spot = none := by
          obtain ⟨cs0, hl0, _, hu0⟩ := hcell 0 _ (List.getElem?_eq_getElem (by omega))
          have hpos := t'.sz_pos
          have := hu0 0 _ (List.getElem?_eq_getElem (by omega))
          simp only [Nat.zero_mul, Nat.zero_add] at this
          have := cell_spot this
          simpa [Addr.add] using this
        refine wp_of_yl (s := Instr.indexAt t (a.eval x) (a.eval i)) rfl (Yl.pure (v := .pointer (some (ad.add (n.toNat * t'.sz + 0)))) hr hi hq ⟨ad, n.toNat * t'.sz, cs, hI, hsp, hl, htr, hcu, rfl⟩ ?_) hk
        rw [hxe, hiv', Nat.add_zero]
        exact hrun ad _ c h0 h1
      · exact h.elim
    · rename_i j hxo
      rw [nth_get] at h
      split at h
      · rename_i e' te' xs ap mv ho
        split at h
        · rename_i hte'
          subst hte'
          obtain ⟨⟨h0, h1⟩, hq⟩ := h
          rw [hxo] at hxv
          obtain ⟨hlk, _⟩ := hxv
          obtain ⟨cells, hreps, hv⟩ := hr.ob j _ _ ho hlk
          rcases hv with ⟨_, rfl⟩ | ⟨g, cap, cur, fr, hxe, _⟩
          · simp at h1; omega
          · refine wp_of_yl (s := Instr.indexAt t (a.eval x) (a.eval i)) rfl (Yl.pure (v := .pointer (some ⟨g, n.toNat * te'.sz + 0, none⟩)) hr hi hq ⟨g, xs.length, cap, by rw [hlk, hxe], by omega, rfl⟩ ?_) hk
            rw [hxe, hiv', hrun _ _ _ h0 h1, add_mk]; simp
        · exact h.elim
      · exact h.elim
    · exact h.elim
  · exact h.elim
theorem ev_index (hT : TabOK P T) (hΓ : SemsOK X.gr P Γ) {M : Nat → Prop} {w0 w : World} {lk : List Value} {σ : St} {a : Act} {Q : V → St → Prop} {Xk : Ex → St → Prop} {K : Act → World → Prop} {QQ : Exit → Act → World → Prop}
    {dst : Option Tmp} {ty : TypeId} {pos : String} {after : Array Edge} {guard : Option (Nat × Bool)} (t : TypeId) (x i : Operand) (h : evOp T Γ (.index t x i) σ Q Xk) (hr : Rel X w lk σ a) (hi : Inv X M w0 w lk) (hk : KK X M w0 a Q dst K)
    (hx : ∀ t k n σ' w' lk', Xk (.panic (.ifa t k n)) σ' → Rel X w' lk' σ' a → Inv X M w0 w' lk' → QQ (.panic (panE t k n)) a w') : Oper.wp P ⟨dst, .index t x i, ty, pos, after, guard⟩ a w K QQ := by
  have hop := opd_rep hr
  simp only [evOp] at h
  split at h
  · rename_i sz by_ z s k n ht hxo hio
    have hu := (hT.str _ _ _ _ ht).1
    obtain ⟨⟨h0, h1⟩, hq⟩ := h
    have hxv := hop x
    have hiv := hop i
    rw [hxo] at hxv
    rw [hio] at hiv
    have hxv' : a.eval x = .string s := hxv
    have hiv' : a.eval i = .int k n := hiv
    refine wp_of_yl (s := Instr.index t (a.eval x) (a.eval i)) rfl (Yl.pure hr hi hq rfl ?_) hk
    rw [hxv', hiv']
    exact index_sound hu h0 h1
  · exact h.elim
theorem ev_extract (hT : TabOK P T) (hΓ : SemsOK X.gr P Γ) {M : Nat → Prop} {w0 w : World} {lk : List Value} {σ : St} {a : Act} {Q : V → St → Prop} {Xk : Ex → St → Prop} {K : Act → World → Prop} {QQ : Exit → Act → World → Prop}
    {dst : Option Tmp} {ty : TypeId} {pos : String} {after : Array Edge} {guard : Option (Nat × Bool)} (x : Operand) (i : Nat) (h : evOp T Γ (.extract x i) σ Q Xk) (hr : Rel X w lk σ a) (hi : Inv X M w0 w lk) (hk : KK X M w0 a Q dst K)
    (hx : ∀ t k n σ' w' lk', Xk (.panic (.ifa t k n)) σ' → Rel X w' lk' σ' a → Inv X M w0 w' lk' → QQ (.panic (panE t k n)) a w') : Oper.wp P ⟨dst, .extract x i, ty, pos, after, guard⟩ a w K QQ := by
  have hop := opd_rep hr
  simp only [evOp] at h
  split at h
  · rename_i l hxo
    have hxv := hop x
    rw [hxo] at hxv
    obtain ⟨vs, hxe, ha⟩ := hxv
    rw [nth_get] at h
    have key : ∀ e, l[i]? = some e → ∃ u, (Instr.extract (a.eval x) i).run P w = .ok u w ∧ ERep w (Imm X w lk) lk e u := by
      intro e he
      obtain ⟨u, hu, hru⟩ := ha.get he
      exact ⟨u, by rw [hxe]; simp [Instr.extract, hu], hru⟩
    split at h
    · rename_i c hc
      obtain ⟨u, he, hu⟩ := key _ hc
      exact wp_of_yl (s := Instr.extract (a.eval x) i) rfl (Yl.pure (x := .one c) hr hi h hu he) hk
    · rename_i cs hc
      obtain ⟨u, he, hu⟩ := key _ hc
      exact wp_of_yl (s := Instr.extract (a.eval x) i) rfl (Yl.pure (x := .agg cs) hr hi h hu he) hk
    · exact h.elim
  · exact h.elim
theorem ev_makeInterface (hT : TabOK P T) (hΓ : SemsOK X.gr P Γ) {M : Nat → Prop} {w0 w : World} {lk : List Value} {σ : St} {a : Act} {Q : V → St → Prop} {Xk : Ex → St → Prop} {K : Act → World → Prop} {QQ : Exit → Act → World → Prop}
    {dst : Option Tmp} {ty : TypeId} {pos : String} {after : Array Edge} {guard : Option (Nat × Bool)} (t : TypeId) (x : Operand) (h : evOp T Γ (.makeInterface t x) σ Q Xk) (hr : Rel X w lk σ a) (hi : Inv X M w0 w lk) (hk : KK X M w0 a Q dst K)
    (hx : ∀ t k n σ' w' lk', Xk (.panic (.ifa t k n)) σ' → Rel X w' lk' σ' a → Inv X M w0 w' lk' → QQ (.panic (panE t k n)) a w') : Oper.wp P ⟨dst, .makeInterface t x, ty, pos, after, guard⟩ a w K QQ := by
  have hop := opd_rep hr
  simp only [evOp] at h
  split at h
  · rename_i fs sz by_ z k n ht hxo
    obtain ⟨F, hu, _⟩ := hT.struct _ _ _ _ _ ht
    have hxv := hop x
    rw [hxo] at hxv
    obtain ⟨vs, hxe, ha⟩ := hxv
    obtain ⟨u, vs', rfl, hcu, hnil⟩ := ha.cons_inv
    obtain rfl := hnil.nil_inv
    have huu : u = .int k n := hcu.1
    subst huu
    refine wp_of_yl (s := Instr.makeInterface t (a.eval x)) rfl (Yl.pure (v := .iface t (.agg #[.int k n])) hr hi h rfl ?_) hk
    rw [hxe]
    simp [Instr.makeInterface, run_underlying hu]
  · exact h.elim
theorem ev_panic (hT : TabOK P T) (hΓ : SemsOK X.gr P Γ) {M : Nat → Prop} {w0 w : World} {lk : List Value} {σ : St} {a : Act} {Q : V → St → Prop} {Xk : Ex → St → Prop} {K : Act → World → Prop} {QQ : Exit → Act → World → Prop}
    {dst : Option Tmp} {ty : TypeId} {pos : String} {after : Array Edge} {guard : Option (Nat × Bool)} (x : Operand) (h : evOp T Γ (.panic x) σ Q Xk) (hr : Rel X w lk σ a) (hi : Inv X M w0 w lk) (hk : KK X M w0 a Q dst K)
    (hx : ∀ t k n σ' w' lk', Xk (.panic (.ifa t k n)) σ' → Rel X w' lk' σ' a → Inv X M w0 w' lk' → QQ (.panic (panE t k n)) a w') : Oper.wp P ⟨dst, .panic x, ty, pos, after, guard⟩ a w K QQ := by
  have hop := opd_rep hr
  simp only [evOp] at h
  split at h
  · rename_i t k n hxo
    have hxv := hop x
    rw [hxo] at hxv
    have hxe : a.eval x = .iface t (.agg #[.int k n]) := hxv
    unfold Oper.wp
    have he : (execOp a.eval ⟨dst, .panic x, ty, pos, after, guard⟩).run P w = .halt (.panic (.iface t (.agg #[.int k n]))) w := by
      show ((do pure (Next.value (← Instr.panic (a.eval x))) : Go.Sem Next)).run P w = _
      rw [Sem.run_bind, hxe]; rfl
    rw [he]
    exact hx t k n σ w lk h hr hi
  · exact h.elim
theorem ev_call (hT : TabOK P T) (hΓ : SemsOK X.gr P Γ) {M : Nat → Prop} {w0 w : World} {lk : List Value} {σ : St} {a : Act} {Q : V → St → Prop} {Xk : Ex → St → Prop} {K : Act → World → Prop} {QQ : Exit → Act → World → Prop}
    {dst : Option Tmp} {ty : TypeId} {pos : String} {after : Array Edge} {guard : Option (Nat × Bool)} (c : Call) (h : evOp T Γ (.call c) σ Q Xk) (hr : Rel X w lk σ a) (hi : Inv X M w0 w lk) (hk : KK X M w0 a Q dst K)
    (hx : ∀ t k n σ' w' lk', Xk (.panic (.ifa t k n)) σ' → Rel X w' lk' σ' a → Inv X M w0 w' lk' → QQ (.panic (panE t k n)) a w') : Oper.wp P ⟨dst, .call c, ty, pos, after, guard⟩ a w K QQ := by
  have hop := opd_rep hr
  obtain ⟨cal, cargs, ctys⟩ := c
  simp only [evOp] at h
  split at h
  · rename_i f
    obtain ⟨⟨fn, hf, hb, hn⟩, hcalls⟩ := evCall_sound hΓ h hr hi (opds_rep hr cargs.toList)
    unfold Oper.wp
    have he : (execOp a.eval ⟨dst, .call ⟨.value (.func f), cargs, ctys⟩, ty, pos, after, guard⟩).run P w = .ok (.enter f (cargs.toList.map a.eval).toArray) w := by
      have h1 : #[] ++ cargs.map a.eval ++ #[] = (cargs.toList.map a.eval).toArray := Array.toList_inj.1 (by simp)
      show (callFunc f (#[] ++ cargs.map a.eval ++ #[])).run P w = _
      rw [h1, run_callFunc_enter hf hb hn]
    rw [he]
    refine hcalls.mono ?_
    rintro e w' ⟨σ', lk', out, hq, hr', hi', hout, _⟩
    cases out with
    | ret v =>
      obtain ⟨u, rfl, hu⟩ := hout
      exact hk v σ' u w' lk' hq hr' hi' hu
    | pan p =>
      cases p with
      | ifa t k n =>
        have : e = .panicked (panE t k n) := hout
        subst this
        exact hx t k n σ' w' lk' hq hr' hi'
      | _ => exact hout.elim
  · rename_i t
    split at h
    · rename_i f l hfo
      have hfv := hop (.tmp t)
      rw [hfo] at hfv
      obtain ⟨us, hfe, hus⟩ := hfv
      obtain ⟨⟨fn, hf, hb, hn⟩, hcalls⟩ := evCall_sound (vs := cargs.toList.map a.eval ++ us) hΓ h hr hi ((opds_rep hr cargs.toList).append (All2.map (hus.imp fun i hi u hu => by
        obtain ⟨h1, b, rfl⟩ := hu
        exact ⟨b, h1, rfl⟩)))
      unfold Oper.wp
      have he : (execOp a.eval ⟨dst, .call ⟨.value (.tmp t), cargs, ctys⟩, ty, pos, after, guard⟩).run P w = .ok (.enter f (cargs.toList.map a.eval ++ us).toArray) w := by
        have h1 : (#[] ++ cargs.map a.eval) ++ us.toArray = (cargs.toList.map a.eval ++ us).toArray := Array.toList_inj.1 (by simp)
        have h2 : (callFunc f ((#[] ++ cargs.map a.eval) ++ us.toArray)).run P w = .ok (.enter f (cargs.toList.map a.eval ++ us).toArray) w := by
          rw [h1, run_callFunc_enter hf hb hn]
        rw [← h2]
        simp only [execOp, resolve, hfe, Deferred.ofValue, pure_bind, invoke]
      rw [he]
      refine hcalls.mono ?_
      rintro e w' ⟨σ', lk', out, hq, hr', hi', hout, _⟩
      cases out with
      | ret v =>
        obtain ⟨u, rfl, hu⟩ := hout
        exact hk v σ' u w' lk' hq hr' hi' hu
      | pan p =>
        cases p with
        | ifa t k n =>
          have : e = .panicked (panE t k n) := hout
          subst this
          exact hx t k n σ' w' lk' hq hr' hi'
        | _ => exact hout.elim
    · exact h.elim
  · skip
    split at h
    · rename_i t x htys hargs
      have hce : execOp a.eval ⟨dst, .call ⟨.builtin .len, cargs, ctys⟩, ty, pos, after, guard⟩ = (do pure (Next.value (← Builtin.len_ ctys ty (cargs.map a.eval)))) := rfl
      have hcm : cargs.map a.eval = #[a.eval x] := by
        have : cargs = #[x] := Array.toList_inj.1 (by simpa using hargs)
        subst this; simp
      have hct : ctys = #[t] := Array.toList_inj.1 (by simpa using htys)
      subst hct
      rw [hcm] at hce
      have hxv := hop x
      split at h
      · rename_i sz by_ z s ht hxo
        have hu := (hT.str _ _ _ _ ht).1
        rw [hxo] at hxv
        have hxe : a.eval x = .string s := hxv
        refine wp_of_yl hce (Yl.pure hr hi h rfl ?_) hk
        rw [hxe]
        simp [Builtin.len_, run_underlying hu, goInt]
      · rename_i e te sz by_ z cc ht hxo
        obtain ⟨hu, _⟩ := hT.slice _ _ _ _ _ _ ht
        rw [hxo] at hxv
        obtain ⟨xs, A, n, hq, hxe, _⟩ := slK_sound hr h hxv
        refine wp_of_yl hce (Yl.pure hr hi hq rfl ?_) hk
        rw [hxe]
        simp [Builtin.len_, run_underlying hu, goInt]
      · rename_i mk kt me sz by_ z i ht hxo
        have hu := (hT.map _ _ _ _ _ _ _ ht).2.1
        rw [hxo] at hxv
        rw [nth_get] at h
        split at h
        · rename_i kt' ks ho
          obtain ⟨hlk, _⟩ := hxv
          obtain ⟨r, es, clock, hxe, hh, ha⟩ := hr.ob i _ _ ho hlk
          refine wp_of_yl hce (Yl.pure hr hi h rfl ?_) hk
          rw [hxe]
          have hl : es.size = ks.length := by rw [ha.length]; simp
          simp [Builtin.len_, run_underlying hu, goInt, MapKept.run_getObj_map hh, hl]
        · exact h.elim
      · exact h.elim
    · exact h.elim
  · skip
    split at h
    · rename_i s x hargs
      have hce : execOp a.eval ⟨dst, .call ⟨.builtin .append, cargs, ctys⟩, ty, pos, after, guard⟩ = (do pure (Next.value (← Builtin.append_ ctys ty (cargs.map a.eval)))) := rfl
      have hcm : cargs.map a.eval = #[a.eval s, a.eval x] := by
        have : cargs = #[s, x] := Array.toList_inj.1 (by simpa using hargs)
        subst this; simp
      rw [hcm] at hce
      unfold evApp at h
      split at h
      · rename_i y hxo
        have hxe : a.eval x = .string y := by have := hop x; rw [hxo] at this; exact this
        have := evAppendS_sound hT ty h hr hi (hop s)
        simp only [Array.toArray_toList] at this
        rw [hxe] at hce
        exact wp_of_yl hce this hk
      · have := evAppend_sound hT ty h hr hi (hop s) (hop x)
        simp only [Array.toArray_toList] at this
        exact wp_of_yl hce this hk
    · exact h.elim
  · skip
    split at h
    · rename_i x y hargs
      have hce : execOp a.eval ⟨dst, .call ⟨.builtin .min, cargs, ctys⟩, ty, pos, after, guard⟩ = (do pure (Next.value (← Builtin.min_ ctys ty (cargs.map a.eval)))) := rfl
      have hcm : cargs.map a.eval = #[a.eval x, a.eval y] := by
        have : cargs = #[x, y] := Array.toList_inj.1 (by simpa using hargs)
        subst this; simp
      rw [hcm] at hce
      split at h
      · rename_i k n k' m hxo hyo
        split at h
        · rename_i hkk
          subst hkk
          have hxe : a.eval x = .int k n := by have := hop x; rw [hxo] at this; exact this
          have hye : a.eval y = .int k m := by have := hop y; rw [hyo] at this; exact this
          refine wp_of_yl hce (Yl.pure hr hi h rfl ?_) hk
          rw [hxe, hye]
          simp [Builtin.min_, Builtin.min2]
        · exact h.elim
      · exact h.elim
    · exact h.elim
  · exact h.elim
theorem ev_nilCheck (hT : TabOK P T) (hΓ : SemsOK X.gr P Γ) {M : Nat → Prop} {w0 w : World} {lk : List Value} {σ : St} {a : Act} {Q : V → St → Prop} {Xk : Ex → St → Prop} {K : Act → World → Prop} {QQ : Exit → Act → World → Prop}
    {dst : Option Tmp} {ty : TypeId} {pos : String} {after : Array Edge} {guard : Option (Nat × Bool)} (x : Operand) (h : evOp T Γ (.nilCheck x) σ Q Xk) (hr : Rel X w lk σ a) (hi : Inv X M w0 w lk) (hk : KK X M w0 a Q dst K)
    (hx : ∀ t k n σ' w' lk', Xk (.panic (.ifa t k n)) σ' → Rel X w' lk' σ' a → Inv X M w0 w' lk' → QQ (.panic (panE t k n)) a w') : Oper.wp P ⟨dst, .nilCheck x, ty, pos, after, guard⟩ a w K QQ := by
  have hop := opd_rep hr
  simp only [evOp] at h
  have key : ∀ (c : C) (p : Addr), CRep w (Imm X w lk) lk c (.pointer (some p)) → a.eval x = .pointer (some p) → Q (.one c) σ → Oper.wp P ⟨dst, .nilCheck x, ty, pos, after, guard⟩ a w K QQ := by
    intro c p hc he hq
    refine wp_of_yl (s := (pure (.pointer (some p)) : Go.Sem Value)) ?_ (Yl.pure (x := .one c) hr hi hq hc rfl) hk
    simp [execOp, he]
  split at h
  · rename_i i o hxo
    have hv := hop x; rw [hxo] at hv
    have hv' := hv
    obtain ⟨b, _, he⟩ := hv
    rw [he] at hv'
    exact key (.ref i o) _ hv' he h
  · rename_i t i j o hxo
    have hv := hop x; rw [hxo] at hv
    have hv' := hv
    obtain ⟨g, n, c, _, _, he⟩ := hv
    rw [he] at hv'
    exact key (.elt t i j o) _ hv' he h
  · rename_i t y o hxo
    have hv := hop x; rw [hxo] at hv
    have hv' := hv
    obtain ⟨ad, m, cs, _, _, _, _, _, he⟩ := hv
    rw [he] at hv'
    exact key (.ielt t y o) _ hv' he h
  · exact h.elim
theorem refsK_sound {w : World} {lk : List Value} {σ : St} {a : Act} (hr : Rel X w lk σ a) : ∀ (l : List Operand) {Q : List Nat → Prop}, refsK σ l Q → ∃ is, Q is ∧ All2 (fun i u => lk[i]? = some u ∧ ∃ b, u = .pointer (some ⟨b, 0, none⟩)) is (l.map a.eval)
  | [], Q, h => ⟨[], h, trivial⟩
  | x :: l, Q, h => by
    simp only [refsK] at h
    split at h
    · rename_i i hx
      obtain ⟨is, hq, ha⟩ := refsK_sound hr l h
      have hv := opd_rep hr x
      rw [hx] at hv
      obtain ⟨b, hb, he⟩ := hv
      exact ⟨i :: is, hq, ⟨by rw [he]; exact hb, b, he⟩, ha⟩
    · exact h.elim
theorem ev_makeFunc (hT : TabOK P T) (hΓ : SemsOK X.gr P Γ) {M : Nat → Prop} {w0 w : World} {lk : List Value} {σ : St} {a : Act} {Q : V → St → Prop} {Xk : Ex → St → Prop} {K : Act → World → Prop} {QQ : Exit → Act → World → Prop}
    {dst : Option Tmp} {ty : TypeId} {pos : String} {after : Array Edge} {guard : Option (Nat × Bool)} (fn : Fn) (first caps : Array Operand) (h : evOp T Γ (.makeFunc fn first caps) σ Q Xk) (hr : Rel X w lk σ a) (hi : Inv X M w0 w lk) (hk : KK X M w0 a Q dst K)
    (hx : ∀ t k n σ' w' lk', Xk (.panic (.ifa t k n)) σ' → Rel X w' lk' σ' a → Inv X M w0 w' lk' → QQ (.panic (panE t k n)) a w') : Oper.wp P ⟨dst, .makeFunc fn first caps, ty, pos, after, guard⟩ a w K QQ := by
  cases fn with
  | func f =>
    simp only [evOp] at h
    split at h
    · rename_i hf
      have hfe : first = #[] := Array.toList_inj.1 (by simpa using hf)
      subst hfe
      obtain ⟨is, hq, ha⟩ := refsK_sound hr caps.toList h
      refine wp_of_yl (s := Instr.makeFunc (.func f) (#[].map a.eval) (caps.map a.eval)) rfl (Yl.pure hr hi hq (v := .func (.func f) #[] (caps.toList.map a.eval).toArray) ⟨_, rfl, ha⟩ ?_) hk
      have : caps.map a.eval = (caps.toList.map a.eval).toArray := Array.toList_inj.1 (by simp)
      rw [this]
      simp [Instr.makeFunc]
    · exact h.elim
  | _ => exact h.elim
end Go.Proofs.YtilagaapfbfkkaaGreatDoor.Ab
namespace Go.Proofs.YtilagaapfbfkkaaGreatDoor.Ab
open Go Go.RowKit Go.Proofs.YtilagaapfbfkkaaGreatDoorW.PrintWords
variable {X : Cx} {P : Program} {T : Tab} {Γ : Sems}
theorem all2_refl_vs {w : World} {I : Nat → Prop} : ∀ (t : Ty) (x : t.den), t.plainB = true → TRep w I t x (t.vs x)
  | .int _, _, _ => rfl
  | .bool, _, _ => rfl
  | .str, _, _ => rfl
  | .slice _ _, _, h => by cases h
  | .pair a b, x, h => by
    simp only [Ty.plainB, Bool.and_eq_true] at h
    exact ⟨_, _, rfl, all2_refl_vs a x.1 h.1, all2_refl_vs b x.2 h.2⟩
theorem bytes_toList_inj {a b : ByteArray} (h : a.toList = b.toList) : a = b := by
  rw [ByteArray.toList_eq, ByteArray.toList_eq] at h
  obtain ⟨x⟩ := a
  obtain ⟨y⟩ := b
  simp at h
  rw [h]
theorem eqb_eq : ∀ (t : Ty) (x y : t.den), t.plainB = true → (t.eqb x y = true ↔ x = y)
  | .int _, x, y, _ => by simp only [Ty.eqb]; exact beq_iff_eq
  | .bool, x, y, _ => by simp only [Ty.eqb]; exact beq_iff_eq
  | .str, x, y, _ => by
    simp only [Ty.eqb, beq_iff_eq]
    exact ⟨fun h => bytes_toList_inj h, fun h => by rw [h]⟩
  | .slice _ _, _, _, h => by cases h
  | .pair a b, x, y, h => by
    simp only [Ty.plainB, Bool.and_eq_true] at h
    simp only [Ty.eqb, Bool.and_eq_true, eqb_eq a x.1 y.1 h.1, eqb_eq b x.2 y.2 h.2]
    exact ⟨fun h => Prod.ext h.1 h.2, fun h => by rw [h]; exact ⟨rfl, rfl⟩⟩
theorem memT_mem (t : Ty) (hp : t.plainB = true) (y : t.den) : ∀ l : List t.den, memT t y l = true ↔ y ∈ l
  | [] => by simp [memT]
  | x :: l => by simp [memT, eqb_eq t y x hp, memT_mem t hp y l]
theorem sameBits_vs : ∀ (n : Nat) (t : Ty) (x : t.den), ∀ v ∈ t.vs x, Instr.sameBits (n + 1) v v = true
  | n, .int _, x, v, h => by simp only [Ty.vs, List.mem_singleton] at h; subst h; simp [Instr.sameBits]
  | n, .bool, x, v, h => by simp only [Ty.vs, List.mem_singleton] at h; subst h; simp [Instr.sameBits]
  | n, .str, x, v, h => by simp only [Ty.vs, List.mem_singleton] at h; subst h; simp [Instr.sameBits, MapKept.bytes_beq]
  | n, .slice _ _, x, v, h => by simp [Ty.vs] at h
  | n, .pair a b, x, v, h => by
    rcases List.mem_append.1 (show v ∈ a.vs x.1 ++ b.vs x.2 from h) with h | h
    · exact sameBits_vs n a x.1 v h
    · exact sameBits_vs n b x.2 v h
theorem mem_zip_self {α : Type} : ∀ (l : List α) (u v : α), (u, v) ∈ l.zip l → u = v ∧ u ∈ l
  | [], _, _, h => by simp at h
  | x :: l, u, v, h => by
    rw [List.zip_cons_cons] at h
    rcases List.mem_cons.1 h with h | h
    · cases h; exact ⟨rfl, by simp⟩
    · have := mem_zip_self l u v h; exact ⟨this.1, by simp [this.2]⟩
theorem sameBits_kv (t : Ty) (x : t.den) (hp : t.plainB = true) : Instr.sameBits 10000 (t.kv x) (t.kv x) = true := by
  cases t with
  | pair a b =>
    simp only [Ty.kv]
    rw [show (10000 : Nat) = 9999 + 1 from rfl]
    simp only [Instr.sameBits, beq_self_eq_true, Bool.true_and, List.all_eq_true]
    rintro ⟨u, v⟩ huv
    obtain ⟨rfl, hu⟩ := mem_zip_self _ _ _ huv
    exact sameBits_vs 9998 (.pair a b) x u hu
  | slice _ _ => cases hp
  | int k => exact sameBits_vs 9999 (.int k) x _ (by simp [Ty.vs, Ty.kv])
  | bool => exact sameBits_vs 9999 .bool x _ (by simp [Ty.vs, Ty.kv])
  | str => exact sameBits_vs 9999 .str x _ (by simp [Ty.vs, Ty.kv])
theorem run_stays (t : Ty) (x : t.den) (hp : t.plainB = true) (w : World) : (Instr.keyThatStays (t.kv x) (t.kv x)).run P w = .ok (t.kv x) w := by
  simp [Instr.keyThatStays, sameBits_kv t x hp]
theorem checkKey_one {t : TypeId} {d : TypeDesc} (hu : P.underlying t = some d) (h1 : ∀ F, d ≠ .struct F) (h2 : ∀ n e, d ≠ .array n e) (h3 : ∀ ms, d ≠ .interface ms) (em : Bool) (n : Nat) (v : Value) (w : World) :
    (Instr.checkKey em (n + 1) t v).run P w = .ok () w := by
  unfold Instr.checkKey
  simp only [Sem.run_bind, run_underlying hu, Result.andThen]
  cases d <;> first | rfl | exact absurd rfl (h1 _) | exact absurd rfl (h2 _ _) | exact absurd rfl (h3 _)
theorem forIn_skip {α : Type} {w : World} (f : α → PUnit → Go.Sem (ForInStep PUnit)) : ∀ (l : List α), (∀ x ∈ l, (f x ⟨⟩).run P w = .ok (.yield ⟨⟩) w) → (forIn l (PUnit.unit) f).run P w = .ok ⟨⟩ w
  | [], _ => rfl
  | x :: l, h => by
    rw [List.forIn_cons, Sem.run_bind, h x (by simp), Result.andThen_ok]
    exact forIn_skip f l fun y hy => h y (by simp [hy])
theorem checkKey_struct {t : TypeId} {F : Array Field} (hu : P.underlying t = some (.struct F)) (em : Bool) (n : Nat) (vs : Array Value) (w : World)
    (h : ∀ f ∈ F.toList, ∃ r d, (part f.type vs f.offset).run P w = .ok r w ∧ P.underlying f.type = some d ∧ (∀ F, d ≠ .struct F) ∧ (∀ n e, d ≠ .array n e) ∧ (∀ ms, d ≠ .interface ms)) :
    (Instr.checkKey em (n + 2) t (.agg vs)).run P w = .ok () w := by
  unfold Instr.checkKey
  simp only [Sem.run_bind, run_underlying hu, Result.andThen]
  have key := forIn_skip (P := P) (w := w) (fun (f : Field) (_ : PUnit) => (do
      if f.name ≠ "_" then
        Instr.checkKey em (n + 1) f.type (← part f.type vs f.offset)
        pure (ForInStep.yield PUnit.unit)
      else pure (ForInStep.yield PUnit.unit) : Go.Sem (ForInStep PUnit))) F.toList (fun f hf => by
    obtain ⟨r, d, hp, hd, h1, h2, h3⟩ := h f hf
    by_cases hn : f.name ≠ "_"
    · rw [if_pos hn, Sem.run_bind, hp, Result.andThen_ok, Sem.run_bind, checkKey_one hd h1 h2 h3, Result.andThen_ok]; rfl
    · rw [if_neg hn]; rfl)
  rw [← Array.forIn_toList, key]
  rfl
theorem cs_vs {w : World} {I : Nat → Prop} (lk : List Value) (t : Ty) (x : t.den) (hp : t.plainB = true) : All2 (Cel w I lk) (t.cs x) (t.vs x) := Ty.cs_rep lk (all2_refl_vs t x hp)
theorem kv_val (t : Ty) (y : t.den) {c : C} {v : Value} {w : World} {I : Nat → Prop} {lk : List Value} (hp : t.plainB = true) (h1 : t.cs y = [c]) (hs : ∀ a b, t ≠ .pair a b) (hv : CRep w I lk c v) : v = t.kv y := by
  cases t with
  | pair a b => exact absurd rfl (hs a b)
  | slice _ _ => cases hp
  | int k => simp only [Ty.cs, List.cons.injEq, and_true] at h1; subst h1; exact hv
  | bool => simp only [Ty.cs, List.cons.injEq, and_true] at h1; subst h1; exact hv
  | str => simp only [Ty.cs, List.cons.injEq, and_true] at h1; subst h1; exact hv
theorem rd_plain {w : World} {I : Nat → Prop} {lk : List Value} : ∀ {t : Ty} {l : List C} {Q : t.den → List C → Prop}, t.plainB = true → t.rd l Q → ∃ x r, Q x r ∧ l = t.cs x ++ r
  | .int k, l, Q, _, h => by
    simp only [Ty.rd] at h
    split at h
    · split at h
      · rename_i hk; subst hk; exact ⟨_, _, h, rfl⟩
      · exact h.elim
    · exact h.elim
  | .bool, l, Q, _, h => by
    simp only [Ty.rd] at h
    split at h
    · exact ⟨_, _, h, rfl⟩
    · exact h.elim
  | .str, l, Q, _, h => by
    simp only [Ty.rd] at h
    split at h
    · exact ⟨_, _, h, rfl⟩
    · exact h.elim
  | .slice _ _, l, Q, hp, _ => by cases hp
  | .pair a b, l, Q, hp, h => by
    simp only [Ty.plainB, Bool.and_eq_true] at hp
    obtain ⟨x, r, h1, rfl⟩ := rd_plain (w := w) (I := I) (lk := lk) hp.1 h
    obtain ⟨y, r', h2, rfl⟩ := rd_plain (w := w) (I := I) (lk := lk) hp.2 h1
    exact ⟨(x, y), r', h2, by simp [Ty.cs]⟩
theorem vs_len : ∀ (t : Ty) (x : t.den), t.plainB = true → (t.vs x).length = t.sz
  | .int _, _, _ => rfl
  | .bool, _, _ => rfl
  | .str, _, _ => rfl
  | .slice _ _, _, h => by cases h
  | .pair a b, x, h => by
    simp only [Ty.plainB, Bool.and_eq_true] at h
    simp only [Ty.vs, List.length_append, Ty.sz, vs_len a x.1 h.1, vs_len b x.2 h.2]
theorem vs_inj : ∀ (t : Ty) (x y : t.den), t.plainB = true → t.vs x = t.vs y → x = y
  | .int _, x, y, _, h => by simp only [Ty.vs, List.cons.injEq, and_true, Value.int.injEq, true_and] at h; exact h
  | .bool, x, y, _, h => by simp only [Ty.vs, List.cons.injEq, and_true, Value.bool.injEq] at h; exact h
  | .str, x, y, _, h => by simp only [Ty.vs, List.cons.injEq, and_true, Value.string.injEq] at h; exact h
  | .slice _ _, _, _, h, _ => by cases h
  | .pair a b, x, y, hp, h => by
    simp only [Ty.plainB, Bool.and_eq_true] at hp
    obtain ⟨h1, h2⟩ := List.append_inj (show a.vs x.1 ++ b.vs x.2 = a.vs y.1 ++ b.vs y.2 from h) (by rw [vs_len a _ hp.1, vs_len a _ hp.1])
    exact Prod.ext (vs_inj a _ _ hp.1 h1) (vs_inj b _ _ hp.2 h2)
theorem kv_inj (t : Ty) (x y : t.den) (hp : t.plainB = true) (h : t.kv x = t.kv y) : x = y := by
  cases t with
  | pair a b =>
    simp only [Ty.kv, Value.agg.injEq] at h
    exact vs_inj (.pair a b) x y hp (by simpa using congrArg Array.toList h)
  | slice _ _ => cases hp
  | int k => simp only [Ty.kv, Ty.vs, List.headD_cons, Value.int.injEq, true_and] at h; exact h
  | bool => simp only [Ty.kv, Ty.vs, List.headD_cons, Value.bool.injEq] at h; exact h
  | str => simp only [Ty.kv, Ty.vs, List.headD_cons, Value.string.injEq] at h; exact h
theorem All2.append_inv {α β : Type} {R : α → β → Prop} : ∀ {l l' : List α} {m : List β}, All2 R (l ++ l') m → ∃ m1 m2, m = m1 ++ m2 ∧ All2 R l m1 ∧ All2 R l' m2
  | [], l', m, h => ⟨[], m, rfl, trivial, h⟩
  | x :: l, l', m, h => by
    obtain ⟨y, m', rfl, h1, h2⟩ := h.cons_inv
    obtain ⟨m1, m2, rfl, h3, h4⟩ := All2.append_inv h2
    exact ⟨y :: m1, m2, rfl, ⟨h1, h3⟩, h4⟩
theorem cel_vs {w : World} {I : Nat → Prop} {lk : List Value} : ∀ (t : Ty) (y : t.den) (us : List Value), t.plainB = true → All2 (Cel w I lk) (t.cs y) us → us = t.vs y
  | .int _, y, us, _, h => by obtain ⟨u, m, rfl, h1, h2⟩ := h.cons_inv; rw [h2.nil_inv, show u = _ from h1.1]; rfl
  | .bool, y, us, _, h => by obtain ⟨u, m, rfl, h1, h2⟩ := h.cons_inv; rw [h2.nil_inv, show u = _ from h1.1]; rfl
  | .str, y, us, _, h => by obtain ⟨u, m, rfl, h1, h2⟩ := h.cons_inv; rw [h2.nil_inv, show u = _ from h1.1]; rfl
  | .slice _ _, _, _, h, _ => by cases h
  | .pair a b, y, us, hp, h => by
    simp only [Ty.plainB, Bool.and_eq_true] at hp
    obtain ⟨u1, u2, rfl, h1, h2⟩ := All2.append_inv (show All2 (Cel w I lk) (a.cs y.1 ++ b.cs y.2) us from h)
    rw [cel_vs a _ _ hp.1 h1, cel_vs b _ _ hp.2 h2]; rfl
theorem eqFs_parts {f : TypeId → List C → List C → Option Bool} {xs ys : List C} : ∀ (fs : List (Nat × TypeId)) (b : Bool), eqFsK T f fs xs ys = some b → ∀ g ∈ fs, ∃ ti a c b', T g.2 = some ti ∧ sub g.1 ti.sz xs = some a ∧ f g.2 a c = some b'
  | [], _, _, g, hg => by simp at hg
  | (off, t) :: l, b, h, g, hg => by
    simp only [eqFsK] at h
    split at h
    · rename_i ti hti
      split at h
      · rename_i a c ha hc
        split at h
        · rename_i p q hp hq
          rcases List.mem_cons.1 hg with rfl | hg
          · exact ⟨ti, a, c, p, hti, ha, hp⟩
          · exact eqFs_parts l q hq g hg
        · cases h
      · cases h
    · cases h
theorem asking_spec {k : TypeId} {v : Value} {w : World} : ∀ (es : List MapEntry) (i : Nat), (∀ e ∈ es, ∃ b, (Op.equal k v e.key).run P w = .ok b w ∧ (b = true ↔ e.key = v)) →
    ((Instr.findAsking k v es i).run P w = .ok none w ∧ ∀ e ∈ es, e.key ≠ v) ∨ ∃ j e, (Instr.findAsking k v es i).run P w = .ok (some (i + j, e.val)) w ∧ es[j]? = some e ∧ e.key = v
  | [], i, _ => .inl ⟨rfl, by simp⟩
  | e :: es, i, h => by
    obtain ⟨b, hb, hiff⟩ := h e (by simp)
    cases b with
    | true => exact .inr ⟨0, e, by simp [Instr.findAsking, Sem.run_bind, hb, Result.andThen_ok], rfl, hiff.1 rfl⟩
    | false =>
      have hne : e.key ≠ v := fun q => by have := hiff.2 q; cases this
      rcases asking_spec es (i + 1) (fun x hx => h x (by simp [hx])) with ⟨h1, h2⟩ | ⟨j, e', h1, h2, h3⟩
      · exact .inl ⟨by simp [Instr.findAsking, Sem.run_bind, hb, Result.andThen_ok, h1], fun x hx => by
          rcases List.mem_cons.1 hx with rfl | hx
          · exact hne
          · exact h2 x hx⟩
      · exact .inr ⟨j + 1, e', by simp [Instr.findAsking, Sem.run_bind, hb, Result.andThen_ok, h1]; omega, by simpa using h2, h3⟩
theorem keyK_sound (hT : TabOK P T) {w : World} {lk : List Value} {σ : St} {a : Act} {t : TypeId} {m x : V} {vm vx : Value} {Q : Nat → (kt : Ty) → kt.den → List kt.den → Prop} (h : keyK T t m x σ Q) (hr : Rel X w lk σ a)
    (hm : VRep w (Imm X w lk) lk m vm) (hx : VRep w (Imm X w lk) lk x vx) :
    ∃ k e i kt y ks r es clock, Q i kt y ks ∧ P.underlying t = some (.map k e) ∧ (∃ inf, P.info? e = some inf ∧ inf.zero = some (.bool false)) ∧ kt.plainB = true ∧ vx = kt.kv y ∧ vm = .map (some r) ∧ lk[i]? = some (.map (some r)) ∧ σ.objs[i]? = some (.mset kt ks) ∧ w.heap[r]? = some (.map es clock) ∧
      All2 (fun z en => en.val = .bool true ∧ en.key = kt.kv z) ks es.toList ∧ (∀ em w', (Instr.checkKey em 10000 k vx).run P w' = .ok () w') ∧
      ∃ f, (Instr.findKey k vx es.toList).run P w = .ok f w ∧ ((memT kt y ks = true ∧ ∃ j en, f = some (j, .bool true) ∧ es[j]? = some en ∧ en.val = .bool true ∧ en.key = vx) ∨ (memT kt y ks = false ∧ f = none)) := by
  unfold keyK at h
  split at h
  · rename_i k kt e sz by_ z i cs ht hcs
    rw [nth_get] at h
    split at h
    · rename_i kt' ks ho
      split at h
      · rename_i hk
        subst hk
        obtain ⟨_, hu, hp, hz, d, ks', kb, kz, htk, hd⟩ := hT.map _ _ _ _ _ _ _ ht
        cases hsh : keyShape kt' x with
        | false => rw [hsh] at h; exact h.elim
        | true =>
        rw [hsh] at h
        simp only [cond_true] at h
        obtain ⟨y, r0, hq, hl⟩ := rd_plain (w := w) (I := Imm X w lk) (lk := lk) hp h
        split at hq
        · obtain ⟨hke, hq⟩ := hq
          rw [List.append_nil] at hl
          obtain ⟨hlk, _⟩ := hm
          obtain ⟨r, es, clock, rfl, hh, ha⟩ := hr.ob i _ _ ho hlk
          subst hl
          have hvx : vx = kt'.kv y := by
            cases x with
            | one c =>
              have hc1 : kt'.cs y = [c] := by
                cases c <;> simp [V.cells] at hcs <;> exact hcs.symm
              refine kv_val kt' y hp hc1 (fun a b e => ?_) hx
              subst e
              simp [keyShape] at hsh
            | agg l =>
              simp only [V.cells, Option.some.injEq] at hcs
              subst hcs
              obtain ⟨us, rfl, hus⟩ := hx
              rw [cel_vs kt' y us hp hus]
              cases kt' with
              | pair a b => rfl
              | _ => simp [keyShape] at hsh
            | tup l => simp [V.cells] at hcs
            | wh g c => simp [V.cells] at hcs
          have hfind : ∃ f, (Instr.findKey k vx es.toList).run P w = .ok f w ∧ ((f = none ∧ ∀ en ∈ es.toList, en.key ≠ vx) ∨ ∃ j en, f = some (j, en.val) ∧ es.toList[j]? = some en ∧ en.key = vx) := by
            have plain : ∀ d', P.underlying k = some d' → MapKept.IsKey d' vx → (∀ en ∈ es.toList, MapKept.IsKey d' en.key) → ∃ f, (Instr.findKey k vx es.toList).run P w = .ok f w ∧ ((f = none ∧ ∀ en ∈ es.toList, en.key ≠ vx) ∨ ∃ j en, f = some (j, en.val) ∧ es.toList[j]? = some en ∧ en.key = vx) := by
              intro d' hd' h1 h2
              rcases MapKept.findNow_spec h1 es.toList 0 h2 with ⟨h3, h4⟩ | ⟨j, en, h3, h4, h5⟩
              · exact ⟨_, MapKept.run_findKey hd' h3, .inl ⟨rfl, h4⟩⟩
              · exact ⟨_, MapKept.run_findKey hd' h3, .inr ⟨j, en, by simp, h4, h5⟩⟩
            rcases hd with ⟨fs, rfl, ⟨a', b', rfl⟩, hfs⟩ | ⟨rfl, rfl⟩ | ⟨q, rfl, rfl⟩
            · obtain ⟨F, huk, hF, _⟩ := hT.struct _ _ _ _ _ htk
              have hask : ∀ en ∈ es.toList, ∃ b, (Op.equal k vx en.key).run P w = .ok b w ∧ (b = true ↔ en.key = vx) := by
                intro en hen
                obtain ⟨z, hz', _, hkz⟩ := ha.mem hen
                have hee := eqC_sound (P := P) (w := w) (w' := w) (I := Imm X w lk) (lk := lk) hT 9 9991 k _ _ _ (hke y z)
                have hs1 : shape T k ((Ty.pair a' b').cs y) = some (.agg ((Ty.pair a' b').cs y)) := by simp [shape, htk]
                have hs2 : shape T k ((Ty.pair a' b').cs z) = some (.agg ((Ty.pair a' b').cs z)) := by simp [shape, htk]
                refine ⟨_, hee _ _ vx en.key hs1 hs2 (by rw [hvx]; exact ⟨_, rfl, cs_vs lk _ y hp⟩) (by rw [hkz]; exact ⟨_, rfl, cs_vs lk _ z hp⟩), ?_⟩
                rw [eqb_eq _ _ _ hp, hvx, hkz]
                exact ⟨fun e => by rw [e], fun e => (kv_inj _ _ _ hp e).symm⟩
              have hrun : (Instr.findKey k vx es.toList).run P w = (Instr.findAsking k vx es.toList 0).run P w := by
                cases hes : es.toList with
                | nil => simp [Instr.findKey, run_underlying huk, Result.andThen, Instr.findNow, Instr.findAsking]
                | cons e0 l0 => simp [Instr.findKey, run_underlying huk, Result.andThen, Instr.findNow, Instr.sameNow]
              rcases asking_spec es.toList 0 hask with ⟨h3, h4⟩ | ⟨j, en, h3, h4, h5⟩
              · exact ⟨_, hrun.trans h3, .inl ⟨rfl, h4⟩⟩
              · exact ⟨_, hrun.trans h3, .inr ⟨j, en, by simp, h4, h5⟩⟩
            · refine plain .string (hT.str _ _ _ _ htk).1 (by rw [hvx]; trivial) (fun en hen => ?_)
              obtain ⟨z, _, _, hkz⟩ := ha.mem hen
              rw [hkz]; trivial
            · refine plain (.int q) (hT.int _ _ _ _ _ htk).1 (by rw [hvx]; rfl) (fun en hen => ?_)
              obtain ⟨z, _, _, hkz⟩ := ha.mem hen
              rw [hkz]; rfl
          have hcheck : ∀ em w', (Instr.checkKey em 10000 k vx).run P w' = .ok () w' := by
            intro em w'
            rcases hd with ⟨fs, rfl, ⟨a', b', rfl⟩, hfs⟩ | ⟨rfl, rfl⟩ | ⟨q, rfl, rfl⟩
            · obtain ⟨F, huk, hF, _⟩ := hT.struct _ _ _ _ _ htk
              have h9 := hke y y
              unfold eqC at h9
              rw [htk] at h9
              simp only at h9
              rw [hvx]
              refine checkKey_struct huk em 9998 _ w' fun g hg => ?_
              have hgf : (g.offset, g.type) ∈ fs := by rw [← hF]; exact List.mem_map.2 ⟨g, hg, rfl⟩
              obtain ⟨ti, a0, c0, b0, h1, h2, h3⟩ := eqFs_parts _ _ h9 _ hgf
              obtain ⟨v1, v2, h4, _⟩ := eqC_shape h3
              obtain ⟨r1, h5, _⟩ := part_run_all (P := P) (w := w) (I := Imm X w lk) (lk := lk) hT h1 (cs_vs lk _ y hp) h2 h4
              obtain ⟨_, _, d', hd', n1, n2, n3⟩ := hfs _ hgf
              exact ⟨r1, d', h5 w', hd', n1, n2, n3⟩
            · exact checkKey_one (hT.str _ _ _ _ htk).1 (by simp) (by simp) (by simp) em 9999 vx w'
            · exact checkKey_one (hT.int _ _ _ _ _ htk).1 (by simp) (by simp) (by simp) em 9999 vx w'
          obtain ⟨f, hf, hor⟩ := hfind
          refine ⟨k, e, i, kt', y, ks, r, es, clock, hq, hu, hz, hp, hvx, rfl, hlk, ho, hh, ha, hcheck, f, hf, ?_⟩
          rcases hor with ⟨rfl, hno⟩ | ⟨j, en, rfl, hj, hkey⟩
          · refine .inr ⟨?_, rfl⟩
            cases hmem : memT kt' y ks with
            | false => rfl
            | true =>
              obtain ⟨p, hp1⟩ := List.mem_iff_getElem?.1 ((memT_mem kt' hp y ks).1 hmem)
              obtain ⟨en, hen, _, hk2⟩ := ha.get hp1
              exact absurd (hk2.trans hvx.symm) (hno en (List.mem_of_getElem? hen))
          · obtain ⟨z, hz1, hval, hkz⟩ := ha.get' hj
            have : z = y := kv_inj kt' z y hp (by rw [← hkz, hkey, hvx])
            subst this
            exact .inl ⟨(memT_mem kt' hp z ks).2 (List.mem_of_getElem? hz1), j, en, by rw [hval], by simpa using hj, hval, hkey⟩
        · exact hq.elim
      · exact h.elim
    · exact h.elim
  · exact h.elim
theorem ev_makeMap (hT : TabOK P T) (hΓ : SemsOK X.gr P Γ) {M : Nat → Prop} {w0 w : World} {lk : List Value} {σ : St} {a : Act} {Q : V → St → Prop} {Xk : Ex → St → Prop} {K : Act → World → Prop} {QQ : Exit → Act → World → Prop}
    {dst : Option Tmp} {ty : TypeId} {pos : String} {after : Array Edge} {guard : Option (Nat × Bool)} (t : TypeId) (n : Option Operand) (h : evOp T Γ (.makeMap t n) σ Q Xk) (hr : Rel X w lk σ a) (hi : Inv X M w0 w lk) (hk : KK X M w0 a Q dst K)
    (hx : ∀ t k n σ' w' lk', Xk (.panic (.ifa t k n)) σ' → Rel X w' lk' σ' a → Inv X M w0 w' lk' → QQ (.panic (panE t k n)) a w') : Oper.wp P ⟨dst, .makeMap t n, ty, pos, after, guard⟩ a w K QQ := by
  have hop := opd_rep hr
  cases n with
  | some n => exact h.elim
  | none =>
  simp only [evOp] at h
  split at h
  · rename_i k kt e sz by_ z ht
    rw [newOb_iff] at h
    refine wp_of_yl (s := Instr.makeMap t none) rfl ?_ hk
    have he : (Instr.makeMap t none).run P w = .ok (.map (some w.heap.size)) (w.alloc (.map #[] 0)) := by
      simp [Instr.makeMap, newObj]; rfl
    rw [he]
    have hgo := Goes.grow (X := X) (lk := lk) (v := .map (some w.heap.size)) (alloc_old w (.map #[] 0)) (by simp) (fun b hb => by simp [blk] at hb; omega)
    refine ⟨_, _, _, _, lk ++ [.map (some w.heap.size)], rfl, h, ?_, hi.grow (alloc_keep _ _) (fun b hb => by simp [blk] at hb; omega), ?_⟩
    · refine hr.grow (alloc_old w _) (by simp) (fun b hb => by simp [blk] at hb; subst hb; simp) hi.lx ?_
      exact ⟨w.heap.size, #[], 0, rfl, alloc_new w _, trivial⟩
    · exact ⟨by rw [← hr.lsz]; simp, _, rfl⟩
  · exact h.elim
theorem ev_lookup (hT : TabOK P T) (hΓ : SemsOK X.gr P Γ) {M : Nat → Prop} {w0 w : World} {lk : List Value} {σ : St} {a : Act} {Q : V → St → Prop} {Xk : Ex → St → Prop} {K : Act → World → Prop} {QQ : Exit → Act → World → Prop}
    {dst : Option Tmp} {ty : TypeId} {pos : String} {after : Array Edge} {guard : Option (Nat × Bool)} (t : TypeId) (m x : Operand) (ok : Bool) (h : evOp T Γ (.lookup t m x ok) σ Q Xk) (hr : Rel X w lk σ a) (hi : Inv X M w0 w lk) (hk : KK X M w0 a Q dst K)
    (hx : ∀ t k n σ' w' lk', Xk (.panic (.ifa t k n)) σ' → Rel X w' lk' σ' a → Inv X M w0 w' lk' → QQ (.panic (panE t k n)) a w') : Oper.wp P ⟨dst, .lookup t m x ok, ty, pos, after, guard⟩ a w K QQ := by
  have hop := opd_rep hr
  cases ok with
  | true => exact h.elim
  | false =>
  simp only [evOp] at h
  obtain ⟨k, e, i, kt, y, ks, r, es, clock, hq, hu, ⟨inf, hinf, hz⟩, hp, hvx, hvm, hlk, ho, hh, ha, hck, f, hf, hor⟩ := keyK_sound hT h hr (hop m) (hop x)
  refine wp_of_yl (s := Instr.lookup t (a.eval m) (a.eval x) false) rfl (Yl.pure hr hi hq rfl ?_) hk
  rcases hor with ⟨hm, j, en, rfl, _⟩ | ⟨hm, rfl⟩
  · simp [Instr.lookup, run_underlying hu, hvm, MapKept.run_getObj_map hh, hck, hf, Result.andThen, hm]
  · simp [Instr.lookup, run_underlying hu, hvm, MapKept.run_getObj_map hh, hck, hf, Result.andThen, hm, zeroValue, typeInfo, hinf, hz]
theorem ev_mapUpdate (hT : TabOK P T) (hΓ : SemsOK X.gr P Γ) {M : Nat → Prop} {w0 w : World} {lk : List Value} {σ : St} {a : Act} {Q : V → St → Prop} {Xk : Ex → St → Prop} {K : Act → World → Prop} {QQ : Exit → Act → World → Prop}
    {dst : Option Tmp} {ty : TypeId} {pos : String} {after : Array Edge} {guard : Option (Nat × Bool)} (t : TypeId) (m x v : Operand) (h : evOp T Γ (.mapUpdate t m x v) σ Q Xk) (hr : Rel X w lk σ a) (hi : Inv X M w0 w lk) (hk : KK X M w0 a Q dst K)
    (hx : ∀ t k n σ' w' lk', Xk (.panic (.ifa t k n)) σ' → Rel X w' lk' σ' a → Inv X M w0 w' lk' → QQ (.panic (panE t k n)) a w') : Oper.wp P ⟨dst, .mapUpdate t m x v, ty, pos, after, guard⟩ a w K QQ := by
  have hop := opd_rep hr
  simp only [evOp] at h
  split at h
  · rename_i hvo
    have hve : a.eval v = .bool true := by have := hop v; rw [hvo] at this; exact this
    obtain ⟨k, e, i, kt, y, ks, r, es, clock, hq, hu, _, hp, hvx, hvm, hlk, ho, hh, ha, hck, f, hf, hor⟩ := keyK_sound hT h hr (hop m) (hop x)
    rw [setOb_iff] at hq
    have hst := run_stays (P := P) kt y hp
    obtain ⟨es', clock', hrun, ha'⟩ : ∃ es' clock', (Instr.mapUpdate t (a.eval m) (a.eval x) (a.eval v)).run P w = .ok () { w with heap := w.heap.setIfInBounds r (.map es' clock') } ∧ All2 (fun z en => en.val = .bool true ∧ en.key = kt.kv z) (addT kt y ks) es'.toList := by
      rcases hor with ⟨hm, j, en, rfl, hj, hval, hkey⟩ | ⟨hm, rfl⟩
      · refine ⟨es.modify j fun e => { e with key := kt.kv y, val := .bool true }, clock, ?_, ?_⟩
        · rw [hve, hvm, hvx]
          rw [hvx] at hck hf hkey
          simp [Instr.mapUpdate, run_underlying hu, MapKept.run_getObj_map hh, hck, hf, Result.andThen, hj, hkey, hst, MapKept.run_setObj_map _ hh]
        · have : es.modify j (fun e => { e with key := kt.kv y, val := .bool true }) = es := by
            apply Array.ext_getElem?
            intro q
            rw [Array.getElem?_modify]
            split
            · rename_i hq'
              subst hq'
              rw [hj, Option.map_some, ← hvx, ← hkey, ← hval]
            · rfl
          rw [this, addT, hm]
          exact ha
      · refine ⟨es.push { key := kt.kv y, val := .bool true, born := clock }, clock + 1, ?_, ?_⟩
        · rw [hve, hvm, hvx]
          rw [hvx] at hck hf
          simp [Instr.mapUpdate, run_underlying hu, MapKept.run_getObj_map hh, hck, hf, Result.andThen, MapKept.run_setObj_map _ hh]
        · rw [addT, hm, Array.toList_push]
          exact ha.append ⟨⟨rfl, rfl⟩, trivial⟩
    have hset := MapKept.heap_set (o' := .map es' clock') hh
    have hrl : r < w.heap.size := (Array.getElem?_eq_some_iff.1 hh).1
    have hb' : ∀ b, blk (Value.map (some r)) = some b → b = r := fun b hb => by simpa [blk] using hb.symm
    have hkeep : Keep (fun b => blk (Value.map (some r)) = some b) w { w with heap := w.heap.setIfInBounds r (.map es' clock') } :=
      ⟨rfl, rfl, rfl, by simp, fun q hq hn => hset.2 q (fun e => hn (by rw [e]; rfl))⟩
    have hgo : Goes w (Imm X w lk) { w with heap := w.heap.setIfInBounds r (.map es' clock') } (Imm X { w with heap := w.heap.setIfInBounds r (.map es' clock') } (lk.set i (.map (some r)))) :=
      Goes.upd hlk (fun q hq hn => hset.2 q (fun e => hn (by rw [e]; rfl))) (by simp) (fun b hb => .inl hb)
    have hil : i < lk.length := (List.getElem?_eq_some_iff.1 hlk).1
    have hsame : lk.set i (.map (some r)) = lk := by
      apply List.ext_getElem?
      intro q
      by_cases hqi : q = i
      · subst hqi; rw [List.getElem?_set_self hil, hlk]
      · rw [List.getElem?_set_ne (Ne.symm hqi)]
    have hrel : Rel X { w with heap := w.heap.setIfInBounds r (.map es' clock') } (lk.set i (.map (some r))) ⟨σ.tmps, σ.objs.set i (.mset kt (addT kt y ks))⟩ a := by
      refine hr.upd (o' := .mset kt (addT kt y ks)) hlk (fun q hq hn => hset.2 q (fun e => hn (by rw [e]; rfl))) (by simp) (fun b hb => .inl hb) hi.lx (fun _ => ⟨rfl, fun o hoo => by rw [ho] at hoo; simp at hoo; subst hoo; rfl⟩) rfl (by simp) (fun t' x' hx' => ⟨x', hx', fun u hu' => hu'.goes hgo (by rw [hsame]; exact Keeps.refl _ _)⟩) ?_ ?_ (fun j oj hji hj => ?_)
      · rw [List.getElem?_set_self (List.getElem?_eq_some_iff.1 ho).1]
      · exact ⟨r, es', clock', rfl, hset.1, ha'⟩
      · rw [List.getElem?_set_ne (Ne.symm hji)] at hj
        exact ⟨oj, hj, rfl, fun u hb hu' => ORep.goes hgo (by rw [hsame]; exact Keeps.refl _ _) hb hu'⟩
    have hinv := hi.upd (v' := .map (some r)) hlk hkeep (fun b hb => .inl hb)
    unfold Oper.wp
    have he : (execOp a.eval ⟨dst, .mapUpdate t m x v, ty, pos, after, guard⟩).run P w = .ok .skip { w with heap := w.heap.setIfInBounds r (.map es' clock') } := by
      show ((do Instr.mapUpdate t (a.eval m) (a.eval x) (a.eval v); pure Next.skip : Go.Sem Next)).run P w = _
      rw [Sem.run_bind, hrun]; rfl
    rw [he]
    exact hk _ _ undef _ _ hq hrel hinv trivial
  · exact h.elim
theorem evOp_sound (hT : TabOK P T) (hΓ : SemsOK X.gr P Γ) {M : Nat → Prop} {w0 w : World} {lk : List Value} {σ : St} {a : Act} {o : Oper} {Q : V → St → Prop} {Xk : Ex → St → Prop} {K : Act → World → Prop} {QQ : Exit → Act → World → Prop}
    (h : evOp T Γ o.op σ Q Xk) (hr : Rel X w lk σ a) (hi : Inv X M w0 w lk) (hk : KK X M w0 a Q o.dst K)
    (hx : ∀ t k n σ' w' lk', Xk (.panic (.ifa t k n)) σ' → Rel X w' lk' σ' a → Inv X M w0 w' lk' → QQ (.panic (panE t k n)) a w') : o.wp P a w K QQ := by
  obtain ⟨dst, op, ty, pos, after, guard⟩ := o
  cases op with
  | move x => exact ev_move hT hΓ _ h hr hi hk hx
  | assign x => exact ev_assign hT hΓ _ h hr hi hk hx
  | pick c x y => exact ev_pick hT hΓ _ _ _ h hr hi hk hx
  | alloc e => exact ev_alloc hT hΓ _ h hr hi hk hx
  | box e x => exact ev_box hT hΓ _ _ h hr hi hk hx
  | build t ps => exact ev_build hT hΓ _ _ h hr hi hk hx
  | buildSlice t n ps => exact ev_buildSlice hT hΓ _ _ _ h hr hi hk hx
  | load t p => exact ev_load hT hΓ _ _ h hr hi hk hx
  | store t p x => exact ev_store hT hΓ _ _ _ h hr hi hk hx
  | binOp op t x y yt => exact ev_binOp hT hΓ _ _ _ _ _ h hr hi hk hx
  | unOp op t x => exact ev_unOp hT hΓ _ _ _ h hr hi hk hx
  | convert s d x => exact ev_convert hT hΓ _ _ _ h hr hi hk hx
  | makeSlice t n c => exact ev_makeSlice hT hΓ _ _ _ h hr hi hk hx
  | slice t x lo hi' mx => exact ev_slice hT hΓ _ _ _ _ _ h hr hi hk hx
  | fieldAddr s p f => exact ev_fieldAddr hT hΓ _ _ _ h hr hi hk hx
  | field s x f => exact ev_field hT hΓ _ _ _ h hr hi hk hx
  | indexAddr t x i => exact ev_indexAddr hT hΓ _ _ _ h hr hi hk hx
  | index t x i => exact ev_index hT hΓ _ _ _ h hr hi hk hx
  | extract x i => exact ev_extract hT hΓ _ _ h hr hi hk hx
  | makeFunc fn first caps => exact ev_makeFunc hT hΓ _ _ _ h hr hi hk hx
  | makeInterface t x => exact ev_makeInterface hT hΓ _ _ h hr hi hk hx
  | panic x => exact ev_panic hT hΓ _ h hr hi hk hx
  | nilCheck x => exact ev_nilCheck hT hΓ _ h hr hi hk hx
  | makeMap t n => exact ev_makeMap hT hΓ _ _ h hr hi hk hx
  | lookup t m x ok => exact ev_lookup hT hΓ _ _ _ _ h hr hi hk hx
  | mapUpdate t m x v => exact ev_mapUpdate hT hΓ _ _ _ _ h hr hi hk hx
  | call c => exact ev_call hT hΓ _ h hr hi hk hx
  | _ => exact h.elim
end Go.Proofs.YtilagaapfbfkkaaGreatDoor.Ab
namespace Go.Proofs.YtilagaapfbfkkaaGreatDoor.Ab
open Go Go.RowKit Go.Proofs.YtilagaapfbfkkaaGreatDoorW.PrintWords
variable {X : Cx} {P : Program} {T : Tab} {Γ : Sems}
theorem rdW_rep {w : World} {I : Nat → Prop} {lk : List Value} {x : V} {v : Value} {g : Option Bool} {c : C} (h : rdW x = some (g, c)) (hv : VRep w I lk x v) (hg : g.getD true = true) : CRep w I lk c v := by
  cases x <;> simp [rdW] at h
  · obtain ⟨rfl, rfl⟩ := h; exact hv
  · obtain ⟨rfl, rfl⟩ := h; exact hv.1 hg
theorem andO_true {a b : Option Bool} (h : (andO a b).getD true = true) : a.getD true = true ∧ b.getD true = true := by
  cases a <;> cases b <;> simp_all [andO]
theorem iteO_true {x : Bool} {a b : Option Bool} (h : (iteO x a b).getD true = true) : (x = true → a.getD true = true) ∧ (x = false → b.getD true = true) := by
  cases a <;> cases b <;> cases x <;> simp_all [iteO]
theorem pureBin_sound {op : BinOp} {t : TypeId} {x y : Operand} {a b c : C} {w : World} {I : Nat → Prop} {lk : List Value} {va vb : Value} (h : pureBin op a b = some c) (ha : CRep w I lk a va) (hb : CRep w I lk b vb) :
    ∃ v, (∀ w', (do eqGuard op t x y va vb; binOp op t va vb : Go.Sem Value).run P w' = .ok v w') ∧ CRep w I lk c v := by
  unfold pureBin at h
  split at h
  · rename_i k x1 k' y1
    simp only [CRep] at ha hb
    subst ha hb
    have hg := fun w => eqGuard_one (P := P) op t x y (b := .int k' y1) w (a := .int k x1) (by simp) (by simp)
    simp only [Sem.run_bind, hg, Result.andThen_ok]
    split at h
    · rename_i hk; subst hk
      split at h
      all_goals first
        | (simp only [Option.some.injEq] at h; subst h; exact ⟨_, fun w => by cases k <;> rfl, rfl⟩)
        | cases h
    · cases h
  · rename_i x1 y1
    simp only [CRep] at ha hb
    subst ha hb
    have hg := fun w => eqGuard_one (P := P) op t x y (b := .string y1) w (a := .string x1) (by simp) (by simp)
    simp only [Sem.run_bind, hg, Result.andThen_ok]
    split at h
    all_goals first
      | (simp only [Option.some.injEq] at h; subst h; exact ⟨_, fun w => rfl, rfl⟩)
      | cases h
  · cases h
theorem pureOp_sound (hT : TabOK P T) {w : World} {lk : List Value} {σ : St} {a : Act} {o : Oper} {g : Option Bool} {p : Option Prop} {c : C} (h : pureOp T o.op σ = some (g, p, c)) (hr : Rel X w lk σ a) (hg : g.getD true = true) (hp : p.getD True) :
    ∃ v, (∀ w', (execOp a.eval o).run P w' = .ok (.value v) w') ∧ CRep w (Imm X w lk) lk c v := by
  have hop := opdR_rep hr
  obtain ⟨dst, op, ty, pos, after, guard⟩ := o
  unfold pureOp at h
  split at h
  · rename_i x heq
    simp only at heq
    subst heq
    split at h
    · rename_i g1 c1 hx
      simp only [Option.some.injEq, Prod.mk.injEq] at h
      obtain ⟨rfl, rfl, rfl⟩ := h
      exact ⟨a.eval x, fun _ => rfl, rdW_rep hx (hop x) hg⟩
    · cases h
  · rename_i x heq
    simp only at heq
    subst heq
    split at h
    · rename_i g1 c1 hx
      simp only [Option.some.injEq, Prod.mk.injEq] at h
      obtain ⟨rfl, rfl, rfl⟩ := h
      exact ⟨a.eval x, fun _ => rfl, rdW_rep hx (hop x) hg⟩
    · cases h
  · rename_i op t x y t2 heq
    simp only at heq
    subst heq
    split at h
    · rename_i g1 c1 g2 c2 hx hy
      split at h
      · rename_i c3 hb
        simp only [Option.some.injEq, Prod.mk.injEq] at h
        obtain ⟨rfl, rfl, rfl⟩ := h
        obtain ⟨h1, h2⟩ := andO_true hg
        obtain ⟨v, he, hv⟩ := pureBin_sound (P := P) (t := t) (x := x) (y := y) hb (rdW_rep hx (hop x) h1) (rdW_rep hy (hop y) h2)
        refine ⟨v, fun w' => ?_, hv⟩
        show ((do pure (Next.value (← (do eqGuard op t x y (a.eval x) (a.eval y); binOp op t (a.eval x) (a.eval y)))) : Go.Sem Next)).run P w' = _
        rw [Sem.run_bind, he]; rfl
      · cases h
    · cases h
  · rename_i t x heq
    simp only at heq
    subst heq
    split at h
    · rename_i g1 b hx
      simp only [Option.some.injEq, Prod.mk.injEq] at h
      obtain ⟨rfl, rfl, rfl⟩ := h
      have : a.eval x = .bool b := rdW_rep hx (hop x) hg
      refine ⟨.bool (!b), fun w' => ?_, rfl⟩
      show ((do pure (Next.value (← Op.unary .not (a.eval x))) : Go.Sem Next)).run P w' = _
      rw [this]; rfl
    · cases h
  · rename_i cc x y heq
    simp only at heq
    subst heq
    split at h
    · rename_i g1 b ga bx gb by_ hc hx hy
      simp only [Option.some.injEq, Prod.mk.injEq] at h
      obtain ⟨rfl, rfl, rfl⟩ := h
      obtain ⟨h1, h2⟩ := andO_true hg
      obtain ⟨h3, h4⟩ := iteO_true h2
      have hcv : a.eval cc = .bool b := rdW_rep hc (hop cc) h1
      refine ⟨.bool (bif b then bx else by_), fun w' => ?_, rfl⟩
      cases b with
      | true =>
        have : a.eval x = .bool bx := rdW_rep hx (hop x) (h3 rfl)
        simp [execOp, hcv, asBool, this]
      | false =>
        have : a.eval y = .bool by_ := rdW_rep hy (hop y) (h4 rfl)
        simp [execOp, hcv, asBool, this]
    · cases h
  · rename_i t x i heq
    simp only at heq
    subst heq
    split at h
    · rename_i sz by_ z g1 s g2 k n ht hx hi
      simp only [Option.some.injEq, Prod.mk.injEq] at h
      obtain ⟨rfl, rfl, rfl⟩ := h
      obtain ⟨h1, h2⟩ := andO_true hg
      have hu := (hT.str _ _ _ _ ht).1
      have hxv : a.eval x = .string s := rdW_rep hx (hop x) h1
      have hiv : a.eval i = .int k n := rdW_rep hi (hop i) h2
      refine ⟨.int .u8 (bt s n), fun w' => ?_, rfl⟩
      show ((do pure (Next.value (← Instr.index t (a.eval x) (a.eval i))) : Go.Sem Next)).run P w' = _
      rw [hxv, hiv, Sem.run_bind, index_sound hu hp.1 hp.2]; rfl
    · cases h
  · rename_i args tys heq
    simp only at heq
    subst heq
    split at h
    · rename_i t x htys hargs
      split at h
      · rename_i sz by_ z g1 s ht hx
        simp only [Option.some.injEq, Prod.mk.injEq] at h
        obtain ⟨rfl, rfl, rfl⟩ := h
        have hu := (hT.str _ _ _ _ ht).1
        have hxv : a.eval x = .string s := rdW_rep hx (hop x) hg
        have hcm : args.map a.eval = #[a.eval x] := by
          have : args = #[x] := Array.toList_inj.1 (by simpa using hargs)
          subst this; simp
        have hct : tys = #[t] := Array.toList_inj.1 (by simpa using htys)
        subst hct
        refine ⟨.int .i64 (s.size : Int), fun w' => ?_, rfl⟩
        show ((do pure (Next.value (← Builtin.len_ #[t] ty (args.map a.eval))) : Go.Sem Next)).run P w' = _
        rw [hcm, hxv]
        simp [Builtin.len_, run_underlying hu, goInt]
      · cases h
    · cases h
  · rename_i s d x heq
    simp only at heq
    subst heq
    split at h
    · rename_i k1 s1 b1 z1 k2 s2 b2 z2 g1 k3 n h1 h2 hx
      simp only [Option.some.injEq, Prod.mk.injEq] at h
      obtain ⟨rfl, rfl, rfl⟩ := h
      have hu := (hT.int _ _ _ _ _ h1).1
      have hu' := (hT.int _ _ _ _ _ h2).1
      have hxv : a.eval x = .int k3 n := rdW_rep hx (hop x) hg
      refine ⟨.int k2 (k2.wrap n), fun w' => ?_, rfl⟩
      show ((do pure (Next.value (← convert s d (a.eval x))) : Go.Sem Next)).run P w' = _
      rw [hxv]
      simp [convert, run_underlying hu, run_underlying hu', Conv.intToInt]
    · cases h
  · cases h
def exOf : Ex → Option Exit
  | .normal => some .normal | .exit i => some (.exit i) | .ret => some .ret
  | .panic (.ifa t k n) => some (.panic (panE t k n)) | _ => none
abbrev FF (X : Cx) (M : Nat → Prop) (w0 : World) (Q : Ex → St → Prop) (QQ : Exit → Act → World → Prop) : Prop :=
  ∀ e σ' a' w' lk' x, Q e σ' → exOf e = some x → Rel X w' lk' σ' a' → Inv X M w0 w' lk' → QQ x a' w'
theorem yielded_one {ops : Array Oper} {σ : St} {a : Act} {w : World} {lk : List Value} (hr : Rel X w lk σ a) {j : Nat} {want b : Bool} (h : guardV ops.toList σ j want = some b) : (yielded ops a.tmps j == some want) = b := by
  unfold guardV at h
  rw [nth_get] at h
  split at h
  · rename_i o ho
    split at h
    · rename_i t ht
      rw [nth_get] at h
      have hops : ops[j]? = some o := by simpa using ho
      have htm : ∀ v x, σ.tmps[t]? = some x → a.tmps.getD t undef = v → yielded ops a.tmps j = match v with | .bool b => some b | _ => none := by
        intro v x hx hv
        have hlt : t < a.tmps.size := by rw [hr.tsz]; exact (List.getElem?_eq_some_iff.1 hx).1
        have hv' : a.tmps[t]? = some v := by rw [← hv]; simp [Array.getD, hlt]
        simp only [yielded, hops, Option.bind_some, ht, hv']
        cases v <;> rfl
      split at h
      · rename_i b0 hx
        have := hr.tm t _ hx
        have hv : a.tmps.getD t undef = .bool b0 := this
        rw [htm _ _ hx hv]
        cases want <;> cases b0 <;> simp_all
      · rename_i g b0 hx
        have hw := hr.tm t _ hx
        cases g with
        | true =>
          have hv : a.tmps.getD t undef = .bool b0 := hw.1 rfl
          rw [htm _ _ hx hv]
          cases want <;> cases b0 <;> simp_all
        | false =>
          have hv : a.tmps.getD t undef = undef := hw.2 rfl
          rw [htm _ _ hx hv]
          cases want <;> cases b0 <;> simp_all [undef]
      · cases h
    · cases h
  · cases h
theorem wanted_of {ops : Array Oper} {σ : St} {a : Act} {w : World} {lk : List Value} (hr : Rel X w lk σ a) {o : Oper} {j : Nat} {want b : Bool} (ho : o.guard = some (j, want)) (h : guardV ops.toList σ j want = some b) : Region.wanted o (yielded ops a.tmps) = b := by
  unfold Region.wanted
  rw [ho]
  exact yielded_one hr h
theorem owed_iff {b : Bool} {g : Option Bool} {p : Option Prop} {K : Prop} (h : owed b g p K) : (b = true → g.getD true = true ∧ p.getD True) ∧ K := by
  cases g <;> cases p <;> simp only [owed] at h
  · exact ⟨fun _ => ⟨rfl, trivial⟩, h⟩
  · exact ⟨fun hb => ⟨rfl, h.1 hb⟩, h.2⟩
  · exact ⟨fun hb => ⟨h.1 hb, trivial⟩, h.2⟩
  · exact h
theorem guardK_iff {ops : List Oper} {σ : St} {g : Option (Nat × Bool)} {yes no : Prop} (h : guardK ops σ g yes no) : (g = none ∧ yes) ∨ ∃ j want b, g = some (j, want) ∧ guardV ops σ j want = some b ∧ (b = true → yes) ∧ (b = false → no) := by
  unfold guardK at h
  split at h
  · exact .inl ⟨rfl, h⟩
  · rename_i j want
    split at h
    · rename_i b hb
      exact .inr ⟨j, want, b, rfl, hb, (Br_iff.1 h).1, (Br_iff.1 h).2⟩
    · exact h.elim
theorem putK_rel {M : Nat → Prop} {w0 w : World} {lk : List Value} {σ : St} {a : Act} {d : Option Tmp} {x : V} {v : Value} {Q : St → Prop} (h : putK σ d x Q) (hr : Rel X w lk σ a) (hv : VRep w (Imm X w lk) lk x v) : ∃ σ', Q σ' ∧ Rel X w lk σ' (a.put d v) := by
  rw [putK_iff] at h
  exact ⟨_, h, hr.put d hv⟩
theorem evOps_sound (hT : TabOK P T) (hΓ : SemsOK X.gr P Γ) {M : Nat → Prop} {w0 : World} {ops : Array Oper} {Q : Ex → St → Prop} {QQ : Exit → Act → World → Prop} (hF : FF X M w0 Q QQ) :
    ∀ (n i : Nat) {σ : St} {a : Act} {w : World} {lk : List Value}, ops.size = i + n → evOps T Γ ops.toList (ops.toList.drop i) σ Q → Rel X w lk σ a → Inv X M w0 w lk → wpOps P ops QQ (List.range' i n) a w
  | 0, i, σ, a, w, lk, hn, h, hr, hi => by
    rw [List.drop_of_length_le (by simp; omega)] at h
    exact hF .normal σ a w lk .normal h rfl hr hi
  | n + 1, i, σ, a, w, lk, hn, h, hr, hi => by
    have hlt : i < ops.size := by omega
    have hd : ops.toList.drop i = ops[i] :: ops.toList.drop (i + 1) := by
      rw [List.drop_eq_getElem_cons (by simpa using hlt)]; simp
    rw [hd] at h
    have hoi : ops[i]? = some ops[i] := by simp [hlt]
    generalize ho : ops[i] = o at h hoi
    simp only [List.range'_succ, wpOps, hoi]
    have ih := fun {σ a w lk} => evOps_sound (ops := ops) hT hΓ hF n (i + 1) (σ := σ) (a := a) (w := w) (lk := lk) (by omega)
    have rest_yes : ∀ {σ' : St} {w' : World} {lk' : List Value}, evOp T Γ o.op σ (fun v σ' => putK σ' o.dst v fun σ'' => evOps T Γ ops.toList (ops.toList.drop (i + 1)) σ'' Q) Q → o.wp P a w (wpOps P ops QQ (List.range' (i + 1) n)) QQ := by
      intro _ _ _ hev
      refine evOp_sound hT hΓ hev hr hi ?_ ?_
      · intro x σ' v w' lk' hq hr' hi' hv
        obtain ⟨σ2, hq2, hr2⟩ := putK_rel (M := M) (w0 := w0) hq hr' hv
        exact ih hq2 hr2 hi'
      · intro t k m σ' w' lk' hq hr' hi'
        exact hF _ σ' a w' lk' _ hq rfl hr' hi'
    have rest_no : putK σ o.dst (.wh false (.bool false)) (fun σ' => evOps T Γ ops.toList (ops.toList.drop (i + 1)) σ' Q) → wpOps P ops QQ (List.range' (i + 1) n) (a.put o.dst undef) w := by
      intro hq
      obtain ⟨σ2, hq2, hr2⟩ := putK_rel (M := M) (w0 := w0) (v := undef) hq hr ⟨fun h => (by cases h), fun _ => rfl⟩
      exact ih hq2 hr2 hi
    have gen : guardK ops.toList σ o.guard (evOp T Γ o.op σ (fun v σ' => putK σ' o.dst v fun σ'' => evOps T Γ ops.toList (ops.toList.drop (i + 1)) σ'' Q) Q) (putK σ o.dst (.wh false (.bool false)) fun σ' => evOps T Γ ops.toList (ops.toList.drop (i + 1)) σ' Q) →
        (if Region.wanted o (yielded ops a.tmps) = true then o.wp P a w (wpOps P ops QQ (List.range' (i + 1) n)) QQ ∨ (o.asks P a w ∧ LetsOut QQ) else wpOps P ops QQ (List.range' (i + 1) n) (a.put o.dst undef) w) := by
      intro hg
      rcases guardK_iff hg with ⟨hg0, hy⟩ | ⟨j, want, b, hg0, hgv, hy, hno⟩
      · rw [if_pos (by unfold Region.wanted; rw [hg0])]
        exact .inl (rest_yes (σ' := σ) (w' := w) (lk' := lk) hy)
      · rw [wanted_of hr hg0 hgv]
        cases b with
        | true => rw [if_pos rfl]; exact .inl (rest_yes (σ' := σ) (w' := w) (lk' := lk) (hy rfl))
        | false => rw [if_neg (by simp)]; exact rest_no (hno rfl)
    simp only [evOps] at h
    split at h
    · rename_i j want g1 p c hgd hp
      split at h
      · rename_i b hgv
        obtain ⟨hb, hq⟩ := owed_iff h
        rw [wanted_of hr hgd hgv]
        cases b with
        | true =>
          rw [if_pos rfl]
          obtain ⟨h1, h2⟩ := hb rfl
          obtain ⟨v, he, hv⟩ := pureOp_sound hT hp hr h1 h2
          left
          unfold Oper.wp
          rw [he]
          obtain ⟨σ2, hq2, hr2⟩ := putK_rel (M := M) (w0 := w0) (v := v) hq hr (show VRep w (Imm X w lk) lk (.wh true c) v from ⟨fun _ => hv, fun h => (by cases h)⟩)
          exact ih hq2 hr2 hi
        | false =>
          rw [if_neg (by simp)]
          obtain ⟨σ2, hq2, hr2⟩ := putK_rel (M := M) (w0 := w0) (v := undef) hq hr (show VRep w (Imm X w lk) lk (.wh false c) undef from ⟨fun h => (by cases h), fun _ => rfl⟩)
          exact ih hq2 hr2 hi
      · exact h.elim
    · exact gen h
end Go.Proofs.YtilagaapfbfkkaaGreatDoor.Ab
