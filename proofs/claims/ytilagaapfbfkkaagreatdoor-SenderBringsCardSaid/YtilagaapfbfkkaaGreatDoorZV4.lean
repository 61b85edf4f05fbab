/- Part 4 of 10 of the texts that the sender's rows rest on, put together by a program; no condition. -/
import Derived.Test.YtilagaapfbfkkaaGreatDoorZV3
import Derived.OrdersHeld
import Derived.LoopN
set_option maxHeartbeats 128000000
set_option linter.unusedSimpArgs false
set_option linter.unusedVariables false
namespace Go.Proofs.YtilagaapfbfkkaaGreatDoor.Ab
open Go Go.RowKit Go.Proofs.YtilagaapfbfkkaaGreatDoorW.PrintWords
variable {X : Cx} {P : Program} {T : Tab} {Γ : Sems}
theorem cell_same {w w' : World} {ad : Addr} (h : w'.heap[ad.block]? = w.heap[ad.block]?) : w'.cell? ad = w.cell? ad := by
  simp [World.cell?, h]
theorem add_block (ad : Addr) (i : Nat) : (ad.add i).block = ad.block := by
  unfold Addr.add
  split <;> rfl
def Sees (o : Op) (a : Act) (w w' : World) : Prop := ∀ t p ad, o = .load t p → a.eval p = .pointer (some ad) → w'.heap[ad.block]? = w.heap[ad.block]?
theorem qBin_sound {op : BinOp} {t : TypeId} {x y : Operand} {a b : C} {c : Prop × C} {w : World} {I : Nat → Prop} {lk : List Value} {va vb : Value} (h : qBin op a b = some c) (hp : c.1) (ha : CRep w I lk a va) (hb : CRep w I lk b vb) :
    ∃ v, (∀ w', (do eqGuard op t x y va vb; binOp op t va vb : Go.Sem Value).run P w' = .ok v w') ∧ CRep w I lk c.2 v := by
  unfold qBin at h
  split at h
  · rename_i x1 y1
    simp only [Option.some.injEq] at h
    subst h
    simp only [CRep] at ha hb
    subst ha hb
    have h0 : x1.size + y1.size ≤ 9223372036854775807 := hp
    refine ⟨_, fun w' => ?_, rfl⟩
    have hg := eqGuard_one (P := P) .add t x y (b := .string y1) w' (a := .string x1) (by simp) (by simp)
    have : ¬ ((x1.size + y1.size : Nat) : Int) > IntKind.i64.max := by simp only [IntKind.max, IntKind.signed, IntKind.bits]; simp; omega
    simp only [Sem.run_bind, hg, Result.andThen_ok, binOp, Op.stringOp, if_neg this]; rfl
  · cases hb' : pureBin op a b with
    | none => rw [hb'] at h; cases h
    | some c' =>
      rw [hb'] at h
      simp only [Option.map_some, Option.some.injEq] at h
      subst h
      exact pureBin_sound hb' ha hb
theorem qOp_sound (hT : TabOK P T) {w : World} {lk : List Value} {σ : St} {a : Act} {o : Oper} {p : Prop} {x : V} (h : qOp T o.op σ = some (p, x)) (hp : p) (hr : Rel X w lk σ a) :
    ∃ v, VRep w (Imm X w lk) lk x v ∧ ∀ w', Sees o.op a w w' → (execOp a.eval o).run P w' = .ok (.value v) w' := by
  have hop := opd_rep hr
  obtain ⟨dst, op, ty, pos, after, guard⟩ := o
  simp only at h ⊢
  unfold qOp at h
  split at h
  · rename_i y
    simp only [Option.some.injEq, Prod.mk.injEq] at h
    obtain ⟨rfl, rfl⟩ := h
    exact ⟨_, opdR_rep hr y, fun w' _ => rfl⟩
  · rename_i y
    simp only [Option.some.injEq, Prod.mk.injEq] at h
    obtain ⟨rfl, rfl⟩ := h
    exact ⟨_, opdR_rep hr y, fun w' _ => rfl⟩
  · rename_i cc y z
    split at h
    · rename_i g b1 b2 hc hy hz
      simp only [Option.some.injEq, Prod.mk.injEq] at h
      obtain ⟨rfl, rfl⟩ := h
      have h1 := hop cc; have h2 := hop y; have h3 := hop z
      rw [hc] at h1; rw [hy] at h2; rw [hz] at h3
      have e1 : a.eval cc = .bool g := h1
      have e2 : a.eval y = .bool b1 := h2
      have e3 : a.eval z = .bool b2 := h3
      refine ⟨.bool (bif g then b1 else b2), rfl, fun w' _ => ?_⟩
      cases g <;> simp [execOp, e1, asBool, e2, e3]
    · split at h
      · rename_i g1 c1 hpure
        simp only [Option.some.injEq, Prod.mk.injEq] at h
        obtain ⟨rfl, rfl⟩ := h
        obtain ⟨v, he, hv⟩ := pureOp_sound (P := P) (o := ⟨dst, .pick cc y z, ty, pos, after, guard⟩) hT hpure hr hp trivial
        exact ⟨v, hv, fun w' _ => he w'⟩
      · cases h
  · rename_i bop t y z t2
    split at h
    · rename_i b1 b2 hy hz
      have h1 := hop y; have h2 := hop z
      rw [hy] at h1; rw [hz] at h2
      split at h
      · rename_i sz by_ zz ht
        have key : ∀ w' r, (evBin T bop t (.one (.bool b1)) (.one (.bool b2)) fun v => v = .one (.bool r)) → (do eqGuard bop t y z (a.eval y) (a.eval z); binOp bop t (a.eval y) (a.eval z) : Go.Sem Value).run P w' = .ok (.bool r) w' := fun w' r hq => by
          obtain ⟨X', v', hX, hv', hrun⟩ := evBin_sound (P := P) (I := Imm X w lk) (lk := lk) (w := w') (x := y) (y := z) hT hq (show VRep w' (Imm X w lk) lk (.one (.bool b1)) (a.eval y) from h1) (show VRep w' (Imm X w lk) lk (.one (.bool b2)) (a.eval z) from h2)
          subst hX
          have : v' = .bool r := hv'
          rw [this] at hrun; exact hrun
        split at h
        · simp only [Option.some.injEq, Prod.mk.injEq] at h
          obtain ⟨rfl, rfl⟩ := h
          refine ⟨.bool (b1 == b2), rfl, fun w' _ => ?_⟩
          show ((do pure (Next.value (← (do eqGuard .eql t y z (a.eval y) (a.eval z); binOp .eql t (a.eval y) (a.eval z)))) : Go.Sem Next)).run P w' = _
          rw [Sem.run_bind, key w' (b1 == b2) (by unfold evBin; simp only [ht])]; rfl
        · simp only [Option.some.injEq, Prod.mk.injEq] at h
          obtain ⟨rfl, rfl⟩ := h
          refine ⟨.bool (!(b1 == b2)), rfl, fun w' _ => ?_⟩
          show ((do pure (Next.value (← (do eqGuard .neq t y z (a.eval y) (a.eval z); binOp .neq t (a.eval y) (a.eval z)))) : Go.Sem Next)).run P w' = _
          rw [Sem.run_bind, key w' (!(b1 == b2)) (by unfold evBin; simp only [ht])]; rfl
        · cases h
      · cases h
    · rename_i c1 c2 hn hy hz
      cases hb : qBin bop c1 c2 with
      | none => rw [hb] at h; cases h
      | some c =>
        rw [hb] at h
        simp only [Option.map_some, Option.some.injEq, Prod.mk.injEq] at h
        obtain ⟨rfl, rfl⟩ := h
        have h1 := hop y; have h2 := hop z
        rw [hy] at h1; rw [hz] at h2
        obtain ⟨v, he, hv⟩ := qBin_sound (P := P) (t := t) (x := y) (y := z) hb hp h1 h2
        refine ⟨v, hv, fun w' _ => ?_⟩
        show ((do pure (Next.value (← (do eqGuard bop t y z (a.eval y) (a.eval z); binOp bop t (a.eval y) (a.eval z)))) : Go.Sem Next)).run P w' = _
        rw [Sem.run_bind, he]; rfl
    · rename_i l l' hy hz
      split at h
      · rename_i fs s0 b0 z0 ht
        have h1 := hop y; have h2 := hop z
        rw [hy] at h1; rw [hz] at h2
        have hsh : ∀ l, shape T t l = some (.agg l) := fun l => by unfold shape; rw [ht]
        obtain ⟨F, hu, _, hgt, _⟩ := hT.eqs _ _ _ _ _ ht
        have hv1 := h1
        have hv2 := h2
        obtain ⟨us, e1, _⟩ := h1
        obtain ⟨vs, e2, _⟩ := h2
        have hg : ∀ w' op, (eqGuard op t y z (.agg us.toArray) (.agg vs.toArray)).run P w' = .ok () w' := fun w' op => by
          cases op <;> simp [eqGuard, Sem.run_bind, hgt]
        split at h
        · rename_i r hr
          simp only [Option.some.injEq, Prod.mk.injEq] at h
          obtain ⟨rfl, rfl⟩ := h
          refine ⟨.bool r, rfl, fun w' _ => ?_⟩
          have := eqC_sound (w' := w') hT 9 9991 t _ _ _ hr _ _ _ _ (hsh _) (hsh _) hv1 hv2
          rw [e1, e2] at this
          show ((do pure (Next.value (← (do eqGuard .eql t y z (a.eval y) (a.eval z); binOp .eql t (a.eval y) (a.eval z)))) : Go.Sem Next)).run P w' = _
          have hb : binOp .eql t (.agg us.toArray) (.agg vs.toArray) = (do pure (.bool (← Op.equal t (.agg us.toArray) (.agg vs.toArray)))) := by simp [binOp]
          have he : (Op.equal t (.agg us.toArray) (.agg vs.toArray)).run P w' = .ok r w' := this
          rw [e1, e2, hb]
          simp [Sem.run_bind, hg, he]
        · rename_i r hr
          simp only [Option.some.injEq, Prod.mk.injEq] at h
          obtain ⟨rfl, rfl⟩ := h
          refine ⟨.bool (!r), rfl, fun w' _ => ?_⟩
          have := eqC_sound (w' := w') hT 9 9991 t _ _ _ hr _ _ _ _ (hsh _) (hsh _) hv1 hv2
          rw [e1, e2] at this
          show ((do pure (Next.value (← (do eqGuard .neq t y z (a.eval y) (a.eval z); binOp .neq t (a.eval y) (a.eval z)))) : Go.Sem Next)).run P w' = _
          have hb : binOp .neq t (.agg us.toArray) (.agg vs.toArray) = (do pure (.bool (!(← Op.equal t (.agg us.toArray) (.agg vs.toArray))))) := by simp [binOp]
          have he : (Op.equal t (.agg us.toArray) (.agg vs.toArray)).run P w' = .ok r w' := this
          rw [e1, e2, hb]
          simp [Sem.run_bind, hg, he]
        · cases h
      · cases h
    · cases h
  · rename_i t y
    split at h
    · rename_i b hy
      simp only [Option.some.injEq, Prod.mk.injEq] at h
      obtain ⟨rfl, rfl⟩ := h
      have h1 := hop y
      rw [hy] at h1
      have e1 : a.eval y = .bool b := h1
      refine ⟨.bool (!b), rfl, fun w' _ => ?_⟩
      show ((do pure (Next.value (← Op.unary .not (a.eval y))) : Go.Sem Next)).run P w' = _
      rw [e1]; rfl
    · cases h
  · rename_i t q
    split at h
    · rename_i ti c hti hq
      cases hcs : cellsAt σ c ti.sz with
      | none => rw [hcs] at h; cases h
      | some cs =>
        cases hsh : shape T t cs with
        | none => rw [hcs] at h; simp [hsh] at h
        | some v0 =>
          rw [hcs] at h
          simp only [Option.bind_some, hsh, Option.map_some, Option.some.injEq, Prod.mk.injEq] at h
          obtain ⟨rfl, rfl⟩ := h
          have h1 := hop q
          rw [hq] at h1
          obtain ⟨ad, us, hpe, hl, hau, hu⟩ := cellsAt_sound hr hcs h1
          obtain ⟨r, hrun, hrv⟩ := run_load_all hT hti (ad := ad) hl hau hsh
          refine ⟨r, hrv, fun w' hs => ?_⟩
          have hb := hs t q ad rfl hpe
          have := hrun w' (fun i u hi => (cell_same (by rw [add_block]; exact hb)).trans (hu i u hi))
          show ((do pure (Next.value (← Instr.loadAt t (a.eval q))) : Go.Sem Next)).run P w' = _
          rw [Sem.run_bind, hpe]
          simp [Instr.loadAt, Instr.sureAddr, this]
    · cases h
  · rename_i s q f
    split at h
    · rename_i fs sz by_ z ht
      have hpv := hop q
      have go : ∀ (v : Value), (∀ w', (Instr.fieldAt s (a.eval q) f).run P w' = .ok v w') → ∀ w', (execOp a.eval ⟨dst, .fieldAddr s q f, ty, pos, after, guard⟩).run P w' = .ok (.value v) w' := fun v hv w' => by
        show ((do pure (Next.value (← Instr.fieldAt s (a.eval q) f)) : Go.Sem Next)).run P w' = _
        rw [Sem.run_bind, hv]; rfl
      split at h
      · rename_i off ft i o' hf hq
        simp only [Option.some.injEq, Prod.mk.injEq] at h
        obtain ⟨rfl, rfl⟩ := h
        rw [hq] at hpv
        obtain ⟨F, fd, inf, hu, hff, rfl, _, hinf, h0⟩ := field_off hT ht hf
        obtain ⟨b, hb, hpe⟩ := hpv
        exact ⟨.pointer (some ⟨b, o' + fd.offset, none⟩), ⟨b, hb, rfl⟩, fun w' _ => go _ (fun w' => by rw [hpe, fieldAt_run hu hff hinf h0, add_mk]) w'⟩
      · rename_i off ft t' i j o' hf hq
        simp only [Option.some.injEq, Prod.mk.injEq] at h
        obtain ⟨rfl, rfl⟩ := h
        rw [hq] at hpv
        obtain ⟨F, fd, inf, hu, hff, rfl, _, hinf, h0⟩ := field_off hT ht hf
        obtain ⟨g, n, c, hb, hj, hpe⟩ := hpv
        exact ⟨.pointer (some ⟨g, j * t'.sz + (o' + fd.offset), none⟩), ⟨g, n, c, hb, hj, rfl⟩, fun w' _ => go _ (fun w' => by rw [hpe, fieldAt_run hu hff hinf h0, add_mk, Nat.add_assoc]) w'⟩
      · rename_i off ft t' x' o' hf hq
        simp only [Option.some.injEq, Prod.mk.injEq] at h
        obtain ⟨rfl, rfl⟩ := h
        rw [hq] at hpv
        obtain ⟨F, fd, inf, hu, hff, rfl, _, hinf, h0⟩ := field_off hT ht hf
        obtain ⟨ad, m, us, hI, hs, hl, htr, hc, hpe⟩ := hpv
        exact ⟨.pointer (some (ad.add (m + (o' + fd.offset)))), ⟨ad, m, us, hI, hs, hl, htr, hc, rfl⟩, fun w' _ => go _ (fun w' => by rw [hpe, fieldAt_run hu hff hinf h0, add_add hs, Nat.add_assoc]) w'⟩
      · cases h
    · cases h
  · rename_i t y i
    split at h
    · rename_i e te sz by_ z k n ht hio
      obtain ⟨hu, _, ti, hte, hsz, _⟩ := hT.slice _ _ _ _ _ _ ht
      obtain ⟨inf, zv, hinf, hisz, _⟩ := hT.info e ti hte
      have hiv := hop i
      rw [hio] at hiv
      have hiv' : a.eval i = .int k n := hiv
      have hxv := hop y
      have hrun : ∀ (w : World) (ad : Addr) (m c : Nat), 0 ≤ n → n < m → (Instr.indexAt t (.slice (some ad) m c) (.int k n)).run P w = .ok (.pointer (some (ad.add (n.toNat * te.sz)))) w := by
        intro w ad m c h0 h1
        simp [Instr.indexAt, asIntOf, run_underlying hu, h0, h1, sizeOf, typeInfo, hinf, hisz, hsz]
      have go : ∀ (v : Value), (∀ w', (Instr.indexAt t (a.eval y) (a.eval i)).run P w' = .ok v w') → ∀ w', (execOp a.eval ⟨dst, .indexAddr t y i, ty, pos, after, guard⟩).run P w' = .ok (.value v) w' := fun v hv w' => by
        show ((do pure (Next.value (← Instr.indexAt t (a.eval y) (a.eval i))) : Go.Sem Next)).run P w' = _
        rw [Sem.run_bind, hv]; rfl
      split at h
      · rename_i t' xs hxo
        split at h
        · rename_i hte'
          subst hte'
          simp only [Option.some.injEq, Prod.mk.injEq] at h
          obtain ⟨rfl, rfl⟩ := h
          obtain ⟨h0, h1⟩ := hp
          rw [hxo] at hxv
          obtain ⟨A, c, hxe, hc, hsr⟩ := hxv
          obtain ⟨ad, rfl, hI, hcell⟩ := hsr.2 (by omega)
          have hx0 : xs[n.toNat]? = some (rdx xs n.toNat t'.dflt) := by
            have : n.toNat < xs.length := by omega
            simp [rdx, List.getD, List.getElem?_eq_getElem this]
          obtain ⟨cs, hl, htr, hcu⟩ := hcell _ _ hx0
          have hsp : ad.spot = none := by
            obtain ⟨cs0, hl0, _, hu0⟩ := hcell 0 _ (List.getElem?_eq_getElem (by omega))
            have hpos := t'.sz_pos
            have := hu0 0 _ (List.getElem?_eq_getElem (by omega))
            simp only [Nat.zero_mul, Nat.zero_add] at this
            have := cell_spot this
            simpa [Addr.add] using this
          refine ⟨.pointer (some (ad.add (n.toNat * t'.sz + 0))), ⟨ad, n.toNat * t'.sz, cs, hI, hsp, hl, htr, hcu, rfl⟩, fun w' _ => go _ (fun w' => ?_) w'⟩
          rw [hxe, hiv', Nat.add_zero]
          exact hrun w' ad _ c h0 h1
        · cases h
      · rename_i j hxo
        rw [nth_get] at h
        split at h
        · rename_i e' te' xs ap mv ho
          split at h
          · rename_i hte'
            subst hte'
            simp only [Option.some.injEq, Prod.mk.injEq] at h
            obtain ⟨rfl, rfl⟩ := h
            obtain ⟨h0, h1⟩ := hp
            rw [hxo] at hxv
            obtain ⟨hlk, _⟩ := hxv
            obtain ⟨cells, hreps, hv⟩ := hr.ob j _ _ ho hlk
            rcases hv with ⟨_, rfl⟩ | ⟨g, cap, cur, fr, hxe, _⟩
            · simp at h1; omega
            · refine ⟨.pointer (some ⟨g, n.toNat * te'.sz + 0, none⟩), ⟨g, xs.length, cap, by rw [hlk, hxe], by omega, rfl⟩, fun w' _ => go _ (fun w' => ?_) w'⟩
              rw [hxe, hiv', hrun _ _ _ _ h0 h1, add_mk]; simp
          · cases h
        · cases h
      · cases h
    · cases h
  · rename_i t y i
    split at h
    · rename_i sz by_ z s k n ht hxo hio
      have hu := (hT.str _ _ _ _ ht).1
      simp only [Option.some.injEq, Prod.mk.injEq] at h
      obtain ⟨rfl, rfl⟩ := h
      obtain ⟨h0, h1⟩ := hp
      have hxv := hop y
      have hiv := hop i
      rw [hxo] at hxv
      rw [hio] at hiv
      have hxv' : a.eval y = .string s := hxv
      have hiv' : a.eval i = .int k n := hiv
      refine ⟨.int .u8 (bt s n), rfl, fun w' _ => ?_⟩
      show ((do pure (Next.value (← Instr.index t (a.eval y) (a.eval i))) : Go.Sem Next)).run P w' = _
      rw [hxv', hiv', Sem.run_bind, index_sound hu h0 h1]; rfl
    · cases h
  · rename_i t ps
    split at h
    · rename_i fs sz by_ z ht
      cases hcs : fillK T fs (ps.toList.map fun p => (p.1, opd σ p.2)) z with
      | none => rw [hcs] at h; cases h
      | some cs =>
        rw [hcs] at h
        simp only [Option.map_some, Option.some.injEq, Prod.mk.injEq] at h
        obtain ⟨rfl, rfl⟩ := h
        obtain ⟨v, he, hv⟩ := build_sound hT ht hr hcs
        refine ⟨v, hv, fun w' _ => ?_⟩
        show ((do pure (Next.value (← Instr.build t (ps.map fun (i, x) => (i, a.eval x)))) : Go.Sem Next)).run P w' = _
        rw [Sem.run_bind, he]; rfl
    · cases h
  · rename_i args tys
    split at h
    · rename_i t y htys hargs
      have hcm : args.map a.eval = #[a.eval y] := by
        have : args = #[y] := Array.toList_inj.1 (by simpa using hargs)
        subst this; simp
      have hct : tys = #[t] := Array.toList_inj.1 (by simpa using htys)
      subst hct
      have hxv := hop y
      have go : ∀ (n : Nat), (∀ w', (Builtin.len_ #[t] ty #[a.eval y]).run P w' = .ok (.int .i64 (n : Int)) w') → ∀ w', (execOp a.eval ⟨dst, .call ⟨.builtin .len, args, #[t]⟩, ty, pos, after, guard⟩).run P w' = .ok (.value (.int .i64 (n : Int))) w' := fun n hv w' => by
        show ((do pure (Next.value (← Builtin.len_ #[t] ty (args.map a.eval))) : Go.Sem Next)).run P w' = _
        rw [hcm, Sem.run_bind, hv]; rfl
      split at h
      · rename_i sz by_ z s ht hxo
        simp only [Option.some.injEq, Prod.mk.injEq] at h
        obtain ⟨rfl, rfl⟩ := h
        have hu := (hT.str _ _ _ _ ht).1
        rw [hxo] at hxv
        have hxe : a.eval y = .string s := hxv
        exact ⟨_, rfl, fun w' _ => go _ (fun w' => by rw [hxe]; simp [Builtin.len_, run_underlying hu, goInt]) w'⟩
      · rename_i e te sz by_ z t' xs ht hxo
        simp only [Option.some.injEq, Prod.mk.injEq] at h
        obtain ⟨rfl, rfl⟩ := h
        obtain ⟨hu, _⟩ := hT.slice _ _ _ _ _ _ ht
        rw [hxo] at hxv
        obtain ⟨A, c, hxe, _⟩ := hxv
        exact ⟨_, rfl, fun w' _ => go _ (fun w' => by rw [hxe]; simp [Builtin.len_, run_underlying hu, goInt]) w'⟩
      · rename_i e te sz by_ z j ht hxo
        rw [nth_get] at h
        split at h
        · rename_i e' te' xs ap mv ho
          simp only [Option.some.injEq, Prod.mk.injEq] at h
          obtain ⟨rfl, rfl⟩ := h
          obtain ⟨hu, _⟩ := hT.slice _ _ _ _ _ _ ht
          rw [hxo] at hxv
          obtain ⟨hlk, _⟩ := hxv
          obtain ⟨cells, hreps, hv⟩ := hr.ob j _ _ ho hlk
          rcases hv with ⟨hxe, rfl⟩ | ⟨g, cap, cur, fr, hxe, _⟩
          · exact ⟨_, rfl, fun w' _ => go 0 (fun w' => by rw [hxe]; simp [Builtin.len_, run_underlying hu, goInt]) w'⟩
          · exact ⟨_, rfl, fun w' _ => go _ (fun w' => by rw [hxe]; simp [Builtin.len_, run_underlying hu, goInt]) w'⟩
        · cases h
      · rename_i e te sz by_ z ht hxo
        simp only [Option.some.injEq, Prod.mk.injEq] at h
        obtain ⟨rfl, rfl⟩ := h
        obtain ⟨hu, _⟩ := hT.slice _ _ _ _ _ _ ht
        rw [hxo] at hxv
        have hxe : a.eval y = .slice none 0 0 := hxv
        exact ⟨_, rfl, fun w' _ => go 0 (fun w' => by rw [hxe]; simp [Builtin.len_, run_underlying hu, goInt]) w'⟩
      · cases h
    · cases h
  · rename_i s d x
    split at h
    · rename_i g1 c1 hpure
      simp only [Option.some.injEq, Prod.mk.injEq] at h
      obtain ⟨rfl, rfl⟩ := h
      obtain ⟨v, he, hv⟩ := pureOp_sound (P := P) (o := ⟨dst, .convert s d x, ty, pos, after, guard⟩) hT hpure hr hp trivial
      exact ⟨v, hv, fun w' _ => he w'⟩
    · cases h
  · rename_i y
    have hpv := hop y
    split at h
    · rename_i i o hq
      simp only [Option.some.injEq, Prod.mk.injEq] at h
      obtain ⟨rfl, rfl⟩ := h
      rw [hq] at hpv
      have hv := hpv
      obtain ⟨b, _, he⟩ := hpv
      refine ⟨_, hv, fun w' _ => ?_⟩
      simp [execOp, he]
    · rename_i t i j o hq
      simp only [Option.some.injEq, Prod.mk.injEq] at h
      obtain ⟨rfl, rfl⟩ := h
      rw [hq] at hpv
      have hv := hpv
      obtain ⟨g, n, c, _, _, he⟩ := hpv
      refine ⟨_, hv, fun w' _ => ?_⟩
      simp [execOp, he]
    · rename_i t z o hq
      simp only [Option.some.injEq, Prod.mk.injEq] at h
      obtain ⟨rfl, rfl⟩ := h
      rw [hq] at hpv
      have hv := hpv
      obtain ⟨ad, m, cs, _, _, _, _, _, he⟩ := hpv
      refine ⟨_, hv, fun w' _ => ?_⟩
      simp [execOp, he]
    · cases h
  · rename_i y i
    split at h
    · rename_i l hxo
      have hxv := hop y
      rw [hxo] at hxv
      obtain ⟨vs, hxe, ha⟩ := hxv
      rw [nth_get] at h
      have key : ∀ e, l[i]? = some e → ∃ u, (∀ w', (execOp a.eval ⟨dst, .extract y i, ty, pos, after, guard⟩).run P w' = .ok (.value u) w') ∧ ERep w (Imm X w lk) lk e u := by
        intro e he
        obtain ⟨u, hu, hru⟩ := ha.get he
        refine ⟨u, fun w' => ?_, hru⟩
        show ((do pure (Next.value (← Instr.extract (a.eval y) i)) : Go.Sem Next)).run P w' = _
        rw [Sem.run_bind, hxe]; simp [Instr.extract, hu]
      split at h
      · rename_i c hc
        simp only [Option.some.injEq, Prod.mk.injEq] at h
        obtain ⟨rfl, rfl⟩ := h
        obtain ⟨u, he, hu⟩ := key _ hc
        exact ⟨u, hu, fun w' _ => he w'⟩
      · rename_i cs hc
        simp only [Option.some.injEq, Prod.mk.injEq] at h
        obtain ⟨rfl, rfl⟩ := h
        obtain ⟨u, he, hu⟩ := key _ hc
        exact ⟨u, hu, fun w' _ => he w'⟩
      · cases h
    · cases h
  · cases h
def memB (b0 : Nat → Prop) : V → Value → Prop
  | .one (.ielt _ _ _), u => ∀ ad, u = .pointer (some ad) → b0 ad.block
  | .one (.sl _ _), u => ∀ ad n c, u = .slice (some ad) n c → 0 < n → b0 ad.block
  | _, _ => True
theorem memB_rep {w : World} {lk : List Value} {I : Nat → Prop} {x : V} {u : Value} (h : VRep w I lk x u) : memB I x u := by
  cases x with
  | one c =>
    cases c with
    | ielt t x o =>
      obtain ⟨ad, m, us, hI, _, _, _, _, rfl⟩ := h
      intro ad' he
      simp only [Value.pointer.injEq, Option.some.injEq] at he
      subst he
      rw [add_block]; exact hI
    | sl t xs =>
      obtain ⟨A, c, rfl, _, hs⟩ := h
      intro ad' n c' he hn
      simp only [Value.slice.injEq] at he
      obtain ⟨rfl, rfl, rfl⟩ := he
      obtain ⟨ad, he, hI, _⟩ := hs.2 hn
      simp only [Option.some.injEq] at he
      subst he; exact hI
    | _ => exact trivial
  | _ => exact trivial
theorem memB_no {b0 : Nat → Prop} {x : V} {u : Value} (h : x.mem = false) : memB b0 (un x) u := by
  have hc : ∀ c : C, c.mem = false → memB b0 (.one c) u := fun c h => by cases c <;> first | exact trivial | cases h
  cases x with
  | one c => exact hc c h
  | wh g c =>
    cases g with
    | true => exact hc c h
    | false => exact trivial
  | _ => exact trivial
structure Held (X : Cx) (w1 : World) (lk1 : List Value) (n0 : Nat) (dirty : List Nat) (ph : Bool) (w : World) (lk : List Value) : Prop where
  n : n0 = lk1.length
  le : lk1.length ≤ lk.length
  keep : Keep (fun b => ∃ i v, i ∈ dirty ∧ lk1[i]? = some v ∧ blk v = some b) w1 w
  same : ∀ i, i < n0 → i ∉ dirty → lk[i]? = lk1[i]?
  first : ph = true → w = w1 ∧ lk = lk1
  dj : ∀ (i j : Nat) (v v' : Value) (b : Nat), i ≠ j → lk1[i]? = some v → lk1[j]? = some v' → blk v = some b → blk v' ≠ some b
  lt : ∀ (i : Nat) (v : Value) (b : Nat), lk1[i]? = some v → blk v = some b → b < w1.heap.size
  news : ∀ (i : Nat) (v : Value) (b : Nat), lk[i]? = some v → blk v = some b → i ∈ dirty ∨ n0 ≤ i → (∃ j u, j ∈ dirty ∧ lk1[j]? = some u ∧ blk u = some b) ∨ w1.heap.size ≤ b
def SubO (o o1 : Ob) : Prop := match o with
  | .box e l => ∃ l1, o1 = .box e l1 ∧ ∀ (k : Nat) (c : C), l[k]? = some c → c = .top ∨ l1[k]? = some c
  | _ => True
theorem SubO.drop {o o1 : Ob} (h : SubO o o1) (f : Nat → Bool) : SubO (o.map (C.drop f)) o1 := by
  cases o with
  | box e l =>
    obtain ⟨l1, h1, h2⟩ := h
    refine ⟨l1, h1, fun k c hc => ?_⟩
    obtain ⟨c0, hc0, rfl⟩ : ∃ c0, l[k]? = some c0 ∧ c0.drop f = c := by simpa using hc
    have : c0.drop f = c0 ∨ c0.drop f = .top := by
      cases c0 with
      | ref i o => simp only [C.drop]; cases f i <;> simp
      | own i => simp only [C.drop]; cases f i <;> simp
      | elt t i j o => simp only [C.drop]; cases f i <;> simp
      | mp i => simp only [C.drop]; cases f i <;> simp
      | fn g l => simp only [C.drop]; cases anyP f l <;> simp
      | _ => exact .inl rfl
    rcases this with h3 | h3
    · rw [h3]; exact h2 k c0 hc0
    · exact .inl h3
  | _ => exact trivial
theorem SubO.refl (o : Ob) : SubO o o := by
  cases o with
  | box e l => exact ⟨l, rfl, fun _ _ h => .inr h⟩
  | _ => exact trivial
structure Olds (X : Cx) (w1 : World) (lk1 : List Value) (objs1 : List Ob) (n0 : Nat) (dirty nw no : List Nat) (σ : St) (a : Act) : Prop where
  sl : ∀ k, k ∉ nw → memB (Imm X w1 lk1) (opd σ (.tmp k)) (a.eval (.tmp k))
  or1 : ORel X w1 lk1 objs1
  ob : ∀ i, i < n0 → i ∉ dirty → i ∉ no → ∀ o, σ.objs[i]? = some o → ∃ o1, objs1[i]? = some o1 ∧ SubO o o1
def putS (σ : St) (d : Option Tmp) (x : V) : St := match d with | none => σ | some t => ⟨σ.tmps.set t x, σ.objs⟩
theorem putK_iff' (σ : St) (d : Option Tmp) (v : V) (Q : St → Prop) : putK σ d v Q ↔ Q (putS σ d v) := putK_iff σ d v Q
theorem memN_false {i : Nat} {l : List Nat} (h : (!memN i l) = true) : i ∉ l := fun hm => by rw [memN_mem.2 hm] at h; cases h
theorem Olds.put {w1 : World} {lk1 : List Value} {objs1 : List Ob} {n0 : Nat} {dirty nw no no' : List Nat} {σ σ0 : St} {a : Act} {ph : Bool} (h : Olds X w1 lk1 objs1 n0 dirty nw no' σ a) (hsz : a.tmps.size = σ.tmps.length) {o : Oper} {x : V} {v : Value}
    (hx : (ph = true ∨ oldSrc n0 dirty nw no o.op σ0 = true) → memB (Imm X w1 lk1) (un x) v) {K : List Nat → Prop} (hk : newK n0 dirty ph nw no o σ0 (putS σ o.dst x) K) :
    ∃ nw', K nw' ∧ Olds X w1 lk1 objs1 n0 dirty nw' no' (putS σ o.dst x) (a.put o.dst v) := by
  unfold newK at hk
  cases hd : o.dst with
  | none => rw [hd] at hk; exact ⟨nw, hk, h⟩
  | some d =>
    rw [hd] at hk
    have hne : ∀ k, d ≠ k → k ∉ nw → memB (Imm X w1 lk1) (opd (putS σ (some d) x) (.tmp k)) ((a.put (some d) v).eval (.tmp k)) := fun k hdk hk' => by
      have h1 : opd (putS σ (some d) x) (.tmp k) = opd σ (.tmp k) := by simp [putS, opd, opdR, nth_get, List.getElem?_set_ne hdk]
      have h2 : (a.put (some d) v).eval (.tmp k) = a.eval (.tmp k) := by
        show (a.tmps.setIfInBounds d v).getD k undef = a.tmps.getD k undef
        rw [Array.getD_eq_getD_getElem?, Array.getElem?_setIfInBounds_ne hdk, Array.getD_eq_getD_getElem?]
      rw [h1, h2]
      exact h.sl k hk'
    have old : memB (Imm X w1 lk1) (opd (putS σ (some d) x) (.tmp d)) ((a.put (some d) v).eval (.tmp d)) → Olds X w1 lk1 objs1 n0 dirty nw no' (putS σ (some d) x) (a.put (some d) v) := fun hm => by
      refine ⟨fun k hk' => ?_, h.or1, h.ob⟩
      by_cases hdk : d = k
      · subst hdk; exact hm
      · exact hne k hdk hk'
    by_cases hlt : d < σ.tmps.length
    · have h0 : nth (putS σ (some d) x).tmps d = some x := by simp [putS, nth_get, hlt]
      have h1 : opd (putS σ (some d) x) (.tmp d) = un x := by simp [putS, opd, opdR, nth_get, List.getElem?_set_self hlt]
      have h2 : (a.put (some d) v).eval (.tmp d) = v := by
        show (a.tmps.setIfInBounds d v).getD d undef = v
        rw [Array.getD_eq_getD_getElem?, Array.getElem?_setIfInBounds_self_of_lt (Nat.lt_of_lt_of_eq hlt hsz.symm)]; rfl
      simp only [h0] at hk
      cases hm : x.mem with
      | false =>
        rw [hm] at hk
        exact ⟨nw, hk, old (by rw [h1, h2]; exact memB_no hm)⟩
      | true =>
        rw [hm] at hk
        simp only [cond_true] at hk
        cases ph with
        | true => exact ⟨nw, hk, old (by rw [h1, h2]; exact hx (.inl rfl))⟩
        | false =>
          simp only [cond_false] at hk
          cases ho : oldSrc n0 dirty nw no o.op σ0 with
          | true => rw [ho] at hk; exact ⟨nw, hk, old (by rw [h1, h2]; exact hx (.inr ho))⟩
          | false =>
            rw [ho] at hk
            exact ⟨d :: nw, hk, fun k hk' => hne k (fun e => hk' (by simp [e])) (fun hm' => hk' (by simp [hm'])), h.or1, h.ob⟩
    · have h0 : nth (putS σ (some d) x).tmps d = none := by
        simp only [putS, nth_get]
        exact List.getElem?_eq_none_iff.2 (by rw [List.length_set]; exact Nat.le_of_not_lt hlt)
      have h1 : opd (putS σ (some d) x) (.tmp d) = .one .top := by
        have h3 : (σ.tmps.set d x)[d]? = none := List.getElem?_eq_none_iff.2 (by rw [List.length_set]; exact Nat.le_of_not_lt hlt)
        simp [putS, opd, opdR, nth_get, h3, un]
      simp only [h0] at hk
      exact ⟨nw, hk, old (by rw [h1]; exact trivial)⟩
theorem Olds.drop {w1 : World} {lk1 : List Value} {objs1 : List Ob} {n0 : Nat} {dirty nw no no' : List Nat} {σ σ' : St} {a : Act} (h : Olds X w1 lk1 objs1 n0 dirty nw no σ a) {f : Nat → Bool} {ids : List Nat} (hf : σ'.tmps = σ.tmps.map (V.map (C.drop f)) ∧ ∀ k, k < σ.objs.length → k ∉ ids → σ'.objs[k]? = (σ.objs[k]?).map (Ob.map (C.drop f)))
    (hl : n0 ≤ σ.objs.length) (hno : ∀ i, i < n0 → i ∉ dirty → i ∉ no' → i ∉ no ∧ i ∉ ids) : Olds X w1 lk1 objs1 n0 dirty nw no' σ' a := by
  refine ⟨fun k hk => ?_, h.or1, fun i hi hd hn o ho => ?_⟩
  · have h0 := h.sl k hk
    have h1 : opd σ' (.tmp k) = un (((σ.tmps[k]?).map (V.map (C.drop f))).getD (.one .top)) := by simp [opd, opdR, nth_get, hf.1, List.getElem?_map]
    have h2 : opd σ (.tmp k) = un ((σ.tmps[k]?).getD (.one .top)) := by simp [opd, opdR, nth_get]
    rw [h1]
    rw [h2] at h0
    cases hx : σ.tmps[k]? with
    | none => exact trivial
    | some x =>
      rw [hx] at h0
      simp only [Option.map_some, Option.getD_some] at h0 ⊢
      have hc : ∀ c : C, memB (Imm X w1 lk1) (.one c) (a.eval (.tmp k)) → memB (Imm X w1 lk1) (.one (c.drop f)) (a.eval (.tmp k)) := by
        intro c hc
        cases c with
        | ref i o => simp only [C.drop]; cases f i <;> exact trivial
        | own i => simp only [C.drop]; cases f i <;> exact trivial
        | elt t i j o => simp only [C.drop]; cases f i <;> exact trivial
        | mp i => simp only [C.drop]; cases f i <;> exact trivial
        | fn g l => simp only [C.drop]; cases anyP f l <;> exact trivial
        | _ => exact hc
      cases x with
      | one c => exact hc c h0
      | wh g c =>
        cases g with
        | true => exact hc c h0
        | false => exact trivial
      | _ => exact trivial
  · obtain ⟨h1, h2⟩ := hno i hi hd hn
    rw [hf.2 i (Nat.lt_of_lt_of_le hi hl) h2] at ho
    obtain ⟨o0, ho0, rfl⟩ := Option.map_eq_some_iff.1 ho
    obtain ⟨o1, h3, h4⟩ := h.ob i hi hd h1 o0 ho0
    exact ⟨o1, h3, h4.drop f⟩
theorem read_same {w1 w w' : World} {lk1 lk : List Value} {n0 : Nat} {dirty : List Nat} {ph : Bool} {σ : St} {a : Act} {o : Op} (hh : Held X w1 lk1 n0 dirty ph w lk) (hr : Rel X w lk σ a) {objs1 : List Ob} {nw no : List Nat} (hol : Olds X w1 lk1 objs1 n0 dirty nw no σ a) (ho : readOk n0 dirty ph nw o σ = true)
    (hk : Keep (fun b => ∃ i v, i ∈ dirty ∧ lk1[i]? = some v ∧ blk v = some b) w1 w') : Sees o a w w' := by
  rintro t p ad rfl hp
  simp only [readOk] at ho
  split at ho
  · rename_i c hc
    have hpv := opd_rep hr p
    rw [hc, hp] at hpv
    have key : ∀ b, b < w1.heap.size → (¬ ∃ i v, i ∈ dirty ∧ lk1[i]? = some v ∧ blk v = some b) → w'.heap[b]? = w.heap[b]? := fun b hb hn => (hk.block b hb hn).trans (hh.keep.block b hb hn).symm
    have obj : ∀ i b v, (Nat.blt i n0 && !memN i dirty) = true → lk[i]? = some v → blk v = some b → w'.heap[b]? = w.heap[b]? := by
      intro i b v h1 h2 h3
      simp only [Bool.and_eq_true, Nat.blt_eq, Bool.not_eq_true'] at h1
      have hnd : i ∉ dirty := fun hm => by rw [memN_mem.2 hm] at h1; cases h1.2
      rw [hh.same i h1.1 hnd] at h2
      refine key b (hh.lt i v b h2 h3) ?_
      rintro ⟨j, u, hj, hu, hub⟩
      exact hh.dj i j v u b (fun e => hnd (e ▸ hj)) h2 hu h3 hub
    unfold rdOk at ho
    split at ho
    · obtain ⟨b, hb, he⟩ := hpv
      simp only [Value.pointer.injEq, Option.some.injEq] at he
      subst he
      exact obj _ b _ ho hb rfl
    · obtain ⟨g, n, c, hb, _, he⟩ := hpv
      simp only [Value.pointer.injEq, Option.some.injEq] at he
      subst he
      exact obj _ g _ ho hb rfl
    · cases ph with
      | true =>
        obtain ⟨rfl, rfl⟩ := hh.first rfl
        obtain ⟨ad0, m, us, hI, _, _, _, _, he⟩ := hpv
        simp only [Value.pointer.injEq, Option.some.injEq] at he
        subst he
        rw [add_block]
        refine key _ hI.1 ?_
        rintro ⟨j, u, hj, hu, hub⟩
        exact hI.2.1 u (List.mem_of_getElem? hu) hub
      | false =>
        simp only [cond_false] at ho
        split at ho
        · rename_i k
          have hm := hol.sl k (memN_false ho)
          rw [hc] at hm
          have hI := hm ad hp
          refine key _ hI.1 ?_
          rintro ⟨j, u, hj, hu, hub⟩
          exact hI.2.1 u (List.mem_of_getElem? hu) hub
        · cases ho
    · cases ho
  · cases ho
theorem move_val {a : Act} {w : World} {dst : Option Tmp} {y : Operand} {ty : TypeId} {pos : String} {after : Array Edge} {g : Option (Nat × Bool)} {v : Value}
    (h : (execOp a.eval ⟨dst, .move y, ty, pos, after, g⟩).run P w = .ok (.value v) w) : v = a.eval y := by
  have : (execOp a.eval ⟨dst, .move y, ty, pos, after, g⟩).run P w = .ok (.value (a.eval y)) w := rfl
  rw [this] at h
  simp only [Result.ok.injEq, Next.value.injEq, and_true] at h
  exact h.symm
theorem sub_one {α : Type} {c : α} : ∀ {o n : Nat} {l : List α}, sub o n l = some [c] → n = 1 ∧ l[o]? = some c
  | 0, 0, l, h => by cases l <;> simp [sub] at h
  | 0, 1, x :: l, h => by
    have : sub 0 0 l = some [] := by cases l <;> rfl
    simp only [sub, this, Option.map_some, Option.some.injEq, List.cons.injEq, and_true] at h
    exact ⟨rfl, by simp [h]⟩
  | 0, n + 2, x :: l, h => by
    cases l with
    | nil => simp [sub] at h
    | cons y l =>
      simp only [sub, Option.map_map, Option.map_eq_some_iff] at h
      obtain ⟨r, _, hr⟩ := h
      simp at hr
  | 0, _ + 1, [], h => by simp [sub] at h
  | o + 1, n, _ :: l, h => by simpa using sub_one (o := o) (n := n) (l := l) (by simpa [sub] using h)
  | _ + 1, _, [], h => by simp [sub] at h
theorem sub_of {α : Type} {c : α} : ∀ {o : Nat} {l : List α}, l[o]? = some c → sub o 1 l = some [c]
  | 0, x :: l, h => by
    have h0 : sub 0 0 l = some [] := by cases l <;> rfl
    simp at h
    simp [sub, h0, h]
  | o + 1, _ :: l, h => by simpa [sub] using sub_of (o := o) (l := l) (by simpa using h)
  | 0, [], h => by simp at h
  | _ + 1, [], h => by simp at h
theorem qOp_old (hT : TabOK P T) {w w1 : World} {lk lk1 : List Value} {objs1 : List Ob} {n0 : Nat} {dirty nw no : List Nat} {ph : Bool} {σ : St} {a : Act} {o : Oper} {p : Prop} {x : V} {v : Value} (h : qOp T o.op σ = some (p, x)) (hp : p) (hh : Held X w1 lk1 n0 dirty ph w lk) (hr : Rel X w lk σ a)
    (hv : (execOp a.eval o).run P w = .ok (.value v) w) (hol : Olds X w1 lk1 objs1 n0 dirty nw no σ a) (hf : oldSrc n0 dirty nw no o.op σ = true) : memB (Imm X w1 lk1) (un x) v := by
  have hop := opd_rep hr
  obtain ⟨dst, op, ty, pos, after, guard⟩ := o
  simp only at h hf
  unfold oldSrc at hf
  split at hf
  · rename_i j
    simp only [qOp, Option.some.injEq, Prod.mk.injEq] at h
    obtain ⟨rfl, rfl⟩ := h
    rw [move_val hv]
    exact hol.sl j (memN_false hf)
  · rename_i t j i
    have hm := hol.sl j (memN_false hf)
    have hxv := hop (.tmp j)
    have hiv := hop i
    have hrun : ∀ u, (Instr.indexAt t (a.eval (.tmp j)) (a.eval i)).run P w = .ok u w → v = u := fun u hu => by
      have : (execOp a.eval ⟨dst, .indexAddr t (.tmp j) i, ty, pos, after, guard⟩).run P w = .ok (.value u) w := by
        show ((do pure (Next.value (← Instr.indexAt t (a.eval (.tmp j)) (a.eval i))) : Go.Sem Next)).run P w = _
        rw [Sem.run_bind, hu]; rfl
      rw [this] at hv
      simp only [Result.ok.injEq, Next.value.injEq, and_true] at hv
      exact hv.symm
    simp only [qOp] at h
    split at h
    · rename_i e te sz by_ z k n ht hio
      obtain ⟨hu, _, ti, hte, hsz, _⟩ := hT.slice _ _ _ _ _ _ ht
      obtain ⟨inf, zv, hinf, hisz, _⟩ := hT.info e ti hte
      rw [hio] at hiv
      have hiv' : a.eval i = .int k n := hiv
      split at h
      · rename_i t' xs hxo
        split at h
        · rename_i hte'
          subst hte'
          simp only [Option.some.injEq, Prod.mk.injEq] at h
          obtain ⟨rfl, rfl⟩ := h
          obtain ⟨h0, h1⟩ := hp
          rw [hxo] at hxv hm
          obtain ⟨A, c, hxe, hc, hsr⟩ := hxv
          obtain ⟨ad, rfl, hI, hcell⟩ := hsr.2 (by omega)
          have hb := hm ad _ c hxe (by omega)
          have he := hrun (.pointer (some (ad.add (n.toNat * t'.sz)))) (by
            rw [hxe, hiv']
            simp [Instr.indexAt, asIntOf, run_underlying hu, h0, h1, sizeOf, typeInfo, hinf, hisz, hsz])
          rw [he]
          intro ad' had
          simp only [Value.pointer.injEq, Option.some.injEq] at had
          subst had
          rw [add_block]; exact hb
        · cases h
      · rename_i j' hxo
        rw [nth_get] at h
        split at h
        · rename_i e' te' xs ap mv ho
          split at h
          · simp only [Option.some.injEq, Prod.mk.injEq] at h
            obtain ⟨rfl, rfl⟩ := h
            exact trivial
          · cases h
        · cases h
      · cases h
    · cases h
  · rename_i s j fi
    have hm := hol.sl j (memN_false hf)
    have hpv := hop (.tmp j)
    have hrun : ∀ u, (Instr.fieldAt s (a.eval (.tmp j)) fi).run P w = .ok u w → v = u := fun u hu => by
      have : (execOp a.eval ⟨dst, .fieldAddr s (.tmp j) fi, ty, pos, after, guard⟩).run P w = .ok (.value u) w := by
        show ((do pure (Next.value (← Instr.fieldAt s (a.eval (.tmp j)) fi)) : Go.Sem Next)).run P w = _
        rw [Sem.run_bind, hu]; rfl
      rw [this] at hv
      simp only [Result.ok.injEq, Next.value.injEq, and_true] at hv
      exact hv.symm
    simp only [qOp] at h
    split at h
    · rename_i fs sz by_ z ht
      split at h
      · simp only [Option.some.injEq, Prod.mk.injEq] at h
        obtain ⟨rfl, rfl⟩ := h
        exact trivial
      · simp only [Option.some.injEq, Prod.mk.injEq] at h
        obtain ⟨rfl, rfl⟩ := h
        exact trivial
      · rename_i off ft t' x' o' hff0 hq
        simp only [Option.some.injEq, Prod.mk.injEq] at h
        obtain ⟨rfl, rfl⟩ := h
        rw [hq] at hpv hm
        obtain ⟨F, fd, inf, hu, hff, rfl, _, hinf, h0⟩ := field_off hT ht hff0
        obtain ⟨ad, m, us, hI, hs, hl, htr, hc, hpe⟩ := hpv
        have hb := hm _ hpe
        have he := hrun _ (by rw [hpe]; exact fieldAt_run hu hff hinf h0)
        rw [he]
        intro ad' had
        simp only [Value.pointer.injEq, Option.some.injEq] at had
        subst had
        rw [add_block]; exact hb
      · cases h
    · cases h
  · rename_i t q
    split at hf
    · rename_i i off hq
      simp only [Bool.and_eq_true, Nat.blt_eq] at hf
      obtain ⟨hin, hnd, hnn⟩ := hf
      have hnd := memN_false hnd
      have hnn := memN_false hnn
      have hpv := hop q
      rw [hq] at hpv
      simp only [qOp] at h
      split at h
      · rename_i ti c hti hq'
        rw [hq] at hq'
        simp only [V.one.injEq] at hq'
        subst hq'
        cases hcs : cellsAt σ (.ref i off) ti.sz with
        | none => rw [hcs] at h; cases h
        | some cs =>
          cases hsh : shape T t cs with
          | none => rw [hcs] at h; simp [hsh] at h
          | some v0 =>
            rw [hcs] at h
            simp only [Option.bind_some, hsh, Option.map_some, Option.some.injEq, Prod.mk.injEq] at h
            obtain ⟨rfl, rfl⟩ := h
            cases hm : v0.mem with
            | false => exact memB_no hm
            | true =>
              have hsh0 := hsh
              unfold shape at hsh
              split at hsh
              · simp only [Option.some.injEq] at hsh; subst hsh; cases hm
              · split at hsh
                · rename_i c1
                  simp only [Option.some.injEq] at hsh
                  subst hsh
                  simp only [cellsAt, nth_get] at hcs
                  split at hcs
                  · rename_i e l hob
                    obtain ⟨hsz, hl⟩ := sub_one hcs
                    obtain ⟨o1, ho1, hsub⟩ := hol.ob i hin hnd hnn _ hob
                    obtain ⟨l1, rfl, hpt⟩ := hsub
                    have hl1 : l1[off]? = some c1 := by
                      rcases hpt off c1 hl with h1 | h1
                      · subst h1; cases hm
                      · exact h1
                    have hc1 : cellsAt ⟨[], objs1⟩ (.ref i off) ti.sz = some [c1] := by
                      simp only [cellsAt, nth_get, ho1, hsz]
                      exact sub_of hl1
                    have hr1 : Rel X w1 lk1 ⟨[], objs1⟩ { tmps := #[], defers := X.df } := ORel.toR hol.or1 rfl (fun t x hx => by simp at hx) rfl
                    obtain ⟨b, hb, hpe⟩ := hpv
                    have hb1 : lk1[i]? = some (.pointer (some ⟨b, 0, none⟩)) := by rw [← hh.same i hin hnd]; exact hb
                    obtain ⟨ad, us, hpe1, hul, hau, hu⟩ := cellsAt_sound hr1 hc1 (v := a.eval q) ⟨b, hb1, hpe⟩
                    obtain ⟨r, hrun, hrv⟩ := run_load_all (P := P) hT hti (ad := ad) hul hau hsh0
                    have had : ad.block = b := by
                      rw [hpe] at hpe1
                      simp only [Value.pointer.injEq, Option.some.injEq] at hpe1
                      rw [← hpe1]
                    have hsame : w.heap[ad.block]? = w1.heap[ad.block]? := by
                      rw [had]
                      refine hh.keep.block b (hh.lt i _ b hb1 rfl) ?_
                      rintro ⟨j, u, hj, hu, hub⟩
                      exact hh.dj i j _ u b (fun e => hnd (e ▸ hj)) hb1 hu rfl hub
                    have h7 := hrun w (fun k u hk => (cell_same (by rw [add_block]; exact hsame)).trans (hu k u hk))
                    have h8 : (execOp a.eval ⟨dst, .load t q, ty, pos, after, guard⟩).run P w = .ok (.value r) w := by
                      show ((do pure (Next.value (← Instr.loadAt t (a.eval q))) : Go.Sem Next)).run P w = _
                      rw [Sem.run_bind, hpe1]
                      simp [Instr.loadAt, Instr.sureAddr, h7]
                    rw [h8] at hv
                    simp only [Result.ok.injEq, Next.value.injEq, and_true] at hv
                    subst hv
                    exact memB_rep hrv
                  · cases hcs
                · cases hsh
              · cases hsh
      · cases h
    · cases hf
  · cases hf
theorem pureOp_old {w w1 : World} {lk1 : List Value} {objs1 : List Ob} {n0 : Nat} {dirty nw no : List Nat} {σ : St} {a : Act} {o : Oper} {g : Option Bool} {p : Option Prop} {c : C} {v : Value} (h : pureOp T o.op σ = some (g, p, c)) (hg : g.getD true = true)
    (hv : (execOp a.eval o).run P w = .ok (.value v) w) (hol : Olds X w1 lk1 objs1 n0 dirty nw no σ a) (hf : oldSrc n0 dirty nw no o.op σ = true) : memB (Imm X w1 lk1) (.one c) v := by
  obtain ⟨dst, op, ty, pos, after, guard⟩ := o
  simp only at h hf
  unfold oldSrc at hf
  split at hf
  · rename_i j
    have hm := hol.sl j (memN_false hf)
    rw [move_val hv]
    simp only [pureOp] at h
    split at h
    · rename_i g' c' hr
      simp only [Option.some.injEq, Prod.mk.injEq] at h
      obtain ⟨rfl, _, rfl⟩ := h
      have : opd σ (.tmp j) = .one c' := by
        unfold opd
        unfold rdW at hr
        split at hr
        · rename_i c2 he
          simp only [Option.some.injEq, Prod.mk.injEq] at hr
          obtain ⟨rfl, rfl⟩ := hr
          rw [he]; rfl
        · rename_i g2 c2 he
          simp only [Option.some.injEq, Prod.mk.injEq] at hr
          obtain ⟨rfl, rfl⟩ := hr
          simp only [Option.getD_some] at hg
          subst hg
          rw [he]; rfl
        · cases hr
      rw [this] at hm
      exact hm
    · cases h
  · simp [pureOp] at h
  · simp [pureOp] at h
  · simp [pureOp] at h
  · cases hf
theorem memB_un {w : World} {I : Nat → Prop} {lk : List Value} {x : V} {u : Value} (h : VRep w I lk x u) : memB I (un x) u := by
  cases x with
  | wh g c =>
    cases g with
    | true => exact memB_rep (x := .one c) (h.1 rfl)
    | false => exact trivial
  | _ => exact memB_rep h
theorem take_sound (hT : TabOK P T) {ops : Array Oper} {w1 w : World} {lk1 lk : List Value} {n0 : Nat} {dirty nw no : List Nat} {objs1 : List Ob} {ph : Bool} {σ : St} {a : Act} {o : Oper} {KK : List Nat → St → Prop}
    (h : evTake T ops.toList n0 dirty ph nw o σ fun σ' => newK n0 dirty ph nw no o σ σ' fun nw' => KK nw' σ') (hh : Held X w1 lk1 n0 dirty ph w lk) (hr : Rel X w lk σ a) (hol : Olds X w1 lk1 objs1 n0 dirty nw no σ a) :
    ∃ v σ', YieldsIf P ops (fun w' => Keep (fun b => ∃ i v, i ∈ dirty ∧ lk1[i]? = some v ∧ blk v = some b) w1 w') o v a ∧ Rel X w lk σ' (a.put o.dst v) ∧ ∃ nw', KK nw' σ' ∧ Olds X w1 lk1 objs1 n0 dirty nw' no σ' (a.put o.dst v) := by
  generalize hK : (fun σ' => newK n0 dirty ph nw no o σ σ' fun nw' => KK nw' σ') = K at h
  have hst : ∀ {x : V} {v : Value}, (ph = true ∨ oldSrc n0 dirty nw no o.op σ = true → memB (Imm X w1 lk1) (un x) v) → K (putS σ o.dst x) → ∃ nw', KK nw' (putS σ o.dst x) ∧ Olds X w1 lk1 objs1 n0 dirty nw' no (putS σ o.dst x) (a.put o.dst v) := fun hx hk => by
    subst hK
    exact hol.put hr.tsz hx hk
  have nop : (Region.wanted o (yielded ops a.tmps) = false) → putK σ o.dst (.wh false (.bool false)) K → ∃ v σ', YieldsIf P ops (fun w' => Keep (fun b => ∃ i v, i ∈ dirty ∧ lk1[i]? = some v ∧ blk v = some b) w1 w') o v a ∧ Rel X w lk σ' (a.put o.dst v) ∧ ∃ nw', KK nw' σ' ∧ Olds X w1 lk1 objs1 n0 dirty nw' no σ' (a.put o.dst v) := by
    intro hw hk
    rw [putK_iff'] at hk
    exact ⟨undef, _, .inr ⟨hw, rfl⟩, hr.put (x := .wh false (.bool false)) _ ⟨fun h => (by cases h), fun _ => rfl⟩, hst (fun _ => trivial) hk⟩
  have skip : guardK ops.toList σ o.guard False (putK σ o.dst (.wh false (.bool false)) K) → ∃ v σ', YieldsIf P ops (fun w' => Keep (fun b => ∃ i v, i ∈ dirty ∧ lk1[i]? = some v ∧ blk v = some b) w1 w') o v a ∧ Rel X w lk σ' (a.put o.dst v) ∧ ∃ nw', KK nw' σ' ∧ Olds X w1 lk1 objs1 n0 dirty nw' no σ' (a.put o.dst v) := by
    intro hg
    rcases guardK_iff hg with ⟨_, hy⟩ | ⟨j, want, b, hg0, hgv, hy, hno⟩
    · exact hy.elim
    · have hw := wanted_of hr hg0 hgv
      cases b with
      | true => exact (hy rfl).elim
      | false => exact nop hw (hno rfl)
  have gen : (match qOp T o.op σ with
    | some (p, x) => bif readOk n0 dirty ph nw o.op σ then guardK ops.toList σ o.guard (p ∧ putK σ o.dst x K) (putK σ o.dst (.wh false (.bool false)) K) else guardK ops.toList σ o.guard False (putK σ o.dst (.wh false (.bool false)) K)
    | none => guardK ops.toList σ o.guard False (putK σ o.dst (.wh false (.bool false)) K)) → ∃ v σ', YieldsIf P ops (fun w' => Keep (fun b => ∃ i v, i ∈ dirty ∧ lk1[i]? = some v ∧ blk v = some b) w1 w') o v a ∧ Rel X w lk σ' (a.put o.dst v) ∧ ∃ nw', KK nw' σ' ∧ Olds X w1 lk1 objs1 n0 dirty nw' no σ' (a.put o.dst v) := by
    intro hg
    split at hg
    · rename_i p x hq
      cases hrd : readOk n0 dirty ph nw o.op σ with
      | false => rw [hrd] at hg; exact skip hg
      | true =>
        rw [hrd] at hg
        simp only [cond_true] at hg
        have yes : (Region.wanted o (yielded ops a.tmps) = true) → p ∧ putK σ o.dst x K → ∃ v σ', YieldsIf P ops (fun w' => Keep (fun b => ∃ i v, i ∈ dirty ∧ lk1[i]? = some v ∧ blk v = some b) w1 w') o v a ∧ Rel X w lk σ' (a.put o.dst v) ∧ ∃ nw', KK nw' σ' ∧ Olds X w1 lk1 objs1 n0 dirty nw' no σ' (a.put o.dst v) := by
          rintro hw ⟨hp, hk⟩
          obtain ⟨v, hv, hrun⟩ := qOp_sound (P := P) hT hq hp hr
          rw [putK_iff'] at hk
          exact ⟨v, _, .inl ⟨hw, fun w' hs => hrun w' (read_same hh hr hol hrd hs)⟩, hr.put _ hv, hst (fun hor => by
            rcases hor with h1 | h1
            · subst h1
              obtain ⟨rfl, rfl⟩ := hh.first rfl
              exact memB_un hv
            · exact qOp_old hT hq hp hh hr (hrun w (fun _ _ _ _ _ => rfl)) hol h1) hk⟩
        rcases guardK_iff hg with ⟨hg0, hy⟩ | ⟨j, want, b, hg0, hgv, hy, hno⟩
        · exact yes (by unfold Region.wanted; rw [hg0]) hy
        · have hw := wanted_of hr hg0 hgv
          cases b with
          | true => exact yes hw (hy rfl)
          | false => exact nop hw (hno rfl)
    · exact skip hg
  unfold evTake at h
  split at h
  · rename_i j want g1 p c hgd hp
    split at h
    · rename_i b hgv
      obtain ⟨hb, hq⟩ := owed_iff h
      have hw := wanted_of hr hgd hgv
      rw [putK_iff'] at hq
      cases b with
      | true =>
        obtain ⟨h1, h2⟩ := hb rfl
        obtain ⟨v, he, hv⟩ := pureOp_sound (P := P) hT hp hr h1 h2
        exact ⟨v, _, .inl ⟨hw, fun w' _ => he w'⟩, hr.put _ (show VRep w (Imm X w lk) lk (.wh true c) v from ⟨fun _ => hv, fun h => (by cases h)⟩), hst (x := .wh true c) (fun hor => by
          rcases hor with h3 | h3
          · subst h3
            obtain ⟨rfl, rfl⟩ := hh.first rfl
            exact memB_rep (x := .one c) hv
          · exact pureOp_old (g := g1) hp h1 (he w) hol h3) hq⟩
      | false =>
        exact ⟨undef, _, .inr ⟨hw, rfl⟩, hr.put _ (show VRep w (Imm X w lk) lk (.wh false c) undef from ⟨fun h => (by cases h), fun _ => rfl⟩), hst (x := .wh false c) (fun _ => trivial) hq⟩
    · exact h.elim
  · exact gen h
def ValueOp (P : Program) (a a' : Act) (o o' : Oper) : Prop :=
  (∃ s : Go.Sem Value, execOp a.eval o = (do pure (Next.value (← s))) ∧ execOp a'.eval o' = (do pure (Next.value (← s)))) ∨
  (∃ s : Go.Sem Unit, execOp a.eval o = (do s; pure Next.skip) ∧ execOp a'.eval o' = (do s; pure Next.skip))
theorem idxPs_map {a a' : Act} : ∀ (l : List (Nat × Operand)) (k : Nat), (∀ j x, (l.map (·.2))[j]? = some x → a'.eval (.tmp (k + j)) = a.eval x) →
    (idxPs k l).map (fun p => (p.1, a'.eval p.2)) = l.map (fun p => (p.1, a.eval p.2))
  | [], _, _ => rfl
  | (i, x) :: l, k, h => by
    simp only [idxPs, List.map_cons]
    rw [idxPs_map l (k + 1) (fun j y hy => by have := h (j + 1) y (by simpa using hy); rwa [show k + (j + 1) = k + 1 + j by omega] at this)]
    have := h 0 x rfl
    simp only [Nat.add_zero] at this
    rw [this]
theorem exec_buildSlice (e : Operand → Value) (d : Option Tmp) (t : TypeId) (n : Nat) (ps : Array (Nat × Operand)) (ty : TypeId) (pos : String) (after : Array Edge) (g : Option (Nat × Bool)) :
    execOp e ⟨d, .buildSlice t n ps, ty, pos, after, g⟩ = (do pure (Next.value (← Instr.buildSlice t n (ps.map fun (i, x) => (i, e x))))) := rfl
theorem onTmps_run {a a' : Act} {o o' : Op} {xs : List Operand} (h : onTmps o = some (xs, o')) (he : ∀ k x, xs[k]? = some x → a'.eval (.tmp k) = a.eval x) (d d' : Option Tmp) (ty : TypeId) (pos : String) (after : Array Edge) (g g' : Option (Nat × Bool)) :
    ValueOp P a a' ⟨d, o, ty, pos, after, g⟩ ⟨d', o', ty, pos, after, g'⟩ := by
  unfold onTmps at h
  split at h
  · rename_i e
    simp only [Option.some.injEq, Prod.mk.injEq] at h
    obtain ⟨rfl, rfl⟩ := h
    exact .inl ⟨Instr.alloc e true (.tuple #[]), rfl, rfl⟩
  · rename_i e x
    simp only [Option.some.injEq, Prod.mk.injEq] at h
    obtain ⟨rfl, rfl⟩ := h
    have e0 := he 0 x rfl
    exact .inl ⟨Instr.box e (a.eval x), rfl, by show (do pure (Next.value (← Instr.box e (a'.eval (.tmp 0)))) : Go.Sem Next) = _; rw [e0]⟩
  · rename_i t n ps
    simp only [Option.some.injEq, Prod.mk.injEq] at h
    obtain ⟨rfl, rfl⟩ := h
    have this : ((idxPs 0 ps.toList).toArray.map fun (i, x) => (i, a'.eval x)) = ps.map fun (i, x) => (i, a.eval x) := by
      apply Array.toList_inj.1
      have := idxPs_map (a := a) (a' := a') ps.toList 0 (fun j x hx => by simpa using he j x hx)
      simpa using this
    exact .inl ⟨Instr.buildSlice t n (ps.map fun (i, x) => (i, a.eval x)), exec_buildSlice _ _ _ _ _ _ _ _ _, by rw [exec_buildSlice, this]⟩
  · rename_i t p x
    simp only [Option.some.injEq, Prod.mk.injEq] at h
    obtain ⟨rfl, rfl⟩ := h
    have e0 := he 0 p rfl
    have e1 := he 1 x rfl
    exact .inr ⟨Instr.storeAt t (a.eval p) (a.eval x), rfl, by show (do Instr.storeAt t (a'.eval (.tmp 0)) (a'.eval (.tmp 1)); pure Next.skip : Go.Sem Next) = _; rw [e0, e1]⟩
  · rename_i s d x
    simp only [Option.some.injEq, Prod.mk.injEq] at h
    obtain ⟨rfl, rfl⟩ := h
    have e0 := he 0 x rfl
    exact .inl ⟨convert s d (a.eval x), rfl, by show (do pure (Next.value (← convert s d (a'.eval (.tmp 0)))) : Go.Sem Next) = _; rw [e0]⟩
  · rename_i t n c
    simp only [Option.some.injEq, Prod.mk.injEq] at h
    obtain ⟨rfl, rfl⟩ := h
    have e0 := he 0 n rfl
    have e1 := he 1 c rfl
    exact .inl ⟨Instr.makeSlice t (a.eval n) (a.eval c), rfl, by show (do pure (Next.value (← Instr.makeSlice t (a'.eval (.tmp 0)) (a'.eval (.tmp 1)))) : Go.Sem Next) = _; rw [e0, e1]⟩
  · rename_i x i
    simp only [Option.some.injEq, Prod.mk.injEq] at h
    obtain ⟨rfl, rfl⟩ := h
    have e0 := he 0 x rfl
    exact .inl ⟨Instr.extract (a.eval x) i, rfl, by show (do pure (Next.value (← Instr.extract (a'.eval (.tmp 0)) i)) : Go.Sem Next) = _; rw [e0]⟩
  · rename_i t x lo hi mx
    simp only [Option.some.injEq, Prod.mk.injEq] at h
    obtain ⟨rfl, rfl⟩ := h
    have e0 := he 0 x rfl
    have e1 := he 1 _ rfl
    have e2 := he 2 _ rfl
    have e3 := he 3 _ rfl
    refine .inl ⟨Instr.sliceAt t (a.eval x) (lo.map a.eval) (hi.map a.eval) (mx.map a.eval), rfl, ?_⟩
    show (do pure (Next.value (← Instr.sliceAt t (a'.eval (.tmp 0)) ((lo.map fun _ => Operand.tmp 1).map a'.eval) ((hi.map fun _ => Operand.tmp 2).map a'.eval) ((mx.map fun _ => Operand.tmp 3).map a'.eval))) : Go.Sem Next) = _
    have f1 : (lo.map fun _ => Operand.tmp 1).map a'.eval = lo.map a.eval := by cases lo <;> simp_all
    have f2 : (hi.map fun _ => Operand.tmp 2).map a'.eval = hi.map a.eval := by cases hi <;> simp_all
    have f3 : (mx.map fun _ => Operand.tmp 3).map a'.eval = mx.map a.eval := by cases mx <;> simp_all
    rw [e0, f1, f2, f3]
  · rename_i args ts
    split at h
    · rename_i s x hargs
      simp only [Option.some.injEq, Prod.mk.injEq] at h
      obtain ⟨rfl, rfl⟩ := h
      have ha : args = #[s, x] := Array.toList_inj.1 (by simpa using hargs)
      subst ha
      have e0 := he 0 s rfl
      have e1 := he 1 x rfl
      refine .inl ⟨Builtin.append_ ts ty #[a.eval s, a.eval x], ?_, ?_⟩
      · show (do pure (Next.value (← Builtin.append_ ts ty (#[s, x].map a.eval))) : Go.Sem Next) = _
        simp
      · show (do pure (Next.value (← Builtin.append_ ts ty (#[Operand.tmp 0, Operand.tmp 1].map a'.eval))) : Go.Sem Next) = _
        simp [e0, e1]
    · cases h
  · rename_i args ts
    split at h
    · rename_i s x hargs
      simp only [Option.some.injEq, Prod.mk.injEq] at h
      obtain ⟨rfl, rfl⟩ := h
      have ha : args = #[s, x] := Array.toList_inj.1 (by simpa using hargs)
      subst ha
      have e0 := he 0 s rfl
      have e1 := he 1 x rfl
      refine .inl ⟨Builtin.min_ ts ty #[a.eval s, a.eval x], ?_, ?_⟩
      · show (do pure (Next.value (← Builtin.min_ ts ty (#[s, x].map a.eval))) : Go.Sem Next) = _
        simp
      · show (do pure (Next.value (← Builtin.min_ ts ty (#[Operand.tmp 0, Operand.tmp 1].map a'.eval))) : Go.Sem Next) = _
        simp [e0, e1]
    · cases h
  · cases h
def opRes (r : Result Next) (K : Ending → World → Prop) : Prop :=
  match r with
  | .ok (.value v) w' => K (.returned v) w'
  | .ok .skip w' => K (.returned undef) w'
  | _ => False
theorem opRes_mono {r : Result Next} {K K' : Ending → World → Prop} (h : opRes r K) (hk : ∀ e w', K e w' → K' e w') : opRes r K' := by
  unfold opRes at *
  split at h
  · exact hk _ _ h
  · exact hk _ _ h
  · exact h.elim
theorem opSense_sound (hT : TabOK P T) {o : Oper} {o' : Op} {xs : List Operand} {a : Act} {w : World} (h : onTmps o.op = some (xs, o')) (X' : Cx) (lk' : List Value) (os : List Ob) (as_ : List V) (K : List Ob → Out → Prop)
    (hO : ORel X' w lk' os) (hl0 : X'.l0 = lk') (hX : ∀ b, X'.hid b → b < w.heap.size) (hgr : Gnd X' w) (has : All2 (VRep w (Imm X' w lk') lk') as_ (xs.map a.eval)) (hs : opSense T o' os as_ K) :
    opRes ((execOp a.eval o).run P w) (Post X' w lk' false K) := by
  obtain ⟨dst, op, ty, pos, after, guard⟩ := o
  simp only at h
  have hal := has.length
  let a' : Act := { tmps := (xs.map a.eval).toArray.push undef, defers := X'.df }
  have hx : ∀ k x, xs[k]? = some x → a'.eval (.tmp k) = a.eval x := fun k x hk => by
    have hlt : k < xs.length := (List.getElem?_eq_some_iff.1 hk).1
    show ((xs.map a.eval).toArray.push undef).getD k undef = _
    rw [Array.getD_eq_getD_getElem?, Array.getElem?_push_lt (by simpa using hlt)]
    simp [(List.getElem?_eq_some_iff.1 hk).2]
  have hr : Rel X' w lk' ⟨as_ ++ [.one .top], os⟩ a' := by
    refine ORel.toR hO ?_ (fun t x hx => ?_) rfl
    · simp [a', hal]
    · rcases Nat.lt_or_ge t as_.length with hlt | hge
      · rw [List.getElem?_append_left hlt] at hx
        obtain ⟨u, hu, hru⟩ := has.get hx
        have htl : t < (xs.map a.eval).length := (List.getElem?_eq_some_iff.1 hu).1
        have : a'.tmps.getD t undef = u := by
          show ((xs.map a.eval).toArray.push undef).getD t undef = u
          rw [Array.getD_eq_getD_getElem?, Array.getElem?_push, if_neg (by simp at htl ⊢; omega)]
          have h7 : (xs.map a.eval).toArray[t]? = some u := by simpa [-List.getElem?_map] using hu
          rw [h7]; rfl
        rw [this]; exact hru
      · rw [List.getElem?_append_right hge] at hx
        have : x = .one .top := by
          have h1 := List.mem_of_getElem? hx
          simpa using h1
        subst this
        exact trivial
  have hi : Inv X' (fun b => ∃ v ∈ lk', blk v = some b) w w lk' := ⟨Keep.refl _ _, fun v hv b hb => .inl ⟨v, hv, hb⟩, hX, fun b hb ⟨v, hv, hvb⟩ => by
    obtain ⟨i, hi⟩ := List.mem_iff_getElem?.1 hv
    exact hO.nx i v b hi hvb hb, hgr⟩
  have hwp := evOp_sound (P := P) (o := ⟨some as_.length, o', ty, pos, after, none⟩) (K := fun a2 w' => Post X' w lk' false K (.returned (a2.tmps.getD as_.length undef)) w') (QQ := fun _ _ _ => False) (Γ := fun _ => none) hT (fun f s h => by cases h) hs hr hi
    (by
      intro x σ' v w' lk2 hq hr' hi' hv
      rw [St.mkAll_iff] at hq
      refine ⟨_, lk2, _, hq, hr'.toO, ⟨hi'.keep.os, hi'.keep.tape, hi'.keep.output, hi'.keep.size, fun k hk hnk => hi'.keep.block k hk (fun hM => hnk ⟨rfl, hM⟩)⟩, hi'.news, v, ?_, hv⟩
      have hsz : (a'.put (some as_.length) v).tmps.getD as_.length undef = v := by
        show ((((xs.map a.eval).toArray.push undef).setIfInBounds as_.length v)).getD as_.length undef = v
        have : as_.length < ((xs.map a.eval).toArray.push undef).size := by simp [hal]
        rw [Array.getD_eq_getD_getElem?, Array.getElem?_setIfInBounds_self_of_lt this]
        rfl
      rw [hsz])
    (fun _ _ _ _ _ _ h => h.elim)
  unfold Oper.wp at hwp
  rcases onTmps_run (P := P) h hx dst (some as_.length) ty pos after guard none with ⟨s, h1, h2⟩ | ⟨s, h1, h2⟩
  · rw [h2, Sem.run_bind] at hwp
    rw [h1, Sem.run_bind]
    generalize s.run P w = r at hwp
    cases r with
    | ok v w' =>
      have hsz : (a'.put (some as_.length) v).tmps.getD as_.length undef = v := by
        show ((((xs.map a.eval).toArray.push undef).setIfInBounds as_.length v)).getD as_.length undef = v
        have : as_.length < ((xs.map a.eval).toArray.push undef).size := by simp [hal]
        rw [Array.getD_eq_getD_getElem?, Array.getElem?_setIfInBounds_self_of_lt this]
        rfl
      have h3 : Post X' w lk' false K (.returned ((a'.put (some as_.length) v).tmps.getD as_.length undef)) w' := hwp
      rw [hsz] at h3
      exact h3
    | halt x w' => cases x <;> exact hwp.elim
  · rw [h2, Sem.run_bind] at hwp
    rw [h1, Sem.run_bind]
    generalize s.run P w = r at hwp
    cases r with
    | ok v w' =>
      have hsz : (a'.put (some as_.length) undef).tmps.getD as_.length undef = undef := by
        show ((((xs.map a.eval).toArray.push undef).setIfInBounds as_.length undef)).getD as_.length undef = undef
        have : as_.length < ((xs.map a.eval).toArray.push undef).size := by simp [hal]
        rw [Array.getD_eq_getD_getElem?, Array.getElem?_setIfInBounds_self_of_lt this]
        rfl
      have h3 : Post X' w lk' false K (.returned ((a'.put (some as_.length) undef).tmps.getD as_.length undef)) w' := hwp
      rw [hsz] at h3
      exact h3
    | halt x w' => cases x <;> exact hwp.elim
theorem idsOk_mem {n0 : Nat} {dirty : List Nat} : ∀ {l : List Nat}, idsOk n0 dirty l = true → ∀ i ∈ l, i < n0 → i ∈ dirty
  | [], _, i, hi, _ => by cases hi
  | j :: l, h, i, hi, hn => by
    simp only [idsOk, Bool.and_eq_true, Bool.or_eq_true, Bool.not_eq_true'] at h
    rcases List.mem_cons.1 hi with rfl | hi
    · rcases h.1 with h1 | h1
      · have : Nat.blt i n0 = true := by simpa [Nat.blt_eq] using hn
        rw [this] at h1; cases h1
      · exact memN_mem.1 h1
    · exact idsOk_mem h.2 i hi hn
theorem Held.step {w1 w w' : World} {lk1 lk lk' : List Value} {n0 : Nat} {dirty : List Nat} {ph : Bool} (hh : Held X w1 lk1 n0 dirty ph w lk) {ids : List Nat} (hid : idsOk n0 dirty ids = true)
    (hsame : ∀ k, k < lk.length → k ∉ ids → lk'[k]? = lk[k]?) (hkeep : Keep (fun b => ∃ i v, i ∈ ids ∧ lk[i]? = some v ∧ blk v = some b) w w') (hle' : lk.length ≤ lk'.length)
    (hmem : ∀ k v b, lk'[k]? = some v → blk v = some b → (k < lk.length ∧ k ∉ ids ∧ lk[k]? = some v) ∨ (∃ i u, i ∈ ids ∧ lk[i]? = some u ∧ blk u = some b) ∨ w.heap.size ≤ b) : Held X w1 lk1 n0 dirty false w' lk' := by
  have hids : ∀ i v b, i ∈ ids → lk[i]? = some v → blk v = some b → (∃ j u, j ∈ dirty ∧ lk1[j]? = some u ∧ blk u = some b) ∨ w1.heap.size ≤ b := fun i v b h1 h2 h3 => by
    refine hh.news i v b h2 h3 ?_
    rcases Nat.lt_or_ge i n0 with hl | hl
    · exact .inl (idsOk_mem hid i h1 hl)
    · exact .inr hl
  refine ⟨hh.n, Nat.le_trans hh.le hle', ?_, fun k hk hkd => ?_, fun h => (by cases h), hh.dj, hh.lt, fun k v b hk hb hor => ?_⟩
  · refine ⟨hkeep.os.trans hh.keep.os, hkeep.tape.trans hh.keep.tape, hkeep.output.trans hh.keep.output, Nat.le_trans hh.keep.size hkeep.size, fun k hk hM => ?_⟩
    refine (hkeep.block k (Nat.lt_of_lt_of_le hk hh.keep.size) ?_).trans (hh.keep.block k hk hM)
    rintro ⟨i, v, hi1, hi2, hi3⟩
    rcases hids i v k hi1 hi2 hi3 with h1 | h1
    · exact hM h1
    · omega
  · rw [hsame k (by have := hh.le; have := hh.n; omega) (fun hm => hkd (idsOk_mem hid k hm hk))]
    exact hh.same k hk hkd
  · rcases hmem k v b hk hb with ⟨h1, h2, h3⟩ | ⟨i, u, h1, h2, h3⟩ | h1
    · exact hh.news k v b h3 hb hor
    · exact hids i u b h1 h2 h3
    · right; have := hh.keep.size; omega
theorem onTmps_new {o o' : Op} {xs : List Operand} {σ : St} (h : onTmps o = some (xs, o')) {n0 : Nat} {dirty nw no : List Nat} : oldSrc n0 dirty nw no o σ = false := by
  unfold onTmps at h
  split at h <;> first | rfl | (cases h)
theorem Held.quiet {w1 w w' : World} {lk1 lk lk' : List Value} {n0 : Nat} {dirty : List Nat} {ph : Bool} (hh : Held X w1 lk1 n0 dirty ph w lk) (hsame : ∀ k, k < lk.length → lk'[k]? = lk[k]?) (hkeep : Keep (fun _ => False) w w') (hle' : lk.length ≤ lk'.length)
    (hdj : ∀ (i j : Nat) (v v' : Value) (b : Nat), i ≠ j → lk'[i]? = some v → lk'[j]? = some v' → blk v = some b → blk v' ≠ some b) {ids : List Nat}
    (hmem : ∀ k v b, lk'[k]? = some v → blk v = some b → (k < lk.length ∧ k ∉ ids ∧ lk[k]? = some v) ∨ (∃ i u, i ∈ ids ∧ lk[i]? = some u ∧ blk u = some b) ∨ w.heap.size ≤ b) : Held X w1 lk1 n0 dirty false w' lk' := by
  refine ⟨hh.n, Nat.le_trans hh.le hle', ?_, fun k hk hkd => ?_, fun h => (by cases h), hh.dj, hh.lt, fun k v b hk hb hor => ?_⟩
  · exact ⟨hkeep.os.trans hh.keep.os, hkeep.tape.trans hh.keep.tape, hkeep.output.trans hh.keep.output, Nat.le_trans hh.keep.size hkeep.size, fun k hk hM =>
      (hkeep.block k (Nat.lt_of_lt_of_le hk hh.keep.size) (fun h => h)).trans (hh.keep.block k hk hM)⟩
  · rw [hsame k (by have := hh.le; have := hh.n; omega)]
    exact hh.same k hk hkd
  · by_cases hkl : k < lk.length
    · rw [hsame k hkl] at hk
      exact hh.news k v b hk hb hor
    · rcases hmem k v b hk hb with ⟨h1, _, _⟩ | ⟨i, u, _, h2, h3⟩ | h1
      · exact absurd h1 hkl
      · have hil : i < lk.length := (List.getElem?_eq_some_iff.1 h2).1
        exact absurd h3 (hdj k i v u b (by omega) hk (by rw [hsame i hil]; exact h2) hb)
      · right; have := hh.keep.size; omega
theorem act_sound (hT : TabOK P T) (hΓ : SemsOK X.gr P Γ) {M : Nat → Prop} {w0 : World} {ops : Array Oper} {w1 w : World} {lk1 lk : List Value} {n0 : Nat} {dirty nw no : List Nat} {objs1 : List Ob} {ph : Bool} {σ : St} {a : Act} {o : Oper} {KN : List Nat → List Nat → St → Prop} {Q : Ex → St → Prop} {QQ : Exit → Act → World → Prop} {KK : Act → World → Prop}
    (hF : FF X M w0 Q QQ) (h : evAct T Γ ops.toList n0 dirty no o σ (fun no' σ' => newK n0 dirty false nw no o σ σ' fun nw' => KN nw' no' σ') Q) (hh : Held X w1 lk1 n0 dirty ph w lk) (hr : Rel X w lk σ a) (hol : Olds X w1 lk1 objs1 n0 dirty nw no σ a) (hi : Inv X M w0 w lk) {i : Nat} (ho : ops[i]? = some o)
    (hKN : ∀ σ' a' w' lk' nw' no', KN nw' no' σ' → Rel X w' lk' σ' a' → Inv X M w0 w' lk' → Held X w1 lk1 n0 dirty false w' lk' → Olds X w1 lk1 objs1 n0 dirty nw' no' σ' a' → KK a' w') : wpOp P ops QQ i KK a w := by
  generalize hKe : (fun no' σ' => newK n0 dirty false nw no o σ σ' fun nw' => KN nw' no' σ') = K at h
  have hK : ∀ (σ1 : St) (a1 : Act) (x : V) (v : Value) (w' : World) (lk' : List Value) (no' : List Nat), a1.tmps.size = σ1.tmps.length → (oldSrc n0 dirty nw no o.op σ = true → memB (Imm X w1 lk1) (un x) v) → K no' (putS σ1 o.dst x) → Rel X w' lk' (putS σ1 o.dst x) (a1.put o.dst v) → Inv X M w0 w' lk' → Held X w1 lk1 n0 dirty false w' lk' → Olds X w1 lk1 objs1 n0 dirty nw no' σ1 a1 → KK (a1.put o.dst v) w' := by
    intro σ1 a1 x v w' lk' no' hsz hx hk h1 h2 h3 h4
    subst hKe
    obtain ⟨nw', h5, h6⟩ := h4.put (ph := false) hsz (fun hor => hx (hor.resolve_left (by simp))) hk
    exact hKN _ _ _ _ _ _ h5 h1 h2 h3 h6
  have hn0 : n0 ≤ σ.objs.length := by rw [← hr.lsz, hh.n]; exact hh.le
  have hhf : Held X w1 lk1 n0 dirty false w lk := ⟨hh.n, hh.le, hh.keep, hh.same, fun h => (by cases h), hh.dj, hh.lt, hh.news⟩
  unfold wpOp
  simp only [ho]
  have nop : putK σ o.dst (.wh false (.bool false)) (K no) → KK (a.put o.dst undef) w := fun hk => by
    rw [putK_iff'] at hk
    exact hK σ a (.wh false (.bool false)) _ _ _ _ hr.tsz (fun _ => trivial) hk (hr.put (x := .wh false (.bool false)) _ ⟨fun h => (by cases h), fun _ => rfl⟩) hi hhf hol
  have gen : ∀ (yes : Prop), (yes → o.wp P a w KK QQ) → guardK ops.toList σ o.guard yes (putK σ o.dst (.wh false (.bool false)) (K no)) → (if Region.wanted o (yielded ops a.tmps) = true then o.wp P a w KK QQ ∨ (o.asks P a w ∧ LetsOut QQ) else KK (a.put o.dst undef) w) := by
    intro yes hy hg
    rcases guardK_iff hg with ⟨hg0, h1⟩ | ⟨j, want, b, hg0, hgv, h1, h2⟩
    · rw [if_pos (by unfold Region.wanted; rw [hg0])]; exact .inl (hy h1)
    · rw [wanted_of hr hg0 hgv]
      cases b with
      | true => rw [if_pos rfl]; exact .inl (hy (h1 rfl))
      | false => rw [if_neg (by simp)]; exact nop (h2 rfl)
  have quiet : (match qOp T o.op σ with
    | some (p, x) => guardK ops.toList σ o.guard (p ∧ putK σ o.dst x (K no)) (putK σ o.dst (.wh false (.bool false)) (K no))
    | none => match onTmps o.op with
      | some (xs, op') => idsK σ (xs.map (opd σ)) fun as_ ids => bif idsOk n0 dirty ids then
          guardK ops.toList σ o.guard (evFrame (opSense T op') as_ σ fun out σ' => match out with
            | .ret v => putK σ' o.dst v (K no)
            | .pan _ => False) (putK σ o.dst (.wh false (.bool false)) (K no))
        else False
      | none => False) → (if Region.wanted o (yielded ops a.tmps) = true then o.wp P a w KK QQ ∨ (o.asks P a w ∧ LetsOut QQ) else KK (a.put o.dst undef) w) := by
    intro hq
    split at hq
    · rename_i p x hqo
      refine gen _ ?_ hq
      rintro ⟨hp, hk⟩
      rw [putK_iff'] at hk
      obtain ⟨v, hv, hrun⟩ := qOp_sound (P := P) hT hqo hp hr
      unfold Oper.wp
      rw [hrun w (fun _ _ _ _ _ => rfl)]
      exact hK σ a x v _ _ _ hr.tsz (fun hf => qOp_old hT hqo hp hh hr (hrun w (fun _ _ _ _ _ => rfl)) hol hf) hk (hr.put _ hv) hi hhf hol
    · split at hq
      · rename_i xs op' hon
        rw [idsK_iff] at hq
        cases hid : idsOk n0 dirty (idsOf σ (xs.map (opd σ))) with
        | false => rw [hid] at hq; exact hq.elim
        | true =>
          rw [hid] at hq
          simp only [cond_true] at hq
          have hnl : ∀ (x : V) (v : Value), oldSrc n0 dirty nw no o.op σ = true → memB (Imm X w1 lk1) (un x) v := fun x v hf => by
            rw [onTmps_new hon] at hf; cases hf
          refine gen _ ?_ hq
          intro hc
          have := evFrame_sound (R := opRes ((execOp a.eval o).run P w)) (ro := false) (K0 := fun _ _ => True) (vs := xs.map a.eval) (fun h1 h2 => opRes_mono h1 h2) (fun X' lk' os as_ K h1 h2 h3 h4 h5 h6 h7 => opRes_mono (opSense_sound hT hon X' lk' os as_ K h1 h2 h3 h5 h6 h7) (by rintro e w' ⟨os', lk1, out, h1, h2⟩; exact ⟨os', lk1, out, ⟨h1, trivial⟩, h2⟩)) hc hr hi (opds_rep hr xs)
          unfold Oper.wp
          unfold opRes at this
          generalize (execOp a.eval o).run P w = r at this
          split at this
          · rename_i u w'
            obtain ⟨σ', lk', out, hq', hr', hi', hout, h5, h6, h7, h8, ⟨fd, hfd⟩, _, _⟩ := this
            cases out with
            | ret v =>
              obtain ⟨u2, he, hu⟩ := hout
              cases he
              simp only [putK_iff'] at hq'
              exact hK σ' a v _ _ _ _ hr'.tsz (hnl _ _) hq' (hr'.put _ hu) hi' (hh.step hid h5 h6 h7 h8) (hol.drop hfd hn0 fun k hk hkd hkn => ⟨hkn, fun hm => hkd (idsOk_mem hid k hm hk)⟩)
            | pan p => exact hq'.elim
          · rename_i w'
            obtain ⟨σ', lk', out, hq', hr', hi', hout, h5, h6, h7, h8, ⟨fd, hfd⟩, _, _⟩ := this
            cases out with
            | ret v =>
              obtain ⟨u2, he, hu⟩ := hout
              cases he
              simp only [putK_iff'] at hq'
              exact hK σ' a v _ _ _ _ hr'.tsz (hnl _ _) hq' (hr'.put _ hu) hi' (hh.step hid h5 h6 h7 h8) (hol.drop hfd hn0 fun k hk hkd hkn => ⟨hkn, fun hm => hkd (idsOk_mem hid k hm hk)⟩)
            | pan p => exact hq'.elim
          · exact this.elim
      · exact hq.elim
  unfold evAct at h
  split at h
  · rename_i f args ts hop
    rw [idsK_iff] at h
    cases hid : idsOk n0 dirty (idsOf σ (args.toList.map (opd σ))) with
    | false =>
      rw [hid] at h
      simp only [cond_false] at h
      cases hro : roF Γ f with
      | false => rw [hro] at h; exact h.elim
      | true =>
      rw [hro] at h
      simp only [cond_true] at h
      refine gen _ ?_ h
      intro hc
      obtain ⟨⟨fn, hf, hb, hn⟩, hcalls⟩ := evCallK_sound hΓ hc hro hr hi (opds_rep hr args.toList)
      obtain ⟨dst, op, ty, pos, after, guard⟩ := o
      simp only at hop hK hcalls ho
      subst hop
      unfold Oper.wp
      have he : (execOp a.eval ⟨dst, .call ⟨.value (.func f), args, ts⟩, ty, pos, after, guard⟩).run P w = .ok (.enter f (args.toList.map a.eval).toArray) w := by
        have h1 : #[] ++ args.map a.eval ++ #[] = (args.toList.map a.eval).toArray := Array.toList_inj.1 (by simp)
        show (callFunc f (#[] ++ args.map a.eval ++ #[])).run P w = _
        rw [h1, run_callFunc_enter hf hb hn]
      rw [he]
      refine hcalls.mono ?_
      rintro e w' ⟨σ', lk', out, hq, hr', hi', hout, hsm, hrk, hle', hmem, ⟨fd, hfd⟩⟩
      have hh' := hh.quiet hsm hrk hle' hr'.dj hmem
      cases out with
      | ret v =>
        obtain ⟨u, rfl, hu⟩ := hout
        simp only [mkNs_iff, putK_iff'] at hq
        exact hK σ' a v u _ _ _ hr'.tsz (fun hf => by cases hf) hq (hr'.put _ hu) hi' hh' (hol.drop hfd hn0 fun k hk hkd hkn => ⟨fun h => hkn (List.mem_append_right _ h), fun h => hkn (List.mem_append_left _ h)⟩)
      | pan p => exact hq.elim
    | true =>
      rw [hid] at h
      simp only [cond_true] at h
      refine gen _ ?_ h
      intro hc
      obtain ⟨⟨fn, hf, hb, hn⟩, hcalls⟩ := evCall_sound hΓ hc hr hi (opds_rep hr args.toList)
      obtain ⟨dst, op, ty, pos, after, guard⟩ := o
      simp only at hop hK hcalls ho
      subst hop
      unfold Oper.wp
      have he : (execOp a.eval ⟨dst, .call ⟨.value (.func f), args, ts⟩, ty, pos, after, guard⟩).run P w = .ok (.enter f (args.toList.map a.eval).toArray) w := by
        have h1 : #[] ++ args.map a.eval ++ #[] = (args.toList.map a.eval).toArray := Array.toList_inj.1 (by simp)
        show (callFunc f (#[] ++ args.map a.eval ++ #[])).run P w = _
        rw [h1, run_callFunc_enter hf hb hn]
      rw [he]
      refine hcalls.mono ?_
      rintro e w' ⟨σ', lk', out, hq, hr', hi', hout, hsame, hkeep, hle', hmem, ⟨fd, hfd⟩⟩
      have hh' := hh.step hid hsame hkeep hle' hmem
      cases out with
      | ret v =>
        obtain ⟨u, rfl, hu⟩ := hout
        simp only [putK_iff'] at hq
        exact hK σ' a v u _ _ _ hr'.tsz (fun hf => by cases hf) hq (hr'.put _ hu) hi' hh' (hol.drop hfd hn0 fun k hk hkd hkn => ⟨hkn, fun hm => hkd (idsOk_mem hid k hm hk)⟩)
      | pan p =>
        cases p with
        | ifa t k n =>
          have : e = .panicked (panE t k n) := hout
          subst this
          exact hF _ _ _ _ _ _ hq rfl hr' hi'
        | _ => exact hout.elim
  · exact quiet h
theorem plan_sound (hT : TabOK P T) (hΓ : SemsOK X.gr P Γ) {M : Nat → Prop} {w0 : World} {ops : Array Oper} {w1 : World} {lk1 : List Value} {n0 : Nat} {dirty : List Nat} {objs1 : List Ob} {Q : Ex → St → Prop} {QQ : Exit → Act → World → Prop}
    (hF : FF X M w0 Q QQ) (hP : ∀ c a a' w, a'.defers = a.defers → QQ (.panic c) a w → QQ (.panic c) a' w) (hs : Region.noSelect ops = true) :
    ∀ (pl : Pl) (n : Nat) (ls : Array Bool) (ph : Bool) (nw no : List Nat) (σ : St) (a : Act) (w : World) (lk : List Value), evPlan T Γ ops.toList n0 dirty pl ph nw no σ Q → Held X w1 lk1 n0 dirty ph w lk → Rel X w lk σ a → Olds X w1 lk1 objs1 n0 dirty nw no σ a → Inv X M w0 w lk →
      (planOK ops pl n ls true = true → wpAnyH P .any ops QQ (fun w' => Keep (fun b => ∃ i v, i ∈ dirty ∧ lk1[i]? = some v ∧ blk v = some b) w1 w') n ls a w) ∧
      (∀ top, planOK ops pl n ls top = true → ∀ i ∈ pl.heads, ∃ m, n = m + 1 ∧ wpOp P ops QQ i (fun a' w' => Keep (fun b => ∃ i v, i ∈ dirty ∧ lk1[i]? = some v ∧ blk v = some b) w1 w' ∧ wpAnyH P .any ops QQ (fun w' => Keep (fun b => ∃ i v, i ∈ dirty ∧ lk1[i]? = some v ∧ blk v = some b) w1 w') m (ls.setIfInBounds i true) a' w') a w)
  | .done, n, ls, ph, nw, no, σ, a, w, lk, h, hh, hr, hol, hi => by
    refine ⟨fun hp => ?_, fun _ _ i hm => by cases hm⟩
    have : planOK ops .done n ls true = (Region.ready .any ops ls).isEmpty := by cases n <;> rfl
    rw [this] at hp
    exact wpAnyH_done (List.isEmpty_iff.1 hp) (hF _ _ _ _ _ _ h rfl hr hi) n
  | .rest m, n, ls, ph, nw, no, σ, a, w, lk, h, hh, hr, hol, hi => by
    refine ⟨fun hp => ?_, fun _ _ i hm => by cases hm⟩
    have : planOK ops (.rest m) n ls true = (Region.ready .any ops ls).isEmpty := by cases n <;> rfl
    rw [this] at hp
    exact wpAnyH_done (List.isEmpty_iff.1 hp) (hF _ _ _ _ _ _ h rfl hr hi) n
  | .nil, n, ls, ph, nw, no, σ, a, w, lk, h, hh, hr, hol, hi => by
    refine ⟨fun hp => ?_, fun _ _ i hm => by cases hm⟩
    have : planOK ops .nil n ls true = false := by cases n <;> rfl
    rw [this] at hp; cases hp
  | .take i p, n, ls, ph, nw, no, σ, a, w, lk, h, hh, hr, hol, hi => by
    refine ⟨fun hp => ?_, fun _ _ i hm => by cases hm⟩
    cases n with
    | zero => cases hp
    | succ n =>
      simp only [planOK, Bool.and_eq_true] at hp
      simp only [evPlan, nth_get] at h
      split at h
      · rename_i o ho
        obtain ⟨v, σ', hy, hr', nw', hk, hol'⟩ := take_sound hT h hh hr hol
        refine wpAnyH_take (by simpa using ho) hs hp.1.1 hp.1.2 (fun c a w hq => hP c _ _ w ?_ hq) hy hh.keep ?_
        · cases o.dst <;> rfl
        · exact (plan_sound hT hΓ hF hP hs p n _ ph nw' no σ' _ w lk hk hh hr' hol' hi).1 hp.2
      · exact h.elim
  | .br i p q, n, ls, ph, nw, no, σ, a, w, lk, h, hh, hr, hol, hi => by
    have hsp : (∃ o, ops[i]? = some o ∧ evAct T Γ ops.toList n0 dirty no o σ (fun no' σ' => newK n0 dirty false nw no o σ σ' fun nw' => evPlan T Γ ops.toList n0 dirty p false nw' no' σ' Q) Q) ∧ evPlan T Γ ops.toList n0 dirty q ph nw no σ Q := by
      have aux : (match nth ops.toList i with
          | some o => evAct T Γ ops.toList n0 dirty no o σ (fun no' σ' => newK n0 dirty false nw no o σ σ' fun nw' => evPlan T Γ ops.toList n0 dirty p false nw' no' σ' Q) Q
          | none => False) → ∃ o, ops[i]? = some o ∧ evAct T Γ ops.toList n0 dirty no o σ (fun no' σ' => newK n0 dirty false nw no o σ σ' fun nw' => evPlan T Γ ops.toList n0 dirty p false nw' no' σ' Q) Q := by
        intro h
        rw [nth_get] at h
        split at h
        · rename_i o ho
          exact ⟨o, by simpa using ho, h⟩
        · exact h.elim
      cases q with
      | nil => exact ⟨aux h, trivial⟩
      | done => exact ⟨aux (Both_iff.1 h).1, (Both_iff.1 h).2⟩
      | take _ _ => exact ⟨aux (Both_iff.1 h).1, (Both_iff.1 h).2⟩
      | br _ _ _ => exact ⟨aux (Both_iff.1 h).1, (Both_iff.1 h).2⟩
      | rest _ => exact ⟨aux (Both_iff.1 h).1, (Both_iff.1 h).2⟩
    obtain ⟨⟨o, ho, hact⟩, hq⟩ := hsp
    have two : ∀ top, planOK ops (.br i p q) n ls top = true → ∀ j ∈ (Pl.br i p q).heads, ∃ m, n = m + 1 ∧ wpOp P ops QQ j (fun a' w' => Keep (fun b => ∃ i v, i ∈ dirty ∧ lk1[i]? = some v ∧ blk v = some b) w1 w' ∧ wpAnyH P .any ops QQ (fun w' => Keep (fun b => ∃ i v, i ∈ dirty ∧ lk1[i]? = some v ∧ blk v = some b) w1 w') m (ls.setIfInBounds j true) a' w') a w := by
      intro top hp j hj
      cases n with
      | zero => cases hp
      | succ n =>
        simp only [planOK, Bool.and_eq_true] at hp
        refine ⟨n, rfl, ?_⟩
        simp only [Pl.heads, List.mem_cons] at hj
        rcases hj with rfl | hj
        · exact act_sound (KN := fun nw' no' σ' => evPlan T Γ ops.toList n0 dirty p false nw' no' σ' Q) hT hΓ hF hact hh hr hol hi ho fun σ' a' w' lk' nw' no' hk hr' hi' hh' hol' => ⟨hh'.keep, (plan_sound hT hΓ hF hP hs p n _ false nw' no' σ' a' w' lk' hk hh' hr' hol' hi').1 hp.1.2⟩
        · obtain ⟨m, hm, h2⟩ := (plan_sound hT hΓ hF hP hs q (n + 1) ls ph nw no σ a w lk hq hh hr hol hi).2 false hp.2 j hj
          simp only [Nat.add_right_cancel_iff] at hm
          subst hm
          exact h2
    refine ⟨fun hp => ?_, two⟩
    cases n with
    | zero => cases hp
    | succ n =>
      have hp' := hp
      simp only [planOK, Bool.and_eq_true, Bool.not_true, Bool.false_or, beq_iff_eq] at hp'
      refine wpAnyH_all (rs := i :: q.heads) hp'.1.1 (by simp) fun j hj => ?_
      obtain ⟨m, hm, h2⟩ := two true hp j hj
      simp only [Nat.add_right_cancel_iff] at hm
      subst hm
      exact h2
theorem Rel.heap {w w' : World} {lk : List Value} {σ : St} {a : Act} (h : Rel X w lk σ a) (he : w'.heap = w.heap) : Rel X w' lk σ a := by
  have hg : Goes w (Imm X w lk) w' (Imm X w' lk) := fun b hb => ⟨by rw [he], by rw [he]; exact hb.1, hb.2.1, hb.2.2⟩
  exact ⟨h.tsz, fun t x hx => VRep.goes hg (Keeps.refl _ _) (h.tm t x hx), h.lsz, fun i o v h1 h2 => ORep.goes hg (Keeps.refl _ _) (fun _ _ => by rw [he]) (h.ob i o v h1 h2), h.dj, fun i v b h1 h2 => by rw [he]; exact h.lt i v b h1 h2, h.nx, h.ll, h.kp, h.df⟩
def cutQ (P : Program) (ops : Array Oper) (n : Nat) (QQ : Exit → Act → World → Prop) : Exit → Act → World → Prop := fun e a w => match e with
  | .normal => wpOps P ops QQ (List.range' n (ops.size - n)) a w
  | e => QQ e a w
theorem upon_cut {n : Nat} {ops : Array Oper} {QQ : Exit → Act → World → Prop} {o : Oper} {a : Act} {K : Act → World → Prop} {r : Result Next} (h : o.upon P a K (cutQ P ops n QQ) r) : o.upon P a K QQ r := by
  cases r with
  | ok x w' =>
    cases x with
    | enter f args =>
      refine Calls.mono h fun e w'' he => ?_
      cases e with
      | returned v => exact he
      | panicked c => exact he
      | outgrown => obtain ⟨a', w', h'⟩ := he; exact ⟨a', w', h'⟩
    | _ => exact h
  | halt x w' => cases x <;> exact h
def cnt (ls : Array Bool) : Nat := ls.toList.count false
theorem cnt_set : ∀ {l : List Bool} {i : Nat}, l[i]? = some false → (l.set i true).count false + 1 = l.count false
  | [], i, h => by simp at h
  | b :: l, 0, h => by simp at h; subst h; simp
  | b :: l, i + 1, h => by
    have := cnt_set (l := l) (i := i) (by simpa using h)
    cases b <;> simp <;> omega
theorem cnt_zero : ∀ {l : List Bool}, l.count false = 0 → l = List.replicate l.length true
  | [], _ => rfl
  | true :: l, h => by
    have := cnt_zero (l := l) (by simpa using h)
    rw [List.length_cons, List.replicate_succ, ← this]
  | false :: l, h => by simp at h
theorem cnt_pos {l : List Bool} {k : Nat} (h : l.count false = k + 1) : ∃ i : Nat, l[i]? = some false ∧ ∀ j : Nat, j < i → l[j]? = some true := by
  induction l with
  | nil => simp at h
  | cons b l ih =>
    cases b with
    | false => exact ⟨0, rfl, fun j hj => by omega⟩
    | true =>
      obtain ⟨i, h1, h2⟩ := ih (by simpa using h)
      refine ⟨i + 1, by simpa using h1, fun j hj => ?_⟩
      cases j with
      | zero => rfl
      | succ j => simpa using h2 j (by omega)
theorem getD_of {ls : Array Bool} {i : Nat} {b d : Bool} (h : ls[i]? = some b) : ls.getD i d = b := by
  rw [Array.getD_eq_getD_getElem?, h]; rfl
theorem cut_any {ops : Array Oper} {n : Nat} {QQ : Exit → Act → World → Prop} {S : World → Prop} (hB : cutOK ops n = true) :
    ∀ (f : Nat) (ls : Array Bool) (a : Act) (w : World), ls.size = n → cnt ls = f → HeadInv .any ops n (ls ++ Array.replicate (ops.size - n) false) → wpAnyH P .any (ops.extract 0 n) (cutQ P ops n QQ) S f ls a w →
      wpAny P .any ops QQ (f + (ops.size - n)) (ls ++ Array.replicate (ops.size - n) false) a w := by
  simp only [cutOK, Bool.and_eq_true, decide_eq_true_eq] at hB
  obtain ⟨hn, hh, ⟨hsk, hch⟩, hns, hseq⟩ := hB
  have hop : ∀ i, i < n → (ops.extract 0 n)[i]? = ops[i]? := fun i hi => by
    rw [Array.getElem?_extract]; simp; omega
  intro f
  induction f with
  | zero =>
    intro ls a w hls hc _ h
    have hall : ls = Array.replicate n true := by
      apply Array.toList_inj.1
      rw [cnt_zero hc, Array.toList_replicate, Array.length_toList, hls]
    subst hall
    have hl : (ops.toList.drop n).length = ops.size - n := by simp
    have h2 : wpOps P ops QQ (List.range' n (ops.size - n)) a w := h.2
    rw [← hl, wpOps_eq_wpList (ops.toList.drop n) n (fun j => by simp)] at h2
    have := wpAny_of_seq (md := .any) (ops.toList.drop n) n (Array.replicate n true ++ Array.replicate (ops.size - n) false) a w (fun j => by simp) (by rw [hl]; exact hseq) h2
    rw [hl] at this
    simpa using this
  | succ f ih =>
    intro ls a w hls hc inv h
    rw [show f + 1 + (ops.size - n) = (f + (ops.size - n)) + 1 by omega]
    have hg1 : ∀ i, i < n → (ls ++ Array.replicate (ops.size - n) false)[i]? = ls[i]? := fun i hi => Array.getElem?_append_left (by omega)
    have hg2 : ∀ i, n ≤ i → ∀ b, (ls ++ Array.replicate (ops.size - n) false)[i]? = some b → b = false := fun i hi b hb => by
      rw [Array.getElem?_append_right (by omega)] at hb
      rw [Array.getElem?_replicate] at hb
      split at hb
      · simpa using hb.symm
      · cases hb
    obtain ⟨k, hk1, hk2⟩ := cnt_pos hc
    have hk1' : ls[k]? = some false := by simpa using hk1
    have hkn : k < n := by rw [← hls]; exact (Array.getElem?_eq_some_iff.1 hk1').1
    refine ⟨fun h0 => ?_, fun i hi => ?_⟩
    · have hr : k ∈ Region.ready .any ops (ls ++ Array.replicate (ops.size - n) false) := by
        have hko : k < ops.size := by omega
        refine mem_ready.2 ⟨getD_of (by rw [hg1 k hkn]; exact hk1'), ops[k], by simp [hko], fun e he _ => ?_⟩
        have h1 := List.all_eq_true.1 hh k (List.mem_range.2 hkn)
        rw [show ops[k]? = some ops[k] by simp [hko]] at h1
        simp only [Bool.and_eq_true] at h1
        have h2 := List.all_eq_true.1 h1.1 e (by simpa using he)
        have h3 : e.on < k := by simpa using h2
        exact getD_of (by rw [hg1 _ (by omega)]; simpa using hk2 e.on h3)
      rw [h0] at hr; cases hr
    · obtain ⟨hun, o, ho, hall⟩ := mem_ready.1 hi
      have hio : i < ops.size := (Array.getElem?_eq_some_iff.1 ho).1
      have hin : i < n := by
        rcases Nat.lt_or_ge i n with h' | h'
        · exact h'
        · exact absurd hi (tail_waits hsk hch hn inv (n - k) k rfl hkn (getD_of (by rw [hg1 k hkn]; exact hk1')) i h')
      have hli : ls[i]? = some false := by
        have hls' : i < ls.size := by omega
        cases hb : ls[i] with
        | false => rw [← hb]; simp [hls']
        | true =>
          rw [getD_of (b := true) (by rw [hg1 i hin, ← hb]; simp [hls'])] at hun
          cases hun
      have hi1 : i ∈ Region.ready .any (ops.extract 0 n) ls := by
        refine mem_ready.2 ⟨getD_of hli, o, by rw [hop i hin]; exact ho, fun e he hb => ?_⟩
        have h3 := hall e he hb
        rcases Nat.lt_or_ge e.on n with h' | h'
        · have hls' : e.on < ls.size := by omega
          have h4 : ls[e.on]? = some ls[e.on] := by simp [hls']
          rw [getD_of (b := ls[e.on]) (by rw [hg1 _ h']; exact h4)] at h3
          rw [getD_of h4]; exact h3
        · exfalso
          rcases hx : (ls ++ Array.replicate (ops.size - n) false)[e.on]? with _ | b
          · rw [Array.getD_eq_getD_getElem?, hx] at h3; cases h3
          · rw [getD_of hx, hg2 _ h' b hx] at h3; cases h3
      have hw := h.2 i hi1
      have hset : (ls ++ Array.replicate (ops.size - n) false).setIfInBounds i true = ls.setIfInBounds i true ++ Array.replicate (ops.size - n) false := by
        apply Array.toList_inj.1
        simp only [Array.toList_setIfInBounds, Array.toList_append]
        rw [List.set_append_left _ _ (by simpa using (by omega : i < ls.size))]
      have hc' : cnt (ls.setIfInBounds i true) = f := by
        have := cnt_set (l := ls.toList) (i := i) (by simpa using hli)
        unfold cnt at hc ⊢
        rw [Array.toList_setIfInBounds]; omega
      have hK : ∀ a' w', (S w' ∧ wpAnyH P .any (ops.extract 0 n) (cutQ P ops n QQ) S f (ls.setIfInBounds i true) a' w') → wpAny P .any ops QQ (f + (ops.size - n)) ((ls ++ Array.replicate (ops.size - n) false).setIfInBounds i true) a' w' := fun a' w' h' => by
        rw [hset]
        exact ih _ a' w' (by simp [hls]) hc' (by rw [← hset]; exact inv.set hi hin) h'.2
      have hw2 := wpOp_mono hK hw
      unfold wpOp at hw2 ⊢
      simp only [hop i hin, ho] at hw2 ⊢
      have hwant : Region.wanted o (yielded (ops.extract 0 n) a.tmps) = Region.wanted o (yielded ops a.tmps) := by
        have h1 := List.all_eq_true.1 hh i (List.mem_range.2 hin)
        rw [ho] at h1
        simp only [Bool.and_eq_true] at h1
        unfold Region.wanted
        cases hgd : o.guard with
        | none => rfl
        | some jw =>
          obtain ⟨j, want⟩ := jw
          have h2 := h1.2
          rw [hgd] at h2
          have h3 : j < n := by simpa using h2
          simp only [yielded, hop j h3]
      rw [hwant] at hw2
      split at hw2
      · rename_i hwt
        rw [if_pos hwt]
        rcases hw2 with h5 | ⟨h5, h6⟩
        · exact .inl (upon_cut h5)
        · obtain ⟨a', w', h7⟩ := h6; exact .inr ⟨h5, a', w', h7⟩
      · rename_i hwt
        rw [if_neg hwt]
        exact hw2
theorem region_sound (hT : TabOK P T) (hΓ : SemsOK X.gr P Γ) {M : Nat → Prop} {w0 w : World} {lk : List Value} {σ : St} {a : Act} {id : Nat} {ops : Array Oper} {Q : Ex → St → Prop} {QQ : Exit → Act → World → Prop} (hF : FF X M w0 Q QQ)
    (hP : ∀ c a a' w, a'.defers = a.defers → QQ (.panic c) a w → QQ (.panic c) a' w) {dirty : List Nat} {pl : Pl}
    (hB : (Region.noSelect ops && planB ops pl) = true) (h : evReg T Γ ops.toList (len σ.objs) dirty pl σ Q) (hr : Rel X w lk σ a) (hi : Inv X M w0 w lk) : (Code.region id ops true).wp P QQ a w := by
  simp only [Bool.and_eq_true] at hB
  have hr' : Rel X { w with drawn := w.drawn + 1 } lk σ a := hr.heap rfl
  have hi' : Inv X M w0 { w with drawn := w.drawn + 1 } lk := ⟨⟨hi.keep.os, hi.keep.tape, hi.keep.output, hi.keep.size, hi.keep.block⟩, hi.news, hi.xl, hi.xm, hi.gr⟩
  have hheld : Held X { w with drawn := w.drawn + 1 } lk (len σ.objs) dirty true { w with drawn := w.drawn + 1 } lk :=
    ⟨by rw [len_length, hr.lsz], Nat.le_refl _, Keep.refl _ _, fun _ _ _ => rfl, fun _ => ⟨rfl, rfl⟩, hr.dj, hr.lt, fun i v b h1 h2 h3 => by
      rcases h3 with h3 | h3
      · exact .inl ⟨i, v, h3, h1, h2⟩
      · rw [len_length, ← hr.lsz] at h3
        have := (List.getElem?_eq_some_iff.1 h1).1
        omega⟩
  have hol0 : Olds X { w with drawn := w.drawn + 1 } lk σ.objs (len σ.objs) dirty [] [] σ a := ⟨fun k _ => memB_rep (opd_rep hr' (.tmp k)), hr'.toO, fun i _ _ _ o ho => ⟨o, ho, SubO.refl o⟩⟩
  obtain ⟨hns0, hB⟩ := hB
  unfold planB at hB
  unfold evReg at h
  cases hc : pl.cut with
  | none =>
    rw [hc] at h hB
    exact wp_region_held hT.mixed ((plan_sound (w1 := { w with drawn := w.drawn + 1 }) (lk1 := lk) hT hΓ hF hP hns0 pl _ _ true [] [] σ a _ lk h hheld hr' hol0 hi').1 hB)
  | some n =>
    rw [hc] at h hB
    simp only [Bool.and_eq_true] at hB
    have hco := hB.1
    simp only [cutOK, Bool.and_eq_true, decide_eq_true_eq] at hco
    obtain ⟨hn, _, ⟨_, _⟩, hns, _⟩ := hco
    have hel : (ops.extract 0 n).toList = ops.toList.take n := by simp [Array.toList_extract, List.extract_eq_take_drop]
    have hF1 : FF X M w0 (fun e σ' => match e with | .normal => evOps T Γ ops.toList (ops.toList.drop n) σ' Q | e => Q e σ') (cutQ P ops n QQ) := by
      intro e σ' a' w' lk' x hq he hr1 hi1
      cases e with
      | normal =>
        simp only [exOf, Option.some.injEq] at he; subst he
        exact evOps_sound hT hΓ hF (ops.size - n) n (by omega) hq hr1 hi1
      | exit i => simp only [exOf, Option.some.injEq] at he; subst he; exact hF _ _ _ _ _ _ hq rfl hr1 hi1
      | ret => simp only [exOf, Option.some.injEq] at he; subst he; exact hF _ _ _ _ _ _ hq rfl hr1 hi1
      | panic c =>
        have := hF _ _ _ _ _ x hq he hr1 hi1
        cases c <;> simp [exOf] at he
        subst he; exact this
    refine wp_region_any hT.mixed ?_
    have hplan := (plan_sound (w1 := { w with drawn := w.drawn + 1 }) (lk1 := lk) (ops := ops.extract 0 n) hT hΓ hF1 (fun c a a' w h1 h2 => hP c a a' w h1 h2) hns pl n (Array.replicate n false) true [] [] σ a _ lk (by rw [hel]; exact h) hheld hr' hol0 hi').1 hB.2
    have he : Array.replicate n false ++ Array.replicate (ops.size - n) false = Array.replicate ops.size false := by
      apply Array.toList_inj.1
      simp only [Array.toList_append, Array.toList_replicate, List.replicate_append_replicate]
      rw [show n + (ops.size - n) = ops.size by omega]
    have := cut_any hB.1 n (Array.replicate n false) a _ (by simp) (by simp [cnt]) (by
      rw [he]
      exact ⟨by simp, fun j oj _ hl => (by rw [getD_replicate_false] at hl; cases hl), fun t _ ht => getD_in (by simpa using ht) (getD_replicate_false _ _)⟩) hplan
    rw [show n + (ops.size - n) = ops.size by omega, he] at this
    exact this
end Go.Proofs.YtilagaapfbfkkaaGreatDoor.Ab
namespace Go.Proofs.YtilagaapfbfkkaaGreatDoor.Ab
open Go Go.RowKit Go.Proofs.YtilagaapfbfkkaaGreatDoorW.PrintWords
variable {X : Cx} {P : Program} {T : Tab} {Γ : Sems}
theorem addN_prefix : ∀ (l acc : List Nat) (p i : Nat), acc[p]? = some i → (addN acc l)[p]? = some i
  | [], acc, p, i, h => by simpa [addN] using h
  | j :: l, acc, p, i, h => by
    simp only [addN]
    cases memN j acc with
    | true => exact addN_prefix l acc p i h
    | false => exact addN_prefix l _ p i (by rw [List.getElem?_append_left (List.getElem?_eq_some_iff.1 h).1]; exact h)
theorem reach_prefix (os : List Ob) : ∀ (n : Nat) (ids : List Nat) (p i : Nat), ids[p]? = some i → (reach os n ids)[p]? = some i
  | 0, ids, p, i, h => h
  | n + 1, ids, p, i, h => reach_prefix os n _ p i (addN_prefix _ _ p i h)
theorem upN_get : ∀ (n p : Nat), p < n → (upN n)[p]? = some p
  | 0, p, h => by omega
  | n + 1, p, h => by
    have hl : (upN n).length = n := by
      clear h
      induction n with
      | zero => rfl
      | succ n ih => simp [upN, ih]
    simp only [upN]
    by_cases hp : p < n
    · rw [List.getElem?_append_left (by omega)]; exact upN_get n p hp
    · obtain rfl : p = n := by omega
      rw [List.getElem?_append_right (by omega)]; simp [hl]
theorem upN_lt : ∀ (n i : Nat), i ∈ upN n → i < n
  | 0, i, h => by simp [upN] at h
  | n + 1, i, h => by
    simp only [upN, List.mem_append, List.mem_singleton] at h
    rcases h with h | rfl
    · have := upN_lt n i h; omega
    · omega
theorem upN_nodup : ∀ n, (upN n).Nodup
  | 0 => by simp [upN]
  | n + 1 => by
    have hm := upN_lt n
    exact List.nodup_append.2 ⟨upN_nodup n, by simp, fun a ha b hb => by simp at hb; subst hb; have := hm a ha; omega⟩
theorem keepT_get : ∀ (l : List V) (i : Nat) (ks : List Nat) (t : Nat) (x : V), (keepT i l ks)[t]? = some x → ∃ y, l[t]? = some y ∧ (x = y ∨ x = .one .top)
  | [], _, _, t, x, h => by simp [keepT] at h
  | v :: l, i, ks, 0, x, h => by
    simp only [keepT, List.getElem?_cons_zero, Option.some.injEq] at h
    refine ⟨v, rfl, ?_⟩
    cases hm : memN i ks <;> rw [hm] at h <;> simp at h <;> simp [h]
  | v :: l, i, ks, t + 1, x, h => by
    simp only [keepT, List.getElem?_cons_succ] at h
    simpa using keepT_get l (i + 1) ks t x h
theorem keepT_length : ∀ (l : List V) (i : Nat) (ks : List Nat), (keepT i l ks).length = l.length
  | [], _, _ => rfl
  | v :: l, i, ks => by simp [keepT, keepT_length l]
theorem pick_sound {M : Nat → Prop} {w0 w : World} {lk : List Value} {σ : St} {a : Act} {ids : List Nat} (hr : Rel X w lk σ a) (hi : Inv X M w0 w lk) (hnd : ids.Nodup) (hl0 : ∀ p, p < X.l0.length → ids[p]? = some p) :
    Rel X w (lkOf lk ids) (pick_ σ ids) a ∧ Inv X M w0 w (lkOf lk ids) := by
  have hlks : ∀ (p : Nat) (v : Value), (lkOf lk ids)[p]? = some v → ∃ i, ids[p]? = some i ∧ v = lk.getD i (.bool false) := fun p v hp => by
    obtain ⟨i, h1, h2⟩ := get_map hp
    exact ⟨i, h1, h2.symm⟩
  have hget : ∀ (i : Nat) (b : Nat), blk (lk.getD i (.bool false)) = some b → lk[i]? = some (lk.getD i (.bool false)) := fun i b hb => by
    cases h : lk[i]? with
    | none => simp [List.getD, h, blk] at hb
    | some v => simp [List.getD, h]
  have hsub : ∀ v ∈ lkOf lk ids, ∀ b, blk v = some b → v ∈ lk := fun v hv b hb => by
    obtain ⟨p, hp⟩ := List.mem_iff_getElem?.1 hv
    obtain ⟨i, h1, rfl⟩ := hlks p v hp
    exact List.mem_of_getElem? (hget i b hb)
  have hgo : Goes w (Imm X w lk) w (Imm X w (lkOf lk ids)) := fun b hb => ⟨rfl, hb.1, fun v hv he => hb.2.1 v (hsub v hv b he) he, hb.2.2⟩
  have hcg := fun c u (hc : CRep w (Imm X w lk) lk c u) => CRep.go (lk' := lkOf lk ids) (ids := ids) hgo (fun p i hp v hv => by
    simp only [lkOf, List.getElem?_map, hp, Option.map_some]
    simp [List.getD, hv]) c u hc
  refine ⟨ORel.toR ⟨by simp [lkOf, pick_], fun p o v ho hp => ?_, fun p q v v' b hpq hp hq hb he => ?_, fun p v b hp hb => ?_, fun p v b hp hb => ?_, ?_, fun p v0 o hp ho hk => ?_⟩ (by simp [pick_, hr.tsz]) (fun t x hx => ?_) hr.df, ⟨hi.keep, fun v hv b hb => hi.news v (hsub v hv b hb) b hb, hi.xl, hi.xm, hi.gr⟩⟩
  · simp only [pick_] at ho
    obtain ⟨i, h1, rfl⟩ := get_map ho
    obtain ⟨i', h1', rfl⟩ := hlks p v hp
    rw [h1] at h1'; simp at h1'; subst h1'
    rw [Ob.ren_map, Ob.map_map, nth_get]
    cases hoi : σ.objs[i]? with
    | none =>
      have : lk[i]? = none := by
        rw [List.getElem?_eq_none_iff] at hoi ⊢; rw [hr.lsz]; exact hoi
      simp [List.getD, this, Ob.map, ORep, blk]
    | some o' =>
      have hil : i < lk.length := by rw [hr.lsz]; exact (List.getElem?_eq_some_iff.1 hoi).1
      have hv := hr.ob i o' _ hoi (List.getElem?_eq_getElem hil)
      rw [Option.getD_some]
      have he : lk.getD i (.bool false) = lk[i] := by simp [List.getD, List.getElem?_eq_getElem hil]
      rw [he]
      exact Ob.map_rep hgo hcg (fun _ _ => rfl) hv
  · obtain ⟨i, h1, rfl⟩ := hlks p v hp
    obtain ⟨j, h2, rfl⟩ := hlks q v' hq
    exact hr.dj i j _ _ b (fun e => hpq (by subst e; exact nodup_get hnd h1 h2)) (hget i b hb) (hget j b he) hb he
  · obtain ⟨i, h1, rfl⟩ := hlks p v hp
    exact hr.lt i _ b (hget i b hb) hb
  · obtain ⟨i, h1, rfl⟩ := hlks p v hp
    exact hr.nx i _ b (hget i b hb) hb
  · simp only [lkOf, List.length_map]
    rcases Nat.eq_zero_or_pos X.l0.length with h | h
    · omega
    · have := (List.getElem?_eq_some_iff.1 (hl0 (X.l0.length - 1) (by omega))).1
      omega
  · have hpl := (List.getElem?_eq_some_iff.1 hp).1
    have hpi := hl0 p hpl
    simp only [pick_] at ho
    obtain ⟨i, h1, rfl⟩ := get_map ho
    rw [hpi] at h1; simp at h1; subst h1
    have hpk : p < lk.length := Nat.lt_of_lt_of_le hpl hr.ll
    rw [nth_get] at hk
    cases hoi : σ.objs[p]? with
    | none => rw [hoi] at hk; simp [Ob.map, Ob.ren, keepsO] at hk
    | some o' =>
      rw [hoi] at hk
      have hk' : keepsO o' = true := by cases o' <;> exact hk
      have := hr.kp p v0 o' hp hoi hk'
      simp only [lkOf, List.getElem?_map, hpi, Option.map_some]
      simp [List.getD, this]
  · simp only [pick_] at hx
    obtain ⟨y, hy, rfl⟩ := get_map hx
    rw [V.ren_map, V.map_map]
    exact V.map_rep hcg (hr.tm t y hy)
theorem gc_sound {M : Nat → Prop} {w0 w : World} {lk : List Value} {σ : St} {a : Act} {m : Nat} {ks : List Nat} {Q : St → Prop} (h : gc m ks σ Q) (hr : Rel X w lk σ a) (hi : Inv X M w0 w lk) (hm : X.l0.length = m) :
    ∃ σ' lk', Q σ' ∧ Rel X w lk' σ' a ∧ Inv X M w0 w lk' := by
  rw [gc_iff] at h
  have hr1 : Rel X w lk ⟨keepT 0 σ.tmps ks, σ.objs⟩ a := by
    refine ORel.toR hr.toO (by rw [keepT_length]; exact hr.tsz) (fun t x hx => ?_) hr.df
    obtain ⟨y, hy, rfl | rfl⟩ := keepT_get _ _ _ _ _ hx
    · exact hr.tm t _ hy
    · trivial
  obtain ⟨h1, h2⟩ := pick_sound (ids := reach σ.objs (len σ.objs) (addN (upN m) ((keepT 0 σ.tmps ks).flatMap V.ids))) hr1 hi (reach_nodup _ _ _ (addN_nodup _ _ (upN_nodup m)))
    (fun p hp => reach_prefix _ _ _ _ _ (addN_prefix _ _ _ _ (upN_get m p (by omega))))
  exact ⟨_, _, h, h1, h2⟩
def noDraw : Code → Bool
  | .region _ _ d => !d
  | .seq a b => noDraw a && noDraw b
  | .cond _ a b => noDraw a && noDraw b
  | .block _ a => noDraw a
  | .loop a => noDraw a
  | _ => true
theorem evCode_sound (hT : TabOK P T) (hΓ : SemsOK X.gr P Γ) {M : Nat → Prop} {w0 : World} {L : Nat → List Nat} {m : Nat} (hm : X.l0.length = m) :
    ∀ (c : Code) {σ : St} {a : Act} {w : World} {lk : List Value} {Q : Ex → St → Prop} {QQ : Exit → Act → World → Prop}, evCode T Γ L m c σ Q → Rel X w lk σ a → Inv X M w0 w lk → FF X M w0 Q QQ → (noDraw c = true ∨ ∀ c a a' w, a'.defers = a.defers → QQ (.panic c) a w → QQ (.panic c) a' w) → c.wp P QQ a w
  | .skip, σ, a, w, lk, Q, QQ, h, hr, hi, hF, hP => wp_skip (hF _ _ _ _ _ _ h rfl hr hi)
  | .region id ops draw, σ, a, w, lk, Q, QQ, h, hr, hi, hF, hP => by
    simp only [evCode] at h
    cases draw with
    | true => obtain ⟨dirty, pl, h1, h2⟩ := h; exact region_sound hT hΓ hF (hP.resolve_left (by simp [noDraw])) h1.h h2 hr hi
    | false =>
      refine wp_region ?_
      rw [List.range_eq_range']
      exact evOps_sound hT hΓ hF ops.size 0 (by omega) h hr hi
  | .seq x y, σ, a, w, lk, Q, QQ, h, hr, hi, hF, hP => by
    simp only [evCode] at h
    have hPx : noDraw x = true ∨ ∀ c a a' w, a'.defers = a.defers → QQ (.panic c) a w → QQ (.panic c) a' w := hP.imp (fun h => by simp only [noDraw, Bool.and_eq_true] at h; exact h.1) id
    have hPy : noDraw y = true ∨ ∀ c a a' w, a'.defers = a.defers → QQ (.panic c) a w → QQ (.panic c) a' w := hP.imp (fun h => by simp only [noDraw, Bool.and_eq_true] at h; exact h.2) id
    refine wp_seq (evCode_sound hT hΓ hm x h hr hi ?_ (hPx.imp id fun hP c a a' w h1 h2 => hP c a a' w h1 h2))
    intro e σ' a' w' lk' ex hq he hr' hi'
    cases e with
    | normal =>
      simp only [exOf, Option.some.injEq] at he; subst he
      exact evCode_sound hT hΓ hm y hq hr' hi' hF hPy
    | exit i => simp only [exOf, Option.some.injEq] at he; subst he; exact hF _ _ _ _ _ _ hq rfl hr' hi'
    | ret => simp only [exOf, Option.some.injEq] at he; subst he; exact hF _ _ _ _ _ _ hq rfl hr' hi'
    | panic c =>
      have := hF _ _ _ _ _ ex hq he hr' hi'
      cases c <;> simp [exOf] at he
      subst he; exact this
  | .cond c x y, σ, a, w, lk, Q, QQ, h, hr, hi, hF, hP => by
    simp only [evCode] at h
    split at h
    · rename_i g hc
      have hv := opd_rep hr c
      rw [hc] at hv
      rw [Br_iff] at h
      have hPx : noDraw x = true ∨ ∀ c a a' w, a'.defers = a.defers → QQ (.panic c) a w → QQ (.panic c) a' w := hP.imp (fun h => by simp only [noDraw, Bool.and_eq_true] at h; exact h.1) id
      have hPy : noDraw y = true ∨ ∀ c a a' w, a'.defers = a.defers → QQ (.panic c) a w → QQ (.panic c) a' w := hP.imp (fun h => by simp only [noDraw, Bool.and_eq_true] at h; exact h.2) id
      exact wp_cond_split (t := g) hv (fun hg => evCode_sound hT hΓ hm x (h.1 hg) hr hi hF hPx) (fun hg => evCode_sound hT hΓ hm y (h.2 hg) hr hi hF hPy)
    · exact h.elim
  | .block id x, σ, a, w, lk, Q, QQ, h, hr, hi, hF, hP => by
    simp only [evCode] at h
    refine wp_block (evCode_sound hT hΓ hm x h hr hi ?_ (hP.imp (fun h => by simpa only [noDraw] using h) fun hP c a a' w h1 h2 => hP c a a' w h1 h2))
    intro e σ' a' w' lk' ex hq he hr' hi'
    cases e with
    | normal => simp only [exOf, Option.some.injEq] at he; subst he; exact hF _ _ _ _ _ _ hq rfl hr' hi'
    | exit i =>
      simp only [exOf, Option.some.injEq] at he; subst he
      simp only [Exit.inBlock]
      by_cases hii : i = id
      · simp only [hii, if_true] at hq ⊢
        exact hF _ _ _ _ _ _ hq rfl hr' hi'
      · simp only [hii, if_false] at hq ⊢
        exact hF _ _ _ _ _ _ hq rfl hr' hi'
    | ret => simp only [exOf, Option.some.injEq] at he; subst he; exact hF _ _ _ _ _ _ hq rfl hr' hi'
    | panic c =>
      have := hF _ _ _ _ _ ex hq he hr' hi'
      cases c <;> simp [exOf] at he
      subst he; exact this
  | .loop x, σ, a, w, lk, Q, QQ, h, hr, hi, hF, hP => by
    simp only [evCode] at h
    obtain ⟨σ', lk', hq, hr', hi'⟩ := gc_sound h hr hi hm
    obtain ⟨n, hq⟩ := hq
    refine wp_loop_rounds n ?_
    clear h hr hi
    induction n generalizing σ' a w lk' with
    | zero => exact hq.elim
    | succ n ih =>
      rw [rounds_succ]
      simp only [evIter] at hq
      refine evCode_sound hT hΓ hm x hq hr' hi' ?_ (hP.imp (fun h => by simpa only [noDraw] using h) fun hP c a a' w h1 h2 => hP c a a' w h1 h2)
      intro e σ' a' w' lk' ex hq he hr' hi'
      cases e with
      | normal =>
        simp only [exOf, Option.some.injEq] at he; subst he
        obtain ⟨σ2, lk2, hq2, hr2, hi2⟩ := gc_sound hq hr' hi' hm
        exact ih _ _ _ _ hr2 hi2 hq2
      | exit i => simp only [exOf, Option.some.injEq] at he; subst he; exact hF _ _ _ _ _ _ hq rfl hr' hi'
      | ret => simp only [exOf, Option.some.injEq] at he; subst he; exact hF _ _ _ _ _ _ hq rfl hr' hi'
      | panic c =>
        have := hF _ _ _ _ _ ex hq he hr' hi'
        cases c <;> simp [exOf] at he
        subst he; exact this
  | .exit id, σ, a, w, lk, Q, QQ, h, hr, hi, hF, hP => wp_exit (hF _ _ _ _ _ _ h rfl hr hi)
  | .ret, σ, a, w, lk, Q, QQ, h, hr, hi, hF, hP => wp_ret (hF _ _ _ _ _ _ h rfl hr hi)
  | .rangeFunc .., _, _, _, _, _, _, h, _, _, _, _ => h.elim
  | .scope _, _, _, _, _, _, _, h, _, _, _, _ => h.elim
  | .label _, _, _, _, _, _, _, h, _, _, _, _ => h.elim
  | .goto _, _, _, _, _, _, _, h, _, _, _, _ => h.elim
  | .refuse _, _, _, _, _, _, _, h, _, _, _, _ => h.elim
def resRun (a : Act) (x : ResultVar) : Go.Sem Value := match x with | .tmp t => pure (a.tmps.getD t undef) | .cell p t => do loadVar t (← asAddr (a.tmps.getD p undef))
theorem resK_sound (hT : TabOK P T) {w : World} {lk : List Value} {σ : St} {a : Act} (hr : Rel X w lk σ a) : ∀ (l : List ResultVar) {Q : List E → Prop}, resK T σ l Q →
    ∃ es vs, Q es ∧ (l.mapM (resRun a)).run P w = .ok vs w ∧ All2 (ERep w (Imm X w lk) lk) es vs
  | [], Q, h => ⟨[], [], h, rfl, trivial⟩
  | .tmp t :: l, Q, h => by
    have key : ∀ (es : List E) (vs : List Value), (l.mapM (resRun a)).run P w = .ok vs w → ((ResultVar.tmp t :: l).mapM (resRun a)).run P w = .ok (a.tmps.getD t undef :: vs) w := by
      intro es vs he
      rw [List.mapM_cons, Sem.run_bind, show (resRun a (.tmp t)).run P w = .ok (a.tmps.getD t undef) w from rfl, Result.andThen_ok, Sem.run_bind, he]
      rfl
    simp only [resK, nth_get] at h
    split at h
    · rename_i c hc
      obtain ⟨es, vs, hq, he, ha⟩ := resK_sound hT hr l h
      exact ⟨_, _ :: vs, hq, key es vs he, hr.tm t _ hc, ha⟩
    · rename_i cs hc
      obtain ⟨es, vs, hq, he, ha⟩ := resK_sound hT hr l h
      exact ⟨_, _ :: vs, hq, key es vs he, hr.tm t _ hc, ha⟩
    · exact h.elim
  | .cell p t :: l, Q, h => by
    have key : ∀ (ad : Addr) (r : Value) (vs : List Value), a.tmps.getD p undef = .pointer ad → (loadVar t ad).run P w = .ok r w → (l.mapM (resRun a)).run P w = .ok vs w → ((ResultVar.cell p t :: l).mapM (resRun a)).run P w = .ok (r :: vs) w := by
      intro ad r vs hp hl he
      rw [List.mapM_cons, Sem.run_bind, show (resRun a (.cell p t)).run P w = .ok r w by simp only [resRun, hp]; exact hl, Result.andThen_ok, Sem.run_bind, he]
      rfl
    simp only [resK, nth_get] at h
    split at h
    · rename_i c hc
      split at h
      · rename_i ti hti
        split at h
        · rename_i cs hcs
          rw [mkCs_iff] at h
          obtain ⟨ad, us, hpe, hl, hau, hu⟩ := cellsAt_sound hr hcs (hr.tm p _ hc)
          split at h
          · rename_i c' hsh
            obtain ⟨r, hrun, hrv⟩ := run_load_any hT hti hl hu hau hsh
            obtain ⟨es, vs, hq, he, ha⟩ := resK_sound hT hr l h
            exact ⟨_, r :: vs, hq, key _ _ _ hpe hrun he, hrv, ha⟩
          · rename_i c' hsh
            obtain ⟨r, hrun, hrv⟩ := run_load_any hT hti hl hu hau hsh
            obtain ⟨es, vs, hq, he, ha⟩ := resK_sound hT hr l h
            exact ⟨_, r :: vs, hq, key _ _ _ hpe hrun he, hrv, ha⟩
          · exact h.elim
        · exact h.elim
      · exact h.elim
    · exact h.elim
theorem results_sound (hT : TabOK P T) {w : World} {lk : List Value} {σ : St} {a : Act} (hr : Rel X w lk σ a) {fn : Func} {Q : List E → Prop} (h : resK T σ fn.results.toList Q) :
    ∃ es v, Q es ∧ (results fn a.tmps).run P w = .ok v w ∧ VRep w (Imm X w lk) lk (outOf es) v := by
  obtain ⟨es, vs, hq, he, ha⟩ := resK_sound hT hr _ h
  have hrun : (results fn a.tmps).run P w = .ok (if h : vs.toArray.size = 1 then vs.toArray[0] else .tuple vs.toArray) w := by
    have hd : results fn a.tmps = (do
        let vs ← fn.results.mapM (resRun a)
        pure (if h : vs.size = 1 then vs[0] else .tuple vs)) := rfl
    rw [hd, Array.mapM_eq_mapM_toList, Sem.run_bind, Sem.run_map, he]
    rfl
  refine ⟨es, _, hq, hrun, ?_⟩
  cases es with
  | nil =>
    obtain rfl := ha.nil_inv
    exact ⟨[], rfl, trivial⟩
  | cons e es =>
    obtain ⟨v, vs', rfl, hv, hl⟩ := ha.cons_inv
    cases es with
    | nil =>
      obtain rfl := hl.nil_inv
      cases e with
      | one c => exact hv
      | agg l => exact hv
    | cons e2 es =>
      obtain ⟨v2, vs2, rfl, hv2, hl2⟩ := hl.cons_inv
      rw [dif_neg (by simp)]
      cases e <;> exact ⟨v :: v2 :: vs2, rfl, hv, hv2, hl2⟩
theorem tops_length : ∀ n, (tops n).length = n
  | 0 => rfl
  | n + 1 => by simp [tops, tops_length n]
theorem tops_get : ∀ (n t : Nat) (x : V), (tops n)[t]? = some x → x = .one .top
  | 0, _, _, h => by simp [tops] at h
  | n + 1, 0, x, h => by simp [tops] at h; exact h.symm
  | n + 1, t + 1, x, h => tops_get n t x (by simpa [tops] using h)
theorem ORel.dfs {w : World} {lk : List Value} {os : List Ob} (h : ORel X w lk os) (d : List Deferred) : ORel ⟨X.hid, X.l0, X.gr, d, X.pub, X.ph⟩ w lk os := ⟨h.lsz, h.ob, h.dj, h.lt, h.nx, h.ll, h.kp⟩
theorem ORel.undfs {w : World} {lk : List Value} {os : List Ob} {d : List Deferred} (h : ORel ⟨X.hid, X.l0, X.gr, d, X.pub, X.ph⟩ w lk os) : ORel X w lk os := ⟨h.lsz, h.ob, h.dj, h.lt, h.nx, h.ll, h.kp⟩
theorem Post.undfs {w : World} {lk : List Value} {ro : Bool} {K : List Ob → Out → Prop} {e : Ending} {w' : World} {d : List Deferred} (h : Post ⟨X.hid, X.l0, X.gr, d, X.pub, X.ph⟩ w lk ro K e w') : Post X w lk ro K e w' := by
  obtain ⟨os', lk', out, h1, h2, h3, h4, h5⟩ := h
  exact ⟨os', lk', out, h1, h2.undfs, h3, h4, h5⟩
theorem SenseOK.mk {G : World → Prop} {f : FuncId} {s : Sense}
    (h : ∀ (X : Cx) (w : World) (lk : List Value) (os : List Ob) (as_ : List V) (vs : List Value) (K : List Ob → Out → Prop), X.df = [] → ORel X w lk os → X.l0 = lk → (∀ b, X.hid b → b < w.heap.size) → X.gr = G → Gnd X w →
    All2 (VRep w (Imm X w lk) lk) as_ vs → s.f os as_ K → Calls P f vs.toArray w (Post X w lk s.ro K)) : SenseOK G P f s := by
  intro X w lk os as_ vs K hO hl0 hX hXG hgr has hs
  exact (h ⟨X.hid, X.l0, X.gr, [], X.pub, X.ph⟩ w lk os as_ vs K rfl (hO.dfs []) hl0 hX hXG hgr has hs).mono fun e w' hp => hp.undfs
theorem SenseOK.of {G : World → Prop} (hT : TabOK P T) (hΓ : SemsOK G P Γ) {f : FuncId} {fn : Func} (L : Nat → List Nat) (s : Sense) (hf : P.funcs[f]? = some fn)
    (hro : s.ro = true → ∀ os as_ K, s.f os as_ K → os = [])
    (h : ∀ os as_ K, s.f os as_ K → evFn T Γ L fn os as_ K) : SenseOK G P f s := by
  refine SenseOK.mk fun X w lk os as_ vs K hdf hO hl0 hX hXG hgr has hs => ?_
  subst hXG
  have hev := h os as_ K hs
  unfold evFn at hev
  split at hev
  · exact hev.elim
  rename_i c hc
  refine calls_of_wp hf hc ?_
  have hml : X.l0.length = len os := by rw [hl0, len_length, hO.lsz]
  have hal := has.length
  let M : Nat → Prop := fun b => ∃ v ∈ lk, blk v = some b
  have hr : Rel X w lk ⟨padT fn.ntmps as_, os⟩ { tmps := vs.toArray ++ Array.replicate (fn.ntmps - vs.toArray.size) undef, defers := [] } := by
    refine ORel.toR hO ?_ (fun t x hx => ?_) hdf.symm
    · simp [padT, tops_length, len_length, hal]
    · simp only [padT] at hx
      rcases Nat.lt_or_ge t as_.length with hlt | hge
      · rw [List.getElem?_append_left hlt] at hx
        obtain ⟨u, hu, hru⟩ := has.get hx
        have htl : t < vs.length := (List.getElem?_eq_some_iff.1 hu).1
        have : (vs.toArray ++ Array.replicate (fn.ntmps - vs.toArray.size) undef).getD t undef = u := by
          rw [Array.getD_eq_getD_getElem?, Array.getElem?_append_left (by simpa using htl)]
          simp [hu]
        rw [this]; exact hru
      · rw [List.getElem?_append_right hge] at hx
        rw [tops_get _ _ _ hx]; trivial
  have hi : Inv X M w w lk := ⟨Keep.refl _ _, fun v hv b hb => .inl ⟨v, hv, hb⟩, hX, fun b hb ⟨v, hv, hvb⟩ => by
    obtain ⟨i, hi⟩ := List.mem_iff_getElem?.1 hv
    exact hO.nx i v b hi hvb hb, hgr⟩
  have fin : ∀ (σ' : St) (a' : Act) (w' : World) (lk' : List Value), Inv X M w w' lk' → (∀ v ∈ lk', ∀ b, blk v = some b → (∃ u ∈ lk, blk u = some b) ∨ w.heap.size ≤ b) ∧ Keep (fun b => s.ro = false ∧ ∃ v ∈ lk, blk v = some b) w w' := by
    intro σ' a' w' lk' hi'
    refine ⟨hi'.news, hi'.keep.os, hi'.keep.tape, hi'.keep.output, hi'.keep.size, fun k hk hnk => hi'.keep.block k hk (fun hM => ?_)⟩
    cases hsr : s.ro with
    | false => exact hnk ⟨hsr, hM⟩
    | true =>
      have := hro hsr os as_ K hs
      subst this
      have hl : lk = [] := List.length_eq_zero_iff.1 (by rw [hO.lsz]; rfl)
      obtain ⟨v, hv, _⟩ := hM
      rw [hl] at hv; simp at hv
  refine evCode_sound (M := M) (w0 := w) hT hΓ hml c hev hr hi ?_ (.inr fun c a a' w h1 h2 => ⟨h1.trans h2.1, h2.2⟩)
  intro e σ' a' w' lk' ex hq he hr' hi'
  have key : resK T σ' fn.results.toList (fun r => gc (len os) [0] ⟨[outOf r], σ'.objs⟩ fun σ2 => match σ2.tmps with
      | [v] => K σ2.objs (.ret v)
      | _ => False) → a'.defers = [] ∧ ∃ v, (results fn a'.tmps).run P w' = .ok v w' ∧ Post X w lk s.ro K (.returned v) w' := by
    intro hk
    obtain ⟨es, v, hq2, hrun, hv⟩ := results_sound hT hr' hk
    have hrv : Rel X w' lk' ⟨[outOf es], σ'.objs⟩ { tmps := #[v], defers := [] } := ORel.toR hr'.toO rfl (fun t x hx => by
      cases t with
      | zero => simp at hx; subst hx; exact hv
      | succ t => simp at hx) hdf.symm
    obtain ⟨σ2, lk2, hq3, hr3, hi3⟩ := gc_sound hq2 hrv hi' hml
    obtain ⟨f1, f2⟩ := fin σ2 a' w' lk2 hi3
    obtain ⟨ts, os2⟩ := σ2
    match ts, hq3, hr3 with
    | [x], hq3, hr3 => exact ⟨hr'.df.trans hdf, v, hrun, os2, lk2, .ret x, hq3, hr3.toO, f2, f1, v, rfl, hr3.tm 0 x rfl⟩
    | [], hq3, _ => exact hq3.elim
    | _ :: _ :: _, hq3, _ => exact hq3.elim
  cases e with
  | normal => simp only [exOf, Option.some.injEq] at he; subst he; exact key hq
  | ret => simp only [exOf, Option.some.injEq] at he; subst he; exact key hq
  | exit i => exact hq.elim
  | panic p =>
    cases p <;> simp [exOf] at he
    subst he
    have hrv : Rel X w' lk' ⟨[], σ'.objs⟩ { tmps := #[], defers := [] } := ORel.toR hr'.toO rfl (fun t x hx => by simp at hx) hdf.symm
    obtain ⟨σ2, lk2, hq3, hr3, hi3⟩ := gc_sound hq hrv hi' hml
    obtain ⟨f1, f2⟩ := fin σ2 a' w' lk2 hi3
    exact ⟨hr'.df.trans hdf, σ2.objs, lk2, _, hq3, hr3.toO, f2, f1, rfl⟩
end Go.Proofs.YtilagaapfbfkkaaGreatDoor.Ab
namespace Go.Proofs.YtilagaapfbfkkaaGreatDoor.Ab
open Go
variable {P : Program} {T : Tab}
def DescOK (P : Program) (T : Tab) (t : TypeId) (sz : Nat) : TD → Prop
  | .int k => P.underlying t = some (.int k) ∧ sz = 1
  | .bool => P.underlying t = some .bool ∧ sz = 1
  | .str => P.underlying t = some .string ∧ sz = 1
  | .slice e te => P.underlying t = some (.slice e) ∧ sz = 1 ∧ (∃ ti, T e = some ti ∧ ti.sz = te.sz ∧ (∀ i zv, P.info? e = some i → i.zero = some zv → ∀ w I, TRep w I te te.dflt zv.cells.toList)) ∧ (∀ k, te = .int k → P.underlying e = some (.int k) ∧ ∃ i, P.info? e = some i ∧ i.zero = some (.int k 0))
  | .struct fs => ∃ F, P.underlying t = some (.struct F) ∧ F.toList.map (fun f => (f.offset, f.type)) = fs ∧ (∀ f ∈ F.toList, ∃ i, P.info? f.type = some i ∧ i.size ≠ 0) ∧ P.stoodInHeld t = false ∧ P.eqGuardType P.depth t = false ∧ (∀ f ∈ F.toList, (f.name == "_") = false)
  | .iface => sz = 1 ∧ ∃ ms, P.underlying t = some (.interface ms)
  | .other => sz = 1 ∧ ∃ d, P.underlying t = some d ∧ (∀ F, d ≠ .struct F) ∧ (∀ n e, d ≠ .array n e)
  | .map k kt e => sz = 1 ∧ P.underlying t = some (.map k e) ∧ kt.plainB = true ∧ (∃ i, P.info? e = some i ∧ i.zero = some (.bool false)) ∧
    ∃ d ks kb kz, T k = some ⟨d, ks, kb, kz⟩ ∧ ((∃ fs, d = .struct fs ∧ (∃ a b, kt = .pair a b) ∧ ∀ f ∈ fs, ∃ ti, T f.2 = some ti ∧ (∃ d', P.underlying f.2 = some d' ∧ (∀ F, d' ≠ .struct F) ∧ (∀ n e, d' ≠ .array n e) ∧ (∀ ms, d' ≠ .interface ms))) ∨ (d = .str ∧ kt = .str) ∨ ∃ q, d = .int q ∧ kt = .int q)
structure EntOK (P : Program) (T : Tab) (t : TypeId) (ti : TI) : Prop where
  info : ∃ i z, P.info? t = some i ∧ i.size = ti.sz ∧ i.bytes = ti.by_ ∧ i.zero = some z ∧ z.cells.size = ti.sz ∧ (∀ w I lk, All2 (Cel w I lk) ti.zero z.cells.toList)
  pb : 0 < ti.by_
  ps : 0 < ti.sz
  d : DescOK P T t ti.sz ti.d
theorem TabOK.of (hm : P.follows .mixedOrders = true) (h : ∀ t ti, T t = some ti → EntOK P T t ti) : TabOK P T where
  info t ti ht := (h t ti ht).info
  mixed := hm
  pos t ti ht := ⟨(h t ti ht).pb, (h t ti ht).ps⟩
  int t k s b z ht := (h t _ ht).d
  bool t s b z ht := (h t _ ht).d
  str t s b z ht := (h t _ ht).d
  slice t e te s b z ht := by obtain ⟨h1, h2, h3, _⟩ := (h t _ ht).d; exact ⟨h1, h2, h3⟩
  u8 t e k s b z ht := by obtain ⟨_, _, _, h4⟩ := (h t _ ht).d; exact (h4 k rfl).1
  u8z t e k s b z ht := by obtain ⟨_, _, _, h4⟩ := (h t _ ht).d; exact (h4 k rfl).2
  struct t fs s b z ht := by obtain ⟨F, h1, h2, h3, _⟩ := (h t _ ht).d; exact ⟨F, h1, h2, h3⟩
  eqs t fs s b z ht := by obtain ⟨F, h1, h2, h3, h4⟩ := (h t _ ht).d; exact ⟨F, h1, h4⟩
  iface t s b z ht := (h t _ ht).d
  map t k kt e s b z ht := (h t _ ht).d
  other t s b z ht := (h t _ ht).d
def zc : Ty → List Value
  | .int k => [.int k 0] | .bool => [.bool false] | .str => [.string ByteArray.empty] | .slice _ _ => [.slice none 0 0] | .pair a b => zc a ++ zc b
theorem TRep.zero {w : World} {I : Nat → Prop} : ∀ (t : Ty), TRep w I t t.dflt (zc t)
  | .int k => rfl
  | .bool => rfl
  | .str => rfl
  | .slice _ _ => ⟨none, 0, rfl, Nat.le_refl _, by simp [Ty.dflt], fun h => absurd h (by simp [Ty.dflt])⟩
  | .pair a b => ⟨zc a, zc b, rfl, TRep.zero a, TRep.zero b⟩
end Go.Proofs.YtilagaapfbfkkaaGreatDoor.Ab
