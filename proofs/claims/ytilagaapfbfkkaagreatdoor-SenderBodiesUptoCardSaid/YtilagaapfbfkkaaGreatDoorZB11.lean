/- Part 11 of 11 of the texts that the sender's rows rest on, put together by a program; no condition. -/
import Derived.Test.YtilagaapfbfkkaaGreatDoorZB6
import Derived.Test.YtilagaapfbfkkaaGreatDoorZB10
set_option maxHeartbeats 128000000
set_option linter.unusedSimpArgs false
set_option linter.unusedVariables false
namespace Go.Proofs.YtilagaapfbfkkaaGreatDoor.Ab
open Go Go.RowKit Go.Proofs.YtilagaapfbfkkaaGreatDoorW.PrintWords
set_option maxRecDepth 100000
abbrev bulkB : Nat := 1048576
theorem opb9 : OpnB Tryz.prog bulkB 9 .str (fun x => x.size ≤ bulkB) := OpnB.string (by kernel_rfl) Tryz.underlying9
theorem opb3 : OpnB Tryz.prog bulkB 3 (.int .i64) (fun x => (Lit.int .i64 x).wf = true) := (Opn.int (by kernel_rfl) Tryz.underlying3).b
theorem opb4 : OpnB Tryz.prog bulkB 4 .bool (fun _ => True) := (Opn.bool (by kernel_rfl) Tryz.underlying4).b
theorem opb5 : OpnB Tryz.prog bulkB 5 (.int .u8) (fun x => (Lit.int .u8 x).wf = true) := opn5.b
theorem opb37 : OpnB Tryz.prog bulkB 37 (.slice 5 (.int .u8)) (fun l => l.length ≤ bulkB ∧ Byts l) :=
  (OpnB.slice (by kernel_rfl) Tryz.underlying37 opb5).imp fun l h => ⟨h.1, fun x hx => by
    have := h.2 x hx
    simp only [Lit.wf, Bool.and_eq_true, decide_eq_true_eq] at this
    have h1 : (0 : Int) ≤ x := this.1
    have h2 : x ≤ (255 : Int) := this.2
    exact ⟨h1, by omega⟩⟩
theorem opb22 : OpnB Tryz.prog bulkB 22 (.slice 3 (.int .i64)) (fun l => l.length ≤ bulkB) := (OpnB.slice (by kernel_rfl) Tryz.underlying22 opb3).imp fun l h => h.1
theorem opb25 : OpnB Tryz.prog bulkB 25 (.slice 9 .str) (fun l => l.length ≤ bulkB ∧ ∀ x ∈ l, x.size ≤ bulkB) := OpnB.slice (by kernel_rfl) Tryz.underlying25 opb9
theorem opb29 : OpnB Tryz.prog bulkB 29 (.pair .str .str) (fun x => x.1.size ≤ bulkB ∧ x.2.size ≤ bulkB) :=
  (OpnB.struct (by kernel_rfl) Tryz.underlying29 (OpnBs.cons opb9 rfl (OpnBs.one opb9 rfl))).imp fun x h => h
theorem opb39 : OpnB Tryz.prog bulkB 39 RT (fun r => r.1.1.size ≤ bulkB ∧ r.1.2.size ≤ bulkB) :=
  (OpnB.struct (by kernel_rfl) Tryz.underlying39 (OpnBs.cons opb29 rfl (OpnBs.cons opb3 rfl (OpnBs.cons opb3 rfl (OpnBs.cons opb3 rfl (OpnBs.one opb3 rfl)))))).imp fun r h => ⟨h.1.1, h.1.2⟩
theorem opb30 : OpnB Tryz.prog bulkB 30 (.slice 39 RT) (fun l => l.length ≤ bulkB ∧ ∀ r ∈ l, r.1.1.size ≤ bulkB ∧ r.1.2.size ≤ bulkB) := OpnB.slice (by kernel_rfl) Tryz.underlying30 opb39
theorem opb32 : OpnB Tryz.prog bulkB 32 MT (fun x => (mdOf x).fit ∧ (mdOf x).wts) :=
  (OpnB.struct (by kernel_rfl) Tryz.underlying32 (OpnBs.cons opb3 rfl (OpnBs.cons opb3 rfl (OpnBs.cons opb4 rfl (OpnBs.cons opb29 rfl (OpnBs.cons opb30 rfl (OpnBs.cons opb9 rfl (OpnBs.cons opb3 rfl (OpnBs.cons opb4 rfl (OpnBs.one opb4 rfl)))))))))).imp fun x h => by
    have h1 : (mdOf x).fl.size ≤ bulkB ∧ (mdOf x).fd.size ≤ bulkB := h.2.2.2.1
    have h2 : (mdOf x).rc.length ≤ bulkB ∧ ∀ r ∈ (mdOf x).rc, r.1.1.size ≤ bulkB ∧ r.1.2.size ≤ bulkB := h.2.2.2.2.1
    have h3 : (mdOf x).body.size ≤ bulkB := h.2.2.2.2.2.1
    simp only [bulkB] at h1 h2 h3
    refine ⟨⟨⟨by simp only [mid]; omega, fun r hr => ?_, by simp only [big]; omega⟩, by simp only [big]; omega⟩, ⟨by simp only [big]; omega, by simp only [big]; omega⟩, ⟨by simp only [big]; omega, by simp only [big]; omega⟩, fun r hr => ?_⟩
    · have := h2.2 r hr
      simp only [small, mid]; omega
    · have := h2.2 r hr
      simp only [big]; omega
abbrev JT : Ty := .pair (.int .i64) (.pair (.int .i64) (.pair .str (.slice 3 (.int .i64))))
theorem opb36 : OpnB Tryz.prog bulkB 36 JT (fun x => x.2.2.1.size ≤ bulkB ∧ x.2.2.2.length ≤ bulkB) :=
  (OpnB.struct (by kernel_rfl) Tryz.underlying36 (OpnBs.cons opb3 rfl (OpnBs.cons opb3 rfl (OpnBs.cons opb9 rfl (OpnBs.one opb22 rfl))))).imp fun x h => ⟨h.2.2.1, h.2.2.2⟩
theorem opb41 : OpnB Tryz.prog bulkB 41 (.pair .str .bool) (fun x => x.1.size ≤ bulkB) :=
  (OpnB.struct (by kernel_rfl) Tryz.underlying41 (OpnBs.cons opb9 rfl (OpnBs.one opb4 rfl))).imp fun x h => h.1
abbrev SdT : Ty := .pair (.int .i64) (.pair JT (.pair .bool (.pair (.int .i64) (.pair (.int .i64) (.pair (.slice 3 (.int .i64)) (.pair (.slice 3 (.int .i64)) (.pair (.int .i64) (.pair (.pair .str .bool) (.slice 9 .str)))))))))
def sdOf (x : SdT.den) : Sd := ⟨x.1, x.2.1.1, x.2.1.2.1, x.2.1.2.2.1, x.2.1.2.2.2, x.2.2.1, x.2.2.2.1, x.2.2.2.2.1, x.2.2.2.2.2.1, x.2.2.2.2.2.2.1, x.2.2.2.2.2.2.2.1, x.2.2.2.2.2.2.2.2.1.1, x.2.2.2.2.2.2.2.2.1.2, x.2.2.2.2.2.2.2.2.2⟩
def Sd.blk (s : Sd) : Prop := (s.fit ∧ s.txs) ∧ s.rest.size ≤ bulkB
theorem opb43 : OpnB Tryz.prog bulkB 43 SdT (fun x => (sdOf x).blk) :=
  (OpnB.struct (by kernel_rfl) Tryz.underlying43 (OpnBs.cons opb3 rfl (OpnBs.cons opb36 rfl (OpnBs.cons opb4 rfl (OpnBs.cons opb3 rfl (OpnBs.cons opb3 rfl (OpnBs.cons opb22 rfl (OpnBs.cons opb22 rfl (OpnBs.cons opb3 rfl (OpnBs.cons opb41 rfl (OpnBs.one opb25 rfl))))))))))).imp fun x h => by
    have h1 : (sdOf x).dom.size ≤ bulkB ∧ (sdOf x).rc.length ≤ bulkB := h.2.1
    have h2 : (sdOf x).tk.length ≤ bulkB := h.2.2.2.2.2.1
    have h3 : (sdOf x).cd.length ≤ bulkB := h.2.2.2.2.2.2.1
    have h4 : (sdOf x).rest.size ≤ bulkB := h.2.2.2.2.2.2.2.2.1
    have h5 : (sdOf x).ln.length ≤ bulkB ∧ ∀ y ∈ (sdOf x).ln, y.size ≤ bulkB := h.2.2.2.2.2.2.2.2.2
    have hl : ∀ y ∈ (sdOf x).ln, y.size ≤ big := fun y hy => Nat.le_trans (h5.2 y hy) (by decide)
    simp only [bulkB] at h1 h2 h3 h4 h5
    exact ⟨⟨⟨⟨by simp only [big]; omega, by simp only [big]; omega, by simp only [big]; omega, by simp only [big]; omega⟩, by simp only [mid]; omega, by simp only [big]; omega, hl⟩, by simp only [big]; omega, by simp only [big]; omega, hl⟩, h4⟩
theorem opb79 : OpnB Tryz.prog bulkB 79 AT (fun a => (jbOf a).sml ∧ (a.2.2.2.1.size ≤ mid ∧ (a.2.2.1.length ≤ bulkB ∧ Byts a.2.2.1))) :=
  (OpnB.struct (by kernel_rfl) Tryz.underlying79 (OpnBs.cons opb3 rfl (OpnBs.cons opb3 rfl (OpnBs.cons opb37 rfl (OpnBs.cons opb9 rfl (OpnBs.cons opb36 rfl (OpnBs.one opb4 rfl))))))).imp fun a h => by
    have h1 : a.2.2.1.length ≤ bulkB ∧ Byts a.2.2.1 := h.2.2.1
    have h2 : a.2.2.2.1.size ≤ bulkB := h.2.2.2.1
    have h3 : (jbOf a).dom.size ≤ bulkB ∧ (jbOf a).rc.length ≤ bulkB := h.2.2.2.2.1
    have h4 := h1.1
    simp only [bulkB] at h2 h3
    exact ⟨⟨by simp only [big]; omega, by simp only [mid]; omega⟩, by simp only [mid]; omega, h4, h1.2⟩
theorem opb63 : OpnB Tryz.prog bulkB 63 (.slice 79 AT) (fun l => l.length ≤ bulkB ∧ ∀ a ∈ l, (jbOf a).sml ∧ (a.2.2.2.1.size ≤ mid ∧ (a.2.2.1.length ≤ bulkB ∧ Byts a.2.2.1))) := OpnB.slice (by kernel_rfl) Tryz.underlying63 opb79
abbrev ScT : Ty := .pair SdT (.pair MT (.slice 79 AT))
theorem opb65 : OpnB Tryz.prog bulkB 65 ScT (fun x => scO (sdOf x.1) (mdOf x.2.1) x.2.2) :=
  (OpnB.struct (by kernel_rfl) Tryz.underlying65 (OpnBs.cons opb43 rfl (OpnBs.cons opb32 rfl (OpnBs.one opb63 rfl)))).imp fun x h => by
    obtain ⟨⟨h1, h2⟩, h3, h4, h5⟩ := h
    refine ⟨⟨⟨h1, h3⟩, Nat.le_trans h4 (by decide)⟩, fun a ha => ?_⟩
    obtain ⟨a1, a2, a3, a4⟩ := h5 a ha
    exact ⟨a1, a2, by simp only [bulkB] at h2 a3; simp only [big]; omega, a4⟩
end Go.Proofs.YtilagaapfbfkkaaGreatDoor.Ab
