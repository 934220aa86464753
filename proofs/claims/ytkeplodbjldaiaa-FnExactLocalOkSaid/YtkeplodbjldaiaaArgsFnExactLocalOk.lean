/- What the arguments of the law FnExactLocalOk are, whatever they are: opened. And what is to be proved of numbers and lists. -/
import Derived.Test.YtkeplodbjldaiaaOpen
import Derived.Test.YtkeplodbjldaiaaXFnExactLocalOkx
import Derived.KernelRfl
namespace Go.Proofs.Ytkeplodbjldaiaa.AFnExactLocalOk
open Go.RowKit Go.Proofs.Ytkeplodbjldaiaa.Open Go.Proofs.YtkeplodbjldaiaaW.PrintWords Go.Proofs.YtkeplodbjldaiaaW.PrintLast Go.Proofs.Ytkeplodbjldaiaa.XFnExactLocalOk
set_option linter.unusedVariables false
set_option linter.unusedSimpArgs false
theorem cells5 : Try.prog.cellsOf 5 = 1 := by kernel_rfl
theorem open22 {H : Type} {enc : TypeId × Value → H} {W : World} : Opens enc Try.prog W 22 (fun cs => ∃ (A0 : Option Addr) (c0 : Nat) (l0 : List Int), cs = [.slice A0 l0.length c0] ∧ l0.length ≤ c0 ∧ Kd.C (Kd.int .u8) W A0 l0.length l0 ∧ l0.length ≤ 9223372036854775807 ∧ (∀ y ∈ l0, (Lit.int .u8 y).wf = true)) :=
  Opens.slice (d := (Kd.int .u8)) (wf := fun y => (Lit.int .u8 y).wf = true) Try.underlying22 cells5 ((Opens.int Try.underlying5).imp fun cs ⟨n, h, w⟩ => ⟨n, h, w⟩)
def wf82 (x : S82) : Prop := (x.f0.length ≤ 9223372036854775807 ∧ ∀ y ∈ x.f0, (Lit.int .u8 y).wf = true) ∧ ((Lit.int .i64 x.f1).wf = true) ∧ ((Lit.int .i64 x.f2).wf = true) ∧ ((Lit.int .i64 x.f3).wf = true) ∧ ((Lit.int .i64 x.f4).wf = true) ∧ ((Lit.int .i64 x.f5).wf = true)
def wf64 (x : S64) : Prop := (x.f0.length ≤ 9223372036854775807 ∧ ∀ y ∈ x.f0, (Lit.int .u8 y).wf = true) ∧ (x.f1.length ≤ 9223372036854775807 ∧ ∀ y ∈ x.f1, wf82 y)
theorem cells22 : Try.prog.cellsOf 22 = 1 := by kernel_rfl
theorem cells3 : Try.prog.cellsOf 3 = 1 := by kernel_rfl
theorem cells82 : Try.prog.cellsOf 82 = 6 := by kernel_rfl
theorem open82 {H : Type} {enc : TypeId × Value → H} {W : World} : Opens enc Try.prog W 82 (fun cs => ∃ (A0 : Option Addr) (c0 : Nat) (l0 : List Int) (a1 : Int) (a2 : Int) (a3 : Int) (a4 : Int) (a5 : Int), cs = [.slice A0 l0.length c0, .int .i64 a1, .int .i64 a2, .int .i64 a3, .int .i64 a4, .int .i64 a5] ∧ l0.length ≤ c0 ∧ Kd.C (Kd.int .u8) W A0 l0.length l0 ∧ l0.length ≤ 9223372036854775807 ∧ (∀ y ∈ l0, (Lit.int .u8 y).wf = true) ∧ (Lit.int .i64 a1).wf = true ∧ (Lit.int .i64 a2).wf = true ∧ (Lit.int .i64 a3).wf = true ∧ (Lit.int .i64 a4).wf = true ∧ (Lit.int .i64 a5).wf = true) := by
  refine Opens.struct Try.underlying82 fun cs hl h => ?_
  obtain ⟨z0, z1, z2, z3, z4, z5, rfl⟩ := list6 (hl.trans cells82)
  have h0 := h 0 22 0 1 rfl cells22 _ open22
  simp only [List.drop_succ_cons, List.drop_zero, List.take_succ_cons, List.take_zero] at h0
  obtain ⟨A0, c0, l0, e0, hc0, hr0, hn0, hw0⟩ := h0
  obtain rfl := (List.cons.inj e0).1
  have h1 := h 1 3 1 1 rfl cells3 _ (Opens.int Try.underlying3)
  simp only [List.drop_succ_cons, List.drop_zero, List.take_succ_cons, List.take_zero] at h1
  obtain ⟨a1, e1, w1⟩ := h1
  obtain rfl := (List.cons.inj e1).1
  have h2 := h 2 3 2 1 rfl cells3 _ (Opens.int Try.underlying3)
  simp only [List.drop_succ_cons, List.drop_zero, List.take_succ_cons, List.take_zero] at h2
  obtain ⟨a2, e2, w2⟩ := h2
  obtain rfl := (List.cons.inj e2).1
  have h3 := h 3 3 3 1 rfl cells3 _ (Opens.int Try.underlying3)
  simp only [List.drop_succ_cons, List.drop_zero, List.take_succ_cons, List.take_zero] at h3
  obtain ⟨a3, e3, w3⟩ := h3
  obtain rfl := (List.cons.inj e3).1
  have h4 := h 4 3 4 1 rfl cells3 _ (Opens.int Try.underlying3)
  simp only [List.drop_succ_cons, List.drop_zero, List.take_succ_cons, List.take_zero] at h4
  obtain ⟨a4, e4, w4⟩ := h4
  obtain rfl := (List.cons.inj e4).1
  have h5 := h 5 3 5 1 rfl cells3 _ (Opens.int Try.underlying3)
  simp only [List.drop_succ_cons, List.drop_zero, List.take_succ_cons, List.take_zero] at h5
  obtain ⟨a5, e5, w5⟩ := h5
  obtain rfl := (List.cons.inj e5).1
  exact ⟨A0, c0, l0, a1, a2, a3, a4, a5, rfl, hc0, hr0, hn0, hw0, w1, w2, w3, w4, w5⟩
theorem open62 {H : Type} {enc : TypeId × Value → H} {W : World} : Opens enc Try.prog W 62 (fun cs => ∃ (A0 : Option Addr) (c0 : Nat) (l0 : List (S82)), cs = [.slice A0 l0.length c0] ∧ l0.length ≤ c0 ∧ Kd.C k82 W A0 l0.length l0 ∧ l0.length ≤ 9223372036854775807 ∧ (∀ y ∈ l0, wf82 y)) :=
  Opens.slice (d := k82) (wf := fun y => wf82 y) Try.underlying62 cells82 (open82.imp fun cs ⟨A0, c0, l0, a1, a2, a3, a4, a5, h, hc0, hr0, hn0, hw0, w1, w2, w3, w4, w5⟩ => ⟨(⟨l0, a1, a2, a3, a4, a5⟩ : S82), h ▸ k82_mk W _ hc0 hr0, ⟨⟨hn0, hw0⟩, w1, w2, w3, w4, w5⟩⟩)
theorem cells62 : Try.prog.cellsOf 62 = 1 := by kernel_rfl
theorem cells64 : Try.prog.cellsOf 64 = 2 := by kernel_rfl
theorem open64 {H : Type} {enc : TypeId × Value → H} {W : World} : Opens enc Try.prog W 64 (fun cs => ∃ (A0 : Option Addr) (c0 : Nat) (l0 : List Int) (A1 : Option Addr) (c1 : Nat) (l1 : List (S82)), cs = [.slice A0 l0.length c0, .slice A1 l1.length c1] ∧ l0.length ≤ c0 ∧ Kd.C (Kd.int .u8) W A0 l0.length l0 ∧ l0.length ≤ 9223372036854775807 ∧ (∀ y ∈ l0, (Lit.int .u8 y).wf = true) ∧ l1.length ≤ c1 ∧ Kd.C k82 W A1 l1.length l1 ∧ l1.length ≤ 9223372036854775807 ∧ (∀ y ∈ l1, wf82 y)) := by
  refine Opens.struct Try.underlying64 fun cs hl h => ?_
  obtain ⟨z0, z1, rfl⟩ := list2 (hl.trans cells64)
  have h0 := h 0 22 0 1 rfl cells22 _ open22
  simp only [List.drop_succ_cons, List.drop_zero, List.take_succ_cons, List.take_zero] at h0
  obtain ⟨A0, c0, l0, e0, hc0, hr0, hn0, hw0⟩ := h0
  obtain rfl := (List.cons.inj e0).1
  have h1 := h 1 62 1 1 rfl cells62 _ open62
  simp only [List.drop_succ_cons, List.drop_zero, List.take_succ_cons, List.take_zero] at h1
  obtain ⟨A1, c1, l1, e1, hc1, hr1, hn1, hw1⟩ := h1
  obtain rfl := (List.cons.inj e1).1
  exact ⟨A0, c0, l0, A1, c1, l1, rfl, hc0, hr0, hn0, hw0, hc1, hr1, hn1, hw1⟩
theorem open23 {H : Type} {enc : TypeId × Value → H} {W : World} : Opens enc Try.prog W 23 (fun cs => ∃ (A0 : Option Addr) (c0 : Nat) (l0 : List (S64)), cs = [.slice A0 l0.length c0] ∧ l0.length ≤ c0 ∧ Kd.C k64 W A0 l0.length l0 ∧ l0.length ≤ 9223372036854775807 ∧ (∀ y ∈ l0, wf64 y)) :=
  Opens.slice (d := k64) (wf := fun y => wf64 y) Try.underlying23 cells64 (open64.imp fun cs ⟨A0, c0, l0, A1, c1, l1, h, hc0, hr0, hn0, hw0, hc1, hr1, hn1, hw1⟩ => ⟨(⟨l0, l1⟩ : S64), h ▸ k64_mk W _ hc0 hr0 hc1 hr1, ⟨⟨hn0, hw0⟩, ⟨hn1, hw1⟩⟩⟩)
theorem cells23 : Try.prog.cellsOf 23 = 1 := by kernel_rfl
theorem cells25 : Try.prog.cellsOf 25 = 2 := by kernel_rfl
theorem open25 {H : Type} {enc : TypeId × Value → H} {W : World} : Opens enc Try.prog W 25 (fun cs => ∃ (A0 : Option Addr) (c0 : Nat) (l0 : List Int) (A1 : Option Addr) (c1 : Nat) (l1 : List (S64)), cs = [.slice A0 l0.length c0, .slice A1 l1.length c1] ∧ l0.length ≤ c0 ∧ Kd.C (Kd.int .u8) W A0 l0.length l0 ∧ l0.length ≤ 9223372036854775807 ∧ (∀ y ∈ l0, (Lit.int .u8 y).wf = true) ∧ l1.length ≤ c1 ∧ Kd.C k64 W A1 l1.length l1 ∧ l1.length ≤ 9223372036854775807 ∧ (∀ y ∈ l1, wf64 y)) := by
  refine Opens.struct Try.underlying25 fun cs hl h => ?_
  obtain ⟨z0, z1, rfl⟩ := list2 (hl.trans cells25)
  have h0 := h 0 22 0 1 rfl cells22 _ open22
  simp only [List.drop_succ_cons, List.drop_zero, List.take_succ_cons, List.take_zero] at h0
  obtain ⟨A0, c0, l0, e0, hc0, hr0, hn0, hw0⟩ := h0
  obtain rfl := (List.cons.inj e0).1
  have h1 := h 1 23 1 1 rfl cells23 _ open23
  simp only [List.drop_succ_cons, List.drop_zero, List.take_succ_cons, List.take_zero] at h1
  obtain ⟨A1, c1, l1, e1, hc1, hr1, hn1, hw1⟩ := h1
  obtain rfl := (List.cons.inj e1).1
  exact ⟨A0, c0, l0, A1, c1, l1, rfl, hc0, hr0, hn0, hw0, hc1, hr1, hn1, hw1⟩
/-- What is left to prove: numbers and lists alone, no memory. -/
def Stmt : Prop := ∀ (l0_0 : List Int) (l0_1 : List (S64)), l0_0.length ≤ 9223372036854775807 → (∀ y ∈ l0_0, (Lit.int .u8 y).wf = true) → l0_1.length ≤ 9223372036854775807 → (∀ y ∈ l0_1, wf64 y) → ∃ k, laws_FnExactLocalOk.f k l0_0 l0_1 = some true
end Go.Proofs.Ytkeplodbjldaiaa.AFnExactLocalOk
