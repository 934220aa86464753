/- What the arguments of the law FnExactHelpers are, whatever they are: opened. And what is to be proved of numbers and lists. -/
import Derived.Test.YtigoajblljolcaaTFnExactHelpers
import Derived.Test.YtigoajblljolcaaXFnExactHelpersx
import Derived.KernelRfl
namespace Go.Proofs.Ytigoajblljolcaa.AFnExactHelpers
open Go.RowKit Go.Proofs.Ytigoajblljolcaa.Open Go.Proofs.YtigoajblljolcaaW.PrintWords Go.Proofs.YtigoajblljolcaaW.PrintLast Go.Proofs.Ytigoajblljolcaa.XFnExactHelpers
set_option linter.unusedVariables false
set_option linter.unusedSimpArgs false
theorem cells3 : Try.prog.cellsOf 3 = 1 := by kernel_rfl
theorem open63 {H : Type} {enc : TypeId × Value → H} {W : World} : Opens enc Try.prog W 63 (fun cs => ∃ (A0 : Option Addr) (c0 : Nat) (l0 : List Int), cs = [.slice A0 l0.length c0] ∧ l0.length ≤ c0 ∧ Kd.C (Kd.int .i64) W A0 l0.length l0 ∧ l0.length ≤ 9223372036854775807 ∧ (∀ y ∈ l0, (Lit.int .i64 y).wf = true)) :=
  Opens.slice (d := (Kd.int .i64)) (wf := fun y => (Lit.int .i64 y).wf = true) Try.underlying63 cells3 ((Opens.int Try.underlying3).imp fun cs ⟨n, h, w⟩ => ⟨n, h, w⟩)
theorem cells63 : Try.prog.cellsOf 63 = 1 := by kernel_rfl
theorem cells88 : Try.prog.cellsOf 88 = 6 := by kernel_rfl
theorem open88 {H : Type} {enc : TypeId × Value → H} {W : World} : Opens enc Try.prog W 88 (fun cs => ∃ (A0 : Option Addr) (c0 : Nat) (l0 : List Int) (a1 : Int) (a2 : Int) (a3 : Int) (a4 : Int) (a5 : Int), cs = [.slice A0 l0.length c0, .int .i64 a1, .int .i64 a2, .int .i64 a3, .int .i64 a4, .int .i64 a5] ∧ l0.length ≤ c0 ∧ Kd.C (Kd.int .i64) W A0 l0.length l0 ∧ l0.length ≤ 9223372036854775807 ∧ (∀ y ∈ l0, (Lit.int .i64 y).wf = true) ∧ (Lit.int .i64 a1).wf = true ∧ (Lit.int .i64 a2).wf = true ∧ (Lit.int .i64 a3).wf = true ∧ (Lit.int .i64 a4).wf = true ∧ (Lit.int .i64 a5).wf = true) := by
  refine Opens.struct Try.underlying88 fun cs hl h => ?_
  obtain ⟨z0, z1, z2, z3, z4, z5, rfl⟩ := list6 (hl.trans cells88)
  have h0 := h 0 63 0 1 rfl cells63 _ open63
  simp only [List.drop_succ_cons, List.drop_zero, List.take_succ_cons, List.take_zero] at h0
  obtain ⟨A0, c0, l0, e0, hc0, hr0, hn0, hw0⟩ := h0
  obtain rfl := (List.cons.inj e0).1
  have h1 := h 1 3 1 1 rfl cells3 _ (Opens.int Try.underlying3)
  simp only [List.drop_succ_cons, List.drop_zero, List.take_succ_cons, List.take_zero] at h1
  obtain ⟨a1, e1, w1⟩ := h1
  obtain rfl := (List.cons.inj e1).1
  have h2 := h 2 3 2 1 rfl cells3 _ (Opens.int Try.underlying3)
  simp only [List.drop_succ_cons, List.drop_zero, List.take_succ_cons, List.take_zero] at h2
  obtain ⟨a2, e2, w2⟩ := h2
  obtain rfl := (List.cons.inj e2).1
  have h3 := h 3 3 3 1 rfl cells3 _ (Opens.int Try.underlying3)
  simp only [List.drop_succ_cons, List.drop_zero, List.take_succ_cons, List.take_zero] at h3
  obtain ⟨a3, e3, w3⟩ := h3
  obtain rfl := (List.cons.inj e3).1
  have h4 := h 4 3 4 1 rfl cells3 _ (Opens.int Try.underlying3)
  simp only [List.drop_succ_cons, List.drop_zero, List.take_succ_cons, List.take_zero] at h4
  obtain ⟨a4, e4, w4⟩ := h4
  obtain rfl := (List.cons.inj e4).1
  have h5 := h 5 3 5 1 rfl cells3 _ (Opens.int Try.underlying3)
  simp only [List.drop_succ_cons, List.drop_zero, List.take_succ_cons, List.take_zero] at h5
  obtain ⟨a5, e5, w5⟩ := h5
  obtain rfl := (List.cons.inj e5).1
  exact ⟨A0, c0, l0, a1, a2, a3, a4, a5, rfl, hc0, hr0, hn0, hw0, w1, w2, w3, w4, w5⟩
def wf80 (x : S80) : Prop := ((Lit.int .i64 x.f0).wf = true) ∧ ((Lit.int .i64 x.f1).wf = true) ∧ ((Lit.int .i64 x.f2).wf = true)
theorem cells80 : Try.prog.cellsOf 80 = 3 := by kernel_rfl
theorem open80 {H : Type} {enc : TypeId × Value → H} {W : World} : Opens enc Try.prog W 80 (fun cs => ∃ (a0 : Int) (a1 : Int) (a2 : Int), cs = [.int .i64 a0, .int .i64 a1, .int .i64 a2] ∧ (Lit.int .i64 a0).wf = true ∧ (Lit.int .i64 a1).wf = true ∧ (Lit.int .i64 a2).wf = true) := by
  refine Opens.struct Try.underlying80 fun cs hl h => ?_
  obtain ⟨z0, z1, z2, rfl⟩ := list3 (hl.trans cells80)
  have h0 := h 0 3 0 1 rfl cells3 _ (Opens.int Try.underlying3)
  simp only [List.drop_succ_cons, List.drop_zero, List.take_succ_cons, List.take_zero] at h0
  obtain ⟨a0, e0, w0⟩ := h0
  obtain rfl := (List.cons.inj e0).1
  have h1 := h 1 3 1 1 rfl cells3 _ (Opens.int Try.underlying3)
  simp only [List.drop_succ_cons, List.drop_zero, List.take_succ_cons, List.take_zero] at h1
  obtain ⟨a1, e1, w1⟩ := h1
  obtain rfl := (List.cons.inj e1).1
  have h2 := h 2 3 2 1 rfl cells3 _ (Opens.int Try.underlying3)
  simp only [List.drop_succ_cons, List.drop_zero, List.take_succ_cons, List.take_zero] at h2
  obtain ⟨a2, e2, w2⟩ := h2
  obtain rfl := (List.cons.inj e2).1
  exact ⟨a0, a1, a2, rfl, w0, w1, w2⟩
theorem open35 {H : Type} {enc : TypeId × Value → H} {W : World} : Opens enc Try.prog W 35 (fun cs => ∃ (A0 : Option Addr) (c0 : Nat) (l0 : List (S80)), cs = [.slice A0 l0.length c0] ∧ l0.length ≤ c0 ∧ Kd.C k80 W A0 l0.length l0 ∧ l0.length ≤ 9223372036854775807 ∧ (∀ y ∈ l0, wf80 y)) :=
  Opens.slice (d := k80) (wf := fun y => wf80 y) Try.underlying35 cells80 (open80.imp fun cs ⟨a0, a1, a2, h, w0, w1, w2⟩ => ⟨(⟨a0, a1, a2⟩ : S80), h ▸ k80_mk W _ , ⟨w0, w1, w2⟩⟩)
theorem cells35 : Try.prog.cellsOf 35 = 1 := by kernel_rfl
theorem cells37 : Try.prog.cellsOf 37 = 2 := by kernel_rfl
theorem open37 {H : Type} {enc : TypeId × Value → H} {W : World} : Opens enc Try.prog W 37 (fun cs => ∃ (a0 : Int) (A1 : Option Addr) (c1 : Nat) (l1 : List (S80)), cs = [.int .i64 a0, .slice A1 l1.length c1] ∧ (Lit.int .i64 a0).wf = true ∧ l1.length ≤ c1 ∧ Kd.C k80 W A1 l1.length l1 ∧ l1.length ≤ 9223372036854775807 ∧ (∀ y ∈ l1, wf80 y)) := by
  refine Opens.struct Try.underlying37 fun cs hl h => ?_
  obtain ⟨z0, z1, rfl⟩ := list2 (hl.trans cells37)
  have h0 := h 0 3 0 1 rfl cells3 _ (Opens.int Try.underlying3)
  simp only [List.drop_succ_cons, List.drop_zero, List.take_succ_cons, List.take_zero] at h0
  obtain ⟨a0, e0, w0⟩ := h0
  obtain rfl := (List.cons.inj e0).1
  have h1 := h 1 35 1 1 rfl cells35 _ open35
  simp only [List.drop_succ_cons, List.drop_zero, List.take_succ_cons, List.take_zero] at h1
  obtain ⟨A1, c1, l1, e1, hc1, hr1, hn1, hw1⟩ := h1
  obtain rfl := (List.cons.inj e1).1
  exact ⟨a0, A1, c1, l1, rfl, w0, hc1, hr1, hn1, hw1⟩
/-- What is left to prove: numbers and lists alone, no memory. -/
def Stmt : Prop := ∀ (l0_0 : List Int) (a0_1 : Int) (a0_2 : Int) (a0_3 : Int) (a0_4 : Int) (a0_5 : Int) (a1_0 : Int) (l1_1 : List (S80)) (a2 : Int), l0_0.length ≤ 9223372036854775807 → (∀ y ∈ l0_0, (Lit.int .i64 y).wf = true) → (Lit.int .i64 a0_1).wf = true → (Lit.int .i64 a0_2).wf = true → (Lit.int .i64 a0_3).wf = true → (Lit.int .i64 a0_4).wf = true → (Lit.int .i64 a0_5).wf = true → (Lit.int .i64 a1_0).wf = true → l1_1.length ≤ 9223372036854775807 → (∀ y ∈ l1_1, wf80 y) → (Lit.int .i64 a2).wf = true → ∃ k, laws_FnExactHelpers.f k l0_0 a0_1 a0_2 a0_3 a0_4 a0_5 a1_0 l1_1 a2 = some true
end Go.Proofs.Ytigoajblljolcaa.AFnExactHelpers
