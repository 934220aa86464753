/- What the arguments of the law FnExactMerge are, whatever they are: opened. And what is to be proved of numbers and lists. -/
import Derived.Test.YtigoajblljolcaaTFnExactMerge
import Derived.Test.YtigoajblljolcaaXFnExactMergex
import Derived.KernelRfl
namespace Go.Proofs.Ytigoajblljolcaa.AFnExactMerge
open Go.RowKit Go.Proofs.Ytigoajblljolcaa.Open Go.Proofs.YtigoajblljolcaaW.PrintWords Go.Proofs.YtigoajblljolcaaW.PrintLast Go.Proofs.Ytigoajblljolcaa.XFnExactMerge
set_option linter.unusedVariables false
set_option linter.unusedSimpArgs false
def wf80 (x : S80) : Prop := ((Lit.int .i64 x.f0).wf = true) ∧ ((Lit.int .i64 x.f1).wf = true) ∧ ((Lit.int .i64 x.f2).wf = true)
theorem cells3 : Try.prog.cellsOf 3 = 1 := by kernel_rfl
theorem cells80 : Try.prog.cellsOf 80 = 3 := by kernel_rfl
theorem open80 {H : Type} {enc : TypeId × Value → H} {W : World} : Opens enc Try.prog W 80 (fun cs => ∃ (a0 : Int) (a1 : Int) (a2 : Int), cs = [.int .i64 a0, .int .i64 a1, .int .i64 a2] ∧ (Lit.int .i64 a0).wf = true ∧ (Lit.int .i64 a1).wf = true ∧ (Lit.int .i64 a2).wf = true) := by
  refine Opens.struct Try.underlying80 fun cs hl h => ?_
  obtain ⟨z0, z1, z2, rfl⟩ := list3 (hl.trans cells80)
  have h0 := h 0 3 0 1 rfl cells3 _ (Opens.int Try.underlying3)
  simp only [List.drop_succ_cons, List.drop_zero, List.take_succ_cons, List.take_zero] at h0
  obtain ⟨a0, e0, w0⟩ := h0
  obtain rfl := (List.cons.inj e0).1
  have h1 := h 1 3 1 1 rfl cells3 _ (Opens.int Try.underlying3)
  simp only [List.drop_succ_cons, List.drop_zero, List.take_succ_cons, List.take_zero] at h1
  obtain ⟨a1, e1, w1⟩ := h1
  obtain rfl := (List.cons.inj e1).1
  have h2 := h 2 3 2 1 rfl cells3 _ (Opens.int Try.underlying3)
  simp only [List.drop_succ_cons, List.drop_zero, List.take_succ_cons, List.take_zero] at h2
  obtain ⟨a2, e2, w2⟩ := h2
  obtain rfl := (List.cons.inj e2).1
  exact ⟨a0, a1, a2, rfl, w0, w1, w2⟩
theorem open35 {H : Type} {enc : TypeId × Value → H} {W : World} : Opens enc Try.prog W 35 (fun cs => ∃ (A0 : Option Addr) (c0 : Nat) (l0 : List (S80)), cs = [.slice A0 l0.length c0] ∧ l0.length ≤ c0 ∧ Kd.C k80 W A0 l0.length l0 ∧ l0.length ≤ 9223372036854775807 ∧ (∀ y ∈ l0, wf80 y)) :=
  Opens.slice (d := k80) (wf := fun y => wf80 y) Try.underlying35 cells80 (open80.imp fun cs ⟨a0, a1, a2, h, w0, w1, w2⟩ => ⟨(⟨a0, a1, a2⟩ : S80), h ▸ k80_mk W _ , ⟨w0, w1, w2⟩⟩)
theorem cells35 : Try.prog.cellsOf 35 = 1 := by kernel_rfl
theorem cells37 : Try.prog.cellsOf 37 = 2 := by kernel_rfl
theorem open37 {H : Type} {enc : TypeId × Value → H} {W : World} : Opens enc Try.prog W 37 (fun cs => ∃ (a0 : Int) (A1 : Option Addr) (c1 : Nat) (l1 : List (S80)), cs = [.int .i64 a0, .slice A1 l1.length c1] ∧ (Lit.int .i64 a0).wf = true ∧ l1.length ≤ c1 ∧ Kd.C k80 W A1 l1.length l1 ∧ l1.length ≤ 9223372036854775807 ∧ (∀ y ∈ l1, wf80 y)) := by
  refine Opens.struct Try.underlying37 fun cs hl h => ?_
  obtain ⟨z0, z1, rfl⟩ := list2 (hl.trans cells37)
  have h0 := h 0 3 0 1 rfl cells3 _ (Opens.int Try.underlying3)
  simp only [List.drop_succ_cons, List.drop_zero, List.take_succ_cons, List.take_zero] at h0
  obtain ⟨a0, e0, w0⟩ := h0
  obtain rfl := (List.cons.inj e0).1
  have h1 := h 1 35 1 1 rfl cells35 _ open35
  simp only [List.drop_succ_cons, List.drop_zero, List.take_succ_cons, List.take_zero] at h1
  obtain ⟨A1, c1, l1, e1, hc1, hr1, hn1, hw1⟩ := h1
  obtain rfl := (List.cons.inj e1).1
  exact ⟨a0, A1, c1, l1, rfl, w0, hc1, hr1, hn1, hw1⟩
/-- What is left to prove: numbers and lists alone, no memory. -/
def Stmt : Prop := ∀ (a0_0 : Int) (l0_1 : List (S80)) (a1_0 : Int) (l1_1 : List (S80)), (Lit.int .i64 a0_0).wf = true → l0_1.length ≤ 9223372036854775807 → (∀ y ∈ l0_1, wf80 y) → (Lit.int .i64 a1_0).wf = true → l1_1.length ≤ 9223372036854775807 → (∀ y ∈ l1_1, wf80 y) → ∃ k, laws_FnExactMerge.f k a0_0 l0_1 a1_0 l1_1 = some true
end Go.Proofs.Ytigoajblljolcaa.AFnExactMerge
