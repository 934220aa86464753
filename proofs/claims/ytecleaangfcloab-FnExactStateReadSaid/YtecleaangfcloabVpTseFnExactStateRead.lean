/- What the sizes, copies and comparisons of FnExactStateRead answer. Lemmas alone, no statement. -/
import Derived.Test.YtecleaangfcloabVtFnExactStateRead
import Derived.Test.YtecleaangfcloabVmTse
namespace Go.Proofs.Ytecleaangfcloab.VtFnExactStateRead
set_option linter.unusedVariables false
set_option linter.unusedSimpArgs false
set_option maxHeartbeats 2000000
open Go Go.Vm

abbrev TyReply : Ty := (.pair (.int .i64) (.pair (.int .i64) .unit))
abbrev TyLast : Ty := (.pair (.int .i64) (.pair (.int .i64) (.pair (.int .i64) (.pair (.int .i64) .unit))))
abbrev TySession : Ty := (.pair (.int .i64) (.pair .bool .unit))
abbrev TyRow : Ty := (.pair (.sl (.int .u8)) (.pair (.sl (.int .u8)) (.pair (.int .i64) (.pair (.int .i64) .unit))))
abbrev TyTomb : Ty := (.pair (.sl (.int .u8)) (.pair (.int .i64) .unit))
abbrev TyState : Ty := (.pair (.int .i64) (.pair (.sl (.pair (.sl (.int .u8)) (.pair (.sl (.int .u8)) (.pair (.int .i64) (.pair (.int .i64) .unit))))) (.pair (.sl (.pair (.sl (.int .u8)) (.pair (.int .i64) .unit))) (.pair (.int .i64) (.pair (.sl (.pair (.int .i64) (.pair .bool .unit))) (.pair (.sl (.pair (.int .i64) (.pair (.int .i64) (.pair (.int .i64) (.pair (.int .i64) .unit))))) .unit))))))
theorem eqReply (k : Nat) : EqF (Lv big (k + 1)) 167 TyReply := by
  intro x hx
  refine level_den rfl rfl ?_ rfl
  unfold ir167
  refine den_let rfl ?_
  refine den_let rfl ?_
  refine den_let rfl ?_
  simp only [List.cons_append, List.nil_append]
  refine den_ite rfl (fun h => ?_) (fun _ => ?_)
  · simp at h
  refine den_let rfl ?_
  refine den_ite rfl (fun h => ?_) (fun _ => ?_)
  · simp at h
  exact den_ret rfl rfl
theorem eqLast (k : Nat) : EqF (Lv big (k + 2)) 151 TyLast := by
  intro x hx
  refine level_den rfl rfl ?_ rfl
  unfold ir151
  refine den_let rfl ?_
  refine den_let rfl ?_
  refine den_let rfl ?_
  simp only [List.cons_append, List.nil_append]
  refine den_ite rfl (fun h => ?_) (fun _ => ?_)
  · simp at h
  refine den_let rfl ?_
  refine den_ite rfl (fun h => ?_) (fun _ => ?_)
  · simp at h
  refine den_let rfl ?_
  simp only [List.cons_append, List.nil_append]
  refine den_let rfl ?_
  refine den_call rfl (eqReply k x.2.2 hx.2.2) rfl ?_
  refine den_let rfl ?_
  refine den_ite rfl (fun h => ?_) (fun _ => ?_)
  · simp at h
  simp only [List.cons_append, List.nil_append]
  exact den_ret rfl rfl
theorem eqLastS (k : Nat) : EqF (Lv big (k + 3)) 88 (.sl TyLast) := by
  intro l hl
  exact level_den rfl rfl (eqSl ⟨rfl, fun _ => rfl⟩ (eqLast k) l hl) rfl
theorem eqSession (k : Nat) : EqF (Lv big (k + 1)) 150 TySession := by
  intro x hx
  refine level_den rfl rfl ?_ rfl
  unfold ir150
  refine den_let rfl ?_
  refine den_let rfl ?_
  refine den_let rfl ?_
  simp only [List.cons_append, List.nil_append]
  refine den_ite rfl (fun h => ?_) (fun _ => ?_)
  · simp at h
  refine den_let rfl ?_
  refine den_ite rfl (fun h => ?_) (fun _ => ?_)
  · simp at h
  exact den_ret rfl rfl
theorem eqSessionS (k : Nat) : EqF (Lv big (k + 2)) 87 (.sl TySession) := by
  intro l hl
  exact level_den rfl rfl (eqSl ⟨rfl, fun _ => rfl⟩ (eqSession k) l hl) rfl
theorem eqByteS (k : Nat) : EqF (Lv big (k + 1)) 13 (.sl (.int .u8)) := by
  intro l hl
  exact level_den rfl rfl (eqSlA rfl rfl (fun y => by first | (show some (B (decide ((y : Int) ≠ y))) = some (B false); simp; done) | (show some (B ((y : Int) != y)) = some (B false); simp; done) | (simp [evX]; done)) l hl) rfl
theorem eqRow (k : Nat) : EqF (Lv big (k + 2)) 148 TyRow := by
  intro x hx
  refine level_den rfl rfl ?_ rfl
  unfold ir148
  refine den_let rfl ?_
  refine den_let rfl ?_
  refine den_call rfl (eqByteS k x.1 hx.1) rfl ?_
  simp only [List.cons_append, List.nil_append]
  refine den_let rfl ?_
  refine den_ite rfl (fun h => ?_) (fun _ => ?_)
  · simp at h
  refine den_call rfl (eqByteS k x.2.1 hx.2.1) rfl ?_
  refine den_let rfl ?_
  simp only [List.cons_append, List.nil_append]
  refine den_ite rfl (fun h => ?_) (fun _ => ?_)
  · simp at h
  refine den_let rfl ?_
  refine den_ite rfl (fun h => ?_) (fun _ => ?_)
  · simp at h
  refine den_let rfl ?_
  simp only [List.cons_append, List.nil_append]
  refine den_ite rfl (fun h => ?_) (fun _ => ?_)
  · simp at h
  exact den_ret rfl rfl
theorem eqRowS (k : Nat) : EqF (Lv big (k + 3)) 85 (.sl TyRow) := by
  intro l hl
  exact level_den rfl rfl (eqSl ⟨rfl, fun _ => rfl⟩ (eqRow k) l hl) rfl
theorem toByteS (k : Nat) : ToF (Lv big (k + 1)) 10 (.sl (.int .u8)) := by
  intro l hl
  exact level_den rfl rfl (toSlA rfl rfl (fun _ => rfl) l hl) rfl
theorem eqTomb (k : Nat) : EqF (Lv big (k + 2)) 149 TyTomb := by
  intro x hx
  refine level_den rfl rfl ?_ rfl
  unfold ir149
  refine den_let rfl ?_
  refine den_let rfl ?_
  refine den_call rfl (eqByteS k x.1 hx.1) rfl ?_
  simp only [List.cons_append, List.nil_append]
  refine den_let rfl ?_
  refine den_ite rfl (fun h => ?_) (fun _ => ?_)
  · simp at h
  refine den_let rfl ?_
  refine den_ite rfl (fun h => ?_) (fun _ => ?_)
  · simp at h
  simp only [List.cons_append, List.nil_append]
  exact den_ret rfl rfl
theorem eqTombS (k : Nat) : EqF (Lv big (k + 3)) 86 (.sl TyTomb) := by
  intro l hl
  exact level_den rfl rfl (eqSl ⟨rfl, fun _ => rfl⟩ (eqTomb k) l hl) rfl
theorem eqState (k : Nat) : EqF (Lv big (k + 4)) 31 TyState := by
  intro x hx
  refine level_den rfl rfl ?_ rfl
  unfold ir31
  refine den_let rfl ?_
  refine den_let rfl ?_
  refine den_let rfl ?_
  simp only [List.cons_append, List.nil_append]
  refine den_ite rfl (fun h => ?_) (fun _ => ?_)
  · simp at h
  refine den_call rfl (eqRowS k x.2.1 hx.2.1) rfl ?_
  refine den_let rfl ?_
  refine den_ite rfl (fun h => ?_) (fun _ => ?_)
  · simp at h
  simp only [List.cons_append, List.nil_append]
  refine den_call rfl (eqTombS k x.2.2.1 hx.2.2.1) rfl ?_
  refine den_let rfl ?_
  refine den_ite rfl (fun h => ?_) (fun _ => ?_)
  · simp at h
  refine den_let rfl ?_
  simp only [List.cons_append, List.nil_append]
  refine den_ite rfl (fun h => ?_) (fun _ => ?_)
  · simp at h
  refine den_call rfl (eqSessionS (k + 1) x.2.2.2.2.1 hx.2.2.2.2.1) rfl ?_
  refine den_let rfl ?_
  refine den_ite rfl (fun h => ?_) (fun _ => ?_)
  · simp at h
  simp only [List.cons_append, List.nil_append]
  refine den_call rfl (eqLastS k x.2.2.2.2.2.1 hx.2.2.2.2.2.1) rfl ?_
  refine den_let rfl ?_
  refine den_ite rfl (fun h => ?_) (fun _ => ?_)
  · simp at h
  exact den_ret rfl rfl
end Go.Proofs.Ytecleaangfcloab.VtFnExactStateRead
