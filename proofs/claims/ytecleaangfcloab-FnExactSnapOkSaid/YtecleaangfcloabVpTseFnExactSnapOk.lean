/- What the sizes, copies and comparisons of FnExactSnapOk answer. Lemmas alone, no statement. -/
import Derived.Test.YtecleaangfcloabVtFnExactSnapOk
import Derived.Test.YtecleaangfcloabVmTse
namespace Go.Proofs.Ytecleaangfcloab.VtFnExactSnapOk
set_option linter.unusedVariables false
set_option linter.unusedSimpArgs false
set_option maxHeartbeats 2000000
open Go Go.Vm

abbrev TyReply : Ty := (.pair (.int .i64) (.pair (.int .i64) .unit))
abbrev TyLast : Ty := (.pair (.int .i64) (.pair (.int .i64) (.pair (.int .i64) (.pair (.int .i64) .unit))))
abbrev TySession : Ty := (.pair (.int .i64) (.pair .bool .unit))
abbrev TyRow : Ty := (.pair (.sl (.int .u8)) (.pair (.sl (.int .u8)) (.pair (.int .i64) (.pair (.int .i64) .unit))))
abbrev TyOp : Ty := (.pair (.int .i64) (.pair (.sl (.int .u8)) (.pair (.sl (.int .u8)) (.pair (.int .i64) .unit))))
abbrev TyCmd : Ty := (.pair (.int .i64) (.pair (.int .i64) (.pair (.int .i64) (.pair (.sl (.int .u8)) (.pair (.sl (.int .u8)) (.pair (.int .i64) .unit))))))
abbrev TyTomb : Ty := (.pair (.sl (.int .u8)) (.pair (.int .i64) .unit))
abbrev TyState : Ty := (.pair (.int .i64) (.pair (.sl (.pair (.sl (.int .u8)) (.pair (.sl (.int .u8)) (.pair (.int .i64) (.pair (.int .i64) .unit))))) (.pair (.sl (.pair (.sl (.int .u8)) (.pair (.int .i64) .unit))) (.pair (.int .i64) (.pair (.sl (.pair (.int .i64) (.pair .bool .unit))) (.pair (.sl (.pair (.int .i64) (.pair (.int .i64) (.pair (.int .i64) (.pair (.int .i64) .unit))))) .unit))))))
abbrev TySnap : Ty := (.pair (.int .i64) (.pair (.sl (.pair (.sl (.int .u8)) (.pair (.sl (.int .u8)) (.pair (.int .i64) (.pair (.int .i64) .unit))))) (.pair (.sl (.pair (.sl (.int .u8)) (.pair (.int .i64) .unit))) (.pair (.int .i64) (.pair (.sl (.pair (.int .i64) (.pair .bool .unit))) (.pair (.sl (.pair (.int .i64) (.pair (.int .i64) (.pair (.int .i64) (.pair (.int .i64) .unit))))) (.pair (.sl (.pair (.int .i64) (.pair (.int .i64) (.pair (.int .i64) (.pair (.sl (.int .u8)) (.pair (.sl (.int .u8)) (.pair (.int .i64) .unit))))))) .unit)))))))
theorem eqReply (k : Nat) : EqF (Lv big (k + 1)) 167 TyReply := by
  intro x hx
  refine level_den rfl rfl ?_ rfl
  unfold ir167
  refine den_let rfl ?_
  refine den_let rfl ?_
  refine den_let rfl ?_
  simp only [List.cons_append, List.nil_append]
  refine den_ite rfl (fun h => ?_) (fun _ => ?_)
  · simp at h
  refine den_let rfl ?_
  refine den_ite rfl (fun h => ?_) (fun _ => ?_)
  · simp at h
  exact den_ret rfl rfl
theorem eqLast (k : Nat) : EqF (Lv big (k + 2)) 151 TyLast := by
  intro x hx
  refine level_den rfl rfl ?_ rfl
  unfold ir151
  refine den_let rfl ?_
  refine den_let rfl ?_
  refine den_let rfl ?_
  simp only [List.cons_append, List.nil_append]
  refine den_ite rfl (fun h => ?_) (fun _ => ?_)
  · simp at h
  refine den_let rfl ?_
  refine den_ite rfl (fun h => ?_) (fun _ => ?_)
  · simp at h
  refine den_let rfl ?_
  simp only [List.cons_append, List.nil_append]
  refine den_let rfl ?_
  refine den_call rfl (eqReply k x.2.2 hx.2.2) rfl ?_
  refine den_let rfl ?_
  refine den_ite rfl (fun h => ?_) (fun _ => ?_)
  · simp at h
  simp only [List.cons_append, List.nil_append]
  exact den_ret rfl rfl
theorem eqLastS (k : Nat) : EqF (Lv big (k + 3)) 88 (.sl TyLast) := by
  intro l hl
  exact level_den rfl rfl (eqSl ⟨rfl, fun _ => rfl⟩ (eqLast k) l hl) rfl
theorem eqSession (k : Nat) : EqF (Lv big (k + 1)) 150 TySession := by
  intro x hx
  refine level_den rfl rfl ?_ rfl
  unfold ir150
  refine den_let rfl ?_
  refine den_let rfl ?_
  refine den_let rfl ?_
  simp only [List.cons_append, List.nil_append]
  refine den_ite rfl (fun h => ?_) (fun _ => ?_)
  · simp at h
  refine den_let rfl ?_
  refine den_ite rfl (fun h => ?_) (fun _ => ?_)
  · simp at h
  exact den_ret rfl rfl
theorem eqSessionS (k : Nat) : EqF (Lv big (k + 2)) 87 (.sl TySession) := by
  intro l hl
  exact level_den rfl rfl (eqSl ⟨rfl, fun _ => rfl⟩ (eqSession k) l hl) rfl
theorem eqByteS (k : Nat) : EqF (Lv big (k + 1)) 13 (.sl (.int .u8)) := by
  intro l hl
  exact level_den rfl rfl (eqSlA rfl rfl (fun y => by first | (show some (B (decide ((y : Int) ≠ y))) = some (B false); simp; done) | (show some (B ((y : Int) != y)) = some (B false); simp; done) | (simp [evX]; done)) l hl) rfl
theorem eqRow (k : Nat) : EqF (Lv big (k + 2)) 148 TyRow := by
  intro x hx
  refine level_den rfl rfl ?_ rfl
  unfold ir148
  refine den_let rfl ?_
  refine den_let rfl ?_
  refine den_call rfl (eqByteS k x.1 hx.1) rfl ?_
  simp only [List.cons_append, List.nil_append]
  refine den_let rfl ?_
  refine den_ite rfl (fun h => ?_) (fun _ => ?_)
  · simp at h
  refine den_call rfl (eqByteS k x.2.1 hx.2.1) rfl ?_
  refine den_let rfl ?_
  simp only [List.cons_append, List.nil_append]
  refine den_ite rfl (fun h => ?_) (fun _ => ?_)
  · simp at h
  refine den_let rfl ?_
  refine den_ite rfl (fun h => ?_) (fun _ => ?_)
  · simp at h
  refine den_let rfl ?_
  simp only [List.cons_append, List.nil_append]
  refine den_ite rfl (fun h => ?_) (fun _ => ?_)
  · simp at h
  exact den_ret rfl rfl
theorem eqRowS (k : Nat) : EqF (Lv big (k + 3)) 85 (.sl TyRow) := by
  intro l hl
  exact level_den rfl rfl (eqSl ⟨rfl, fun _ => rfl⟩ (eqRow k) l hl) rfl
theorem toReply (k : Nat) : ToF (Lv big (k + 1)) 172 TyReply := by
  intro x hx
  refine level_den rfl rfl ?_ rfl
  unfold ir172
  refine den_let rfl ?_
  refine den_let rfl ?_
  refine den_let rfl ?_
  simp only [List.cons_append, List.nil_append]
  refine den_let rfl ?_
  refine den_let rfl ?_
  refine den_let rfl ?_
  exact den_ret rfl rfl
theorem toLast (k : Nat) : ToF (Lv big (k + 2)) 163 TyLast := by
  intro x hx
  refine level_den rfl rfl ?_ rfl
  unfold ir163
  refine den_let rfl ?_
  refine den_let rfl ?_
  refine den_let rfl ?_
  simp only [List.cons_append, List.nil_append]
  refine den_let rfl ?_
  refine den_call rfl (toReply k x.2.2 hx.2.2) rfl ?_
  refine den_let rfl ?_
  refine den_let rfl ?_
  simp only [List.cons_append, List.nil_append]
  refine den_let rfl ?_
  refine den_let rfl ?_
  exact den_ret rfl rfl
theorem toLastS (k : Nat) : ToF (Lv big (k + 3)) 139 (.sl TyLast) := by
  intro l hl
  exact level_den rfl rfl (toSl ⟨rfl, fun _ => rfl⟩ (fun _ => rfl) (toLast k) l hl) rfl
theorem toSession (k : Nat) : ToF (Lv big (k + 1)) 162 TySession := by
  intro x hx
  refine level_den rfl rfl ?_ rfl
  unfold ir162
  refine den_let rfl ?_
  refine den_let rfl ?_
  refine den_let rfl ?_
  simp only [List.cons_append, List.nil_append]
  refine den_let rfl ?_
  refine den_let rfl ?_
  refine den_let rfl ?_
  exact den_ret rfl rfl
theorem toSessionS (k : Nat) : ToF (Lv big (k + 2)) 138 (.sl TySession) := by
  intro l hl
  exact level_den rfl rfl (toSl ⟨rfl, fun _ => rfl⟩ (fun _ => rfl) (toSession k) l hl) rfl
theorem toByteS (k : Nat) : ToF (Lv big (k + 1)) 10 (.sl (.int .u8)) := by
  intro l hl
  exact level_den rfl rfl (toSlA rfl rfl (fun _ => rfl) l hl) rfl
theorem toRow (k : Nat) : ToF (Lv big (k + 2)) 160 TyRow := by
  intro x hx
  refine level_den rfl rfl ?_ rfl
  unfold ir160
  refine den_let rfl ?_
  refine den_call rfl (toByteS k x.1 hx.1) rfl ?_
  refine den_let rfl ?_
  simp only [List.cons_append, List.nil_append]
  refine den_call rfl (toByteS k x.2.1 hx.2.1) rfl ?_
  refine den_let rfl ?_
  refine den_let rfl ?_
  refine den_let rfl ?_
  simp only [List.cons_append, List.nil_append]
  refine den_let rfl ?_
  refine den_let rfl ?_
  refine den_let rfl ?_
  exact den_ret rfl rfl
theorem toRowS (k : Nat) : ToF (Lv big (k + 3)) 136 (.sl TyRow) := by
  intro l hl
  exact level_den rfl rfl (toSl ⟨rfl, fun _ => rfl⟩ (fun _ => rfl) (toRow k) l hl) rfl
theorem szLastS (k : Nat) : SzF (Lv big (k + 1)) 133 (.sl TyLast) := by
  intro l a h0 h1 hw
  obtain ⟨r, h1, h2, h3⟩ := szSlA (fun _ => by repeat (first | exact trivial | refine And.intro trivial ?_)) l a h0 h1 hw
  exact ⟨r, level_den rfl rfl h1 rfl, h2, h3⟩
theorem szSessionS (k : Nat) : SzF (Lv big (k + 1)) 132 (.sl TySession) := by
  intro l a h0 h1 hw
  obtain ⟨r, h1, h2, h3⟩ := szSlA (fun _ => by repeat (first | exact trivial | refine And.intro trivial ?_)) l a h0 h1 hw
  exact ⟨r, level_den rfl rfl h1 rfl, h2, h3⟩
theorem szByteS (k : Nat) : SzF (Lv big (k + 1)) 34 (.sl (.int .u8)) := by
  intro l a h0 h1 hw
  obtain ⟨r, h1, h2, h3⟩ := szSlA (fun _ => by repeat (first | exact trivial | refine And.intro trivial ?_)) l a h0 h1 hw
  exact ⟨r, level_den rfl rfl h1 rfl, h2, h3⟩
theorem szRow (k : Nat) : SzF (Lv big (k + 2)) 157 TyRow := by
  intro x a h0 h1 hw
  have key : Ans (Lv big (k + 2) 157 [⟨TyRow, x⟩, I a]) (fun rs => ∃ r, rs = [I r] ∧ r ≤ a ∧ (r < 0 ∨ (0 ≤ r ∧ okD TyRow x))) := by
    refine ans_level rfl rfl ?_ (by rintro rs ⟨r, rfl, _⟩; rfl)
    unfold ir157
    refine ans_let rfl ?_
    obtain ⟨r3, er3, br3, cr3⟩ := szByteS k x.1 a (by omega) (by omega) hw.1
    refine ans_call rfl er3 rfl ?_
    refine ans_let rfl ?_
    simp only [List.cons_append, List.nil_append]
    refine ans_ite rfl (fun _ => ans_ret rfl ⟨-1, rfl, by omega, .inl (by omega)⟩) (fun h => ?_)
    have h : 0 ≤ r3 := by simpa using h
    rcases cr3 with cr3 | ⟨_, cr3⟩
    · omega
    obtain ⟨r5, er5, br5, cr5⟩ := szByteS k x.2.1 r3 (by omega) (by omega) hw.2.1
    refine ans_call rfl er5 rfl ?_
    refine ans_let rfl ?_
    refine ans_ite rfl (fun _ => ans_ret rfl ⟨-1, rfl, by omega, .inl (by omega)⟩) (fun h => ?_)
    have h : 0 ≤ r5 := by simpa using h
    rcases cr5 with cr5 | ⟨_, cr5⟩
    · omega
    simp only [List.cons_append, List.nil_append]
    exact ans_ret rfl ⟨r5, rfl, by omega, .inr ⟨by omega, (And.intro cr3 (And.intro cr5 (And.intro trivial (And.intro trivial trivial))))⟩⟩
  obtain ⟨rs, e, r, rfl, c1, c2⟩ := key
  exact ⟨r, e, c1, c2⟩
theorem szRowS (k : Nat) : SzF (Lv big (k + 3)) 130 (.sl TyRow) := by
  intro l a h0 h1 hw
  obtain ⟨r, h1, h2, h3⟩ := szSl ⟨rfl, fun _ => rfl⟩ (szRow k) l a h0 h1 hw
  exact ⟨r, level_den rfl rfl h1 rfl, h2, h3⟩
theorem eqOp (k : Nat) : EqF (Lv big (k + 2)) 166 TyOp := by
  intro x hx
  refine level_den rfl rfl ?_ rfl
  unfold ir166
  refine den_let rfl ?_
  refine den_let rfl ?_
  refine den_let rfl ?_
  simp only [List.cons_append, List.nil_append]
  refine den_ite rfl (fun h => ?_) (fun _ => ?_)
  · simp at h
  refine den_call rfl (eqByteS k x.2.1 hx.2.1) rfl ?_
  refine den_let rfl ?_
  refine den_ite rfl (fun h => ?_) (fun _ => ?_)
  · simp at h
  simp only [List.cons_append, List.nil_append]
  refine den_call rfl (eqByteS k x.2.2.1 hx.2.2.1) rfl ?_
  refine den_let rfl ?_
  refine den_ite rfl (fun h => ?_) (fun _ => ?_)
  · simp at h
  refine den_let rfl ?_
  simp only [List.cons_append, List.nil_append]
  refine den_ite rfl (fun h => ?_) (fun _ => ?_)
  · simp at h
  exact den_ret rfl rfl
theorem eqCmd (k : Nat) : EqF (Lv big (k + 3)) 145 TyCmd := by
  intro x hx
  refine level_den rfl rfl ?_ rfl
  unfold ir145
  refine den_let rfl ?_
  refine den_let rfl ?_
  refine den_let rfl ?_
  simp only [List.cons_append, List.nil_append]
  refine den_ite rfl (fun h => ?_) (fun _ => ?_)
  · simp at h
  refine den_let rfl ?_
  refine den_ite rfl (fun h => ?_) (fun _ => ?_)
  · simp at h
  refine den_let rfl ?_
  simp only [List.cons_append, List.nil_append]
  refine den_let rfl ?_
  refine den_call rfl (eqOp k x.2.2 hx.2.2) rfl ?_
  refine den_let rfl ?_
  refine den_ite rfl (fun h => ?_) (fun _ => ?_)
  · simp at h
  simp only [List.cons_append, List.nil_append]
  exact den_ret rfl rfl
theorem eqCmdS (k : Nat) : EqF (Lv big (k + 4)) 82 (.sl TyCmd) := by
  intro l hl
  exact level_den rfl rfl (eqSl ⟨rfl, fun _ => rfl⟩ (eqCmd k) l hl) rfl
theorem eqTomb (k : Nat) : EqF (Lv big (k + 2)) 149 TyTomb := by
  intro x hx
  refine level_den rfl rfl ?_ rfl
  unfold ir149
  refine den_let rfl ?_
  refine den_let rfl ?_
  refine den_call rfl (eqByteS k x.1 hx.1) rfl ?_
  simp only [List.cons_append, List.nil_append]
  refine den_let rfl ?_
  refine den_ite rfl (fun h => ?_) (fun _ => ?_)
  · simp at h
  refine den_let rfl ?_
  refine den_ite rfl (fun h => ?_) (fun _ => ?_)
  · simp at h
  simp only [List.cons_append, List.nil_append]
  exact den_ret rfl rfl
theorem eqTombS (k : Nat) : EqF (Lv big (k + 3)) 86 (.sl TyTomb) := by
  intro l hl
  exact level_den rfl rfl (eqSl ⟨rfl, fun _ => rfl⟩ (eqTomb k) l hl) rfl
theorem eqState (k : Nat) : EqF (Lv big (k + 4)) 31 TyState := by
  intro x hx
  refine level_den rfl rfl ?_ rfl
  unfold ir31
  refine den_let rfl ?_
  refine den_let rfl ?_
  refine den_let rfl ?_
  simp only [List.cons_append, List.nil_append]
  refine den_ite rfl (fun h => ?_) (fun _ => ?_)
  · simp at h
  refine den_call rfl (eqRowS k x.2.1 hx.2.1) rfl ?_
  refine den_let rfl ?_
  refine den_ite rfl (fun h => ?_) (fun _ => ?_)
  · simp at h
  simp only [List.cons_append, List.nil_append]
  refine den_call rfl (eqTombS k x.2.2.1 hx.2.2.1) rfl ?_
  refine den_let rfl ?_
  refine den_ite rfl (fun h => ?_) (fun _ => ?_)
  · simp at h
  refine den_let rfl ?_
  simp only [List.cons_append, List.nil_append]
  refine den_ite rfl (fun h => ?_) (fun _ => ?_)
  · simp at h
  refine den_call rfl (eqSessionS (k + 1) x.2.2.2.2.1 hx.2.2.2.2.1) rfl ?_
  refine den_let rfl ?_
  refine den_ite rfl (fun h => ?_) (fun _ => ?_)
  · simp at h
  simp only [List.cons_append, List.nil_append]
  refine den_call rfl (eqLastS k x.2.2.2.2.2.1 hx.2.2.2.2.2.1) rfl ?_
  refine den_let rfl ?_
  refine den_ite rfl (fun h => ?_) (fun _ => ?_)
  · simp at h
  exact den_ret rfl rfl
theorem eqSnap (k : Nat) : EqF (Lv big (k + 5)) 29 TySnap := by
  intro x hx
  refine level_den rfl rfl ?_ rfl
  unfold ir29
  refine den_let rfl ?_
  refine den_let rfl ?_
  refine den_let rfl ?_
  simp only [List.cons_append, List.nil_append]
  refine den_let rfl ?_
  refine den_call rfl (eqState k (x.1, x.2.1, x.2.2.1, x.2.2.2.1, x.2.2.2.2.1, x.2.2.2.2.2.1, ()) (And.intro hx.1 (And.intro hx.2.1 (And.intro hx.2.2.1 (And.intro hx.2.2.2.1 (And.intro hx.2.2.2.2.1 (And.intro hx.2.2.2.2.2.1 trivial))))))) rfl ?_
  refine den_let rfl ?_
  refine den_ite rfl (fun h => ?_) (fun _ => ?_)
  · simp at h
  simp only [List.cons_append, List.nil_append]
  refine den_call rfl (eqCmdS k x.2.2.2.2.2.2.1 hx.2.2.2.2.2.2.1) rfl ?_
  refine den_let rfl ?_
  refine den_ite rfl (fun h => ?_) (fun _ => ?_)
  · simp at h
  exact den_ret rfl rfl
theorem toOp (k : Nat) : ToF (Lv big (k + 2)) 164 TyOp := by
  intro x hx
  refine level_den rfl rfl ?_ rfl
  unfold ir164
  refine den_let rfl ?_
  refine den_let rfl ?_
  refine den_call rfl (toByteS k x.2.1 hx.2.1) rfl ?_
  simp only [List.cons_append, List.nil_append]
  refine den_let rfl ?_
  refine den_call rfl (toByteS k x.2.2.1 hx.2.2.1) rfl ?_
  refine den_let rfl ?_
  refine den_let rfl ?_
  simp only [List.cons_append, List.nil_append]
  refine den_let rfl ?_
  refine den_let rfl ?_
  refine den_let rfl ?_
  exact den_ret rfl rfl
theorem toCmd (k : Nat) : ToF (Lv big (k + 3)) 140 TyCmd := by
  intro x hx
  refine level_den rfl rfl ?_ rfl
  unfold ir140
  refine den_let rfl ?_
  refine den_let rfl ?_
  refine den_let rfl ?_
  simp only [List.cons_append, List.nil_append]
  refine den_let rfl ?_
  refine den_call rfl (toOp k x.2.2 hx.2.2) rfl ?_
  refine den_let rfl ?_
  refine den_let rfl ?_
  simp only [List.cons_append, List.nil_append]
  refine den_let rfl ?_
  refine den_let rfl ?_
  exact den_ret rfl rfl
theorem toCmdS (k : Nat) : ToF (Lv big (k + 4)) 78 (.sl TyCmd) := by
  intro l hl
  exact level_den rfl rfl (toSl ⟨rfl, fun _ => rfl⟩ (fun _ => rfl) (toCmd k) l hl) rfl
theorem toTomb (k : Nat) : ToF (Lv big (k + 2)) 161 TyTomb := by
  intro x hx
  refine level_den rfl rfl ?_ rfl
  unfold ir161
  refine den_let rfl ?_
  refine den_call rfl (toByteS k x.1 hx.1) rfl ?_
  refine den_let rfl ?_
  simp only [List.cons_append, List.nil_append]
  refine den_let rfl ?_
  refine den_let rfl ?_
  refine den_let rfl ?_
  refine den_let rfl ?_
  simp only [List.cons_append, List.nil_append]
  exact den_ret rfl rfl
theorem toTombS (k : Nat) : ToF (Lv big (k + 3)) 137 (.sl TyTomb) := by
  intro l hl
  exact level_den rfl rfl (toSl ⟨rfl, fun _ => rfl⟩ (fun _ => rfl) (toTomb k) l hl) rfl
theorem toState (k : Nat) : ToF (Lv big (k + 4)) 77 TyState := by
  intro x hx
  refine level_den rfl rfl ?_ rfl
  unfold ir77
  refine den_let rfl ?_
  refine den_let rfl ?_
  refine den_call rfl (toRowS k x.2.1 hx.2.1) rfl ?_
  simp only [List.cons_append, List.nil_append]
  refine den_let rfl ?_
  refine den_call rfl (toTombS k x.2.2.1 hx.2.2.1) rfl ?_
  refine den_let rfl ?_
  refine den_let rfl ?_
  simp only [List.cons_append, List.nil_append]
  refine den_call rfl (toSessionS (k + 1) x.2.2.2.2.1 hx.2.2.2.2.1) rfl ?_
  refine den_let rfl ?_
  refine den_call rfl (toLastS k x.2.2.2.2.2.1 hx.2.2.2.2.2.1) rfl ?_
  refine den_let rfl ?_
  simp only [List.cons_append, List.nil_append]
  refine den_let rfl ?_
  refine den_let rfl ?_
  refine den_let rfl ?_
  exact den_ret rfl rfl
theorem toSnap (k : Nat) : ToF (Lv big (k + 5)) 27 TySnap := by
  intro x hx
  refine level_den rfl rfl ?_ rfl
  unfold ir27
  refine den_let rfl ?_
  refine den_let rfl ?_
  refine den_call rfl (toState k (x.1, x.2.1, x.2.2.1, x.2.2.2.1, x.2.2.2.2.1, x.2.2.2.2.2.1, ()) (And.intro hx.1 (And.intro hx.2.1 (And.intro hx.2.2.1 (And.intro hx.2.2.2.1 (And.intro hx.2.2.2.2.1 (And.intro hx.2.2.2.2.2.1 trivial))))))) rfl ?_
  simp only [List.cons_append, List.nil_append]
  refine den_let rfl ?_
  refine den_call rfl (toCmdS k x.2.2.2.2.2.2.1 hx.2.2.2.2.2.2.1) rfl ?_
  refine den_let rfl ?_
  refine den_let rfl ?_
  simp only [List.cons_append, List.nil_append]
  refine den_let rfl ?_
  refine den_let rfl ?_
  exact den_ret rfl rfl
theorem szOp (k : Nat) : SzF (Lv big (k + 2)) 159 TyOp := by
  intro x a h0 h1 hw
  have key : Ans (Lv big (k + 2) 159 [⟨TyOp, x⟩, I a]) (fun rs => ∃ r, rs = [I r] ∧ r ≤ a ∧ (r < 0 ∨ (0 ≤ r ∧ okD TyOp x))) := by
    refine ans_level rfl rfl ?_ (by rintro rs ⟨r, rfl, _⟩; rfl)
    unfold ir159
    refine ans_let rfl ?_
    obtain ⟨r3, er3, br3, cr3⟩ := szByteS k x.2.1 a (by omega) (by omega) hw.2.1
    refine ans_call rfl er3 rfl ?_
    refine ans_let rfl ?_
    simp only [List.cons_append, List.nil_append]
    refine ans_ite rfl (fun _ => ans_ret rfl ⟨-1, rfl, by omega, .inl (by omega)⟩) (fun h => ?_)
    have h : 0 ≤ r3 := by simpa using h
    rcases cr3 with cr3 | ⟨_, cr3⟩
    · omega
    obtain ⟨r5, er5, br5, cr5⟩ := szByteS k x.2.2.1 r3 (by omega) (by omega) hw.2.2.1
    refine ans_call rfl er5 rfl ?_
    refine ans_let rfl ?_
    refine ans_ite rfl (fun _ => ans_ret rfl ⟨-1, rfl, by omega, .inl (by omega)⟩) (fun h => ?_)
    have h : 0 ≤ r5 := by simpa using h
    rcases cr5 with cr5 | ⟨_, cr5⟩
    · omega
    simp only [List.cons_append, List.nil_append]
    exact ans_ret rfl ⟨r5, rfl, by omega, .inr ⟨by omega, (And.intro trivial (And.intro cr3 (And.intro cr5 (And.intro trivial trivial))))⟩⟩
  obtain ⟨rs, e, r, rfl, c1, c2⟩ := key
  exact ⟨r, e, c1, c2⟩
theorem szCmd (k : Nat) : SzF (Lv big (k + 3)) 134 TyCmd := by
  intro x a h0 h1 hw
  have key : Ans (Lv big (k + 3) 134 [⟨TyCmd, x⟩, I a]) (fun rs => ∃ r, rs = [I r] ∧ r ≤ a ∧ (r < 0 ∨ (0 ≤ r ∧ okD TyCmd x))) := by
    refine ans_level rfl rfl ?_ (by rintro rs ⟨r, rfl, _⟩; rfl)
    unfold ir134
    refine ans_let rfl ?_
    refine ans_let rfl ?_
    obtain ⟨r4, er4, br4, cr4⟩ := szOp k x.2.2 a (by omega) (by omega) hw.2.2
    refine ans_call rfl er4 rfl ?_
    simp only [List.cons_append, List.nil_append]
    refine ans_let rfl ?_
    refine ans_ite rfl (fun _ => ans_ret rfl ⟨-1, rfl, by omega, .inl (by omega)⟩) (fun h => ?_)
    have h : 0 ≤ r4 := by simpa using h
    rcases cr4 with cr4 | ⟨_, cr4⟩
    · omega
    exact ans_ret rfl ⟨r4, rfl, by omega, .inr ⟨by omega, (And.intro trivial (And.intro trivial (And.intro cr4.1 (And.intro cr4.2.1 (And.intro cr4.2.2.1 (And.intro cr4.2.2.2.1 trivial))))))⟩⟩
  obtain ⟨rs, e, r, rfl, c1, c2⟩ := key
  exact ⟨r, e, c1, c2⟩
theorem szCmdS (k : Nat) : SzF (Lv big (k + 4)) 75 (.sl TyCmd) := by
  intro l a h0 h1 hw
  obtain ⟨r, h1, h2, h3⟩ := szSl ⟨rfl, fun _ => rfl⟩ (szCmd k) l a h0 h1 hw
  exact ⟨r, level_den rfl rfl h1 rfl, h2, h3⟩
theorem szTomb (k : Nat) : SzF (Lv big (k + 2)) 158 TyTomb := by
  intro x a h0 h1 hw
  have key : Ans (Lv big (k + 2) 158 [⟨TyTomb, x⟩, I a]) (fun rs => ∃ r, rs = [I r] ∧ r ≤ a ∧ (r < 0 ∨ (0 ≤ r ∧ okD TyTomb x))) := by
    refine ans_level rfl rfl ?_ (by rintro rs ⟨r, rfl, _⟩; rfl)
    unfold ir158
    refine ans_let rfl ?_
    obtain ⟨r3, er3, br3, cr3⟩ := szByteS k x.1 a (by omega) (by omega) hw.1
    refine ans_call rfl er3 rfl ?_
    refine ans_let rfl ?_
    simp only [List.cons_append, List.nil_append]
    refine ans_ite rfl (fun _ => ans_ret rfl ⟨-1, rfl, by omega, .inl (by omega)⟩) (fun h => ?_)
    have h : 0 ≤ r3 := by simpa using h
    rcases cr3 with cr3 | ⟨_, cr3⟩
    · omega
    exact ans_ret rfl ⟨r3, rfl, by omega, .inr ⟨by omega, (And.intro cr3 (And.intro trivial trivial))⟩⟩
  obtain ⟨rs, e, r, rfl, c1, c2⟩ := key
  exact ⟨r, e, c1, c2⟩
theorem szTombS (k : Nat) : SzF (Lv big (k + 3)) 131 (.sl TyTomb) := by
  intro l a h0 h1 hw
  obtain ⟨r, h1, h2, h3⟩ := szSl ⟨rfl, fun _ => rfl⟩ (szTomb k) l a h0 h1 hw
  exact ⟨r, level_den rfl rfl h1 rfl, h2, h3⟩
theorem szState (k : Nat) : SzF (Lv big (k + 4)) 74 TyState := by
  intro x a h0 h1 hw
  have key : Ans (Lv big (k + 4) 74 [⟨TyState, x⟩, I a]) (fun rs => ∃ r, rs = [I r] ∧ r ≤ a ∧ (r < 0 ∨ (0 ≤ r ∧ okD TyState x))) := by
    refine ans_level rfl rfl ?_ (by rintro rs ⟨r, rfl, _⟩; rfl)
    unfold ir74
    refine ans_let rfl ?_
    obtain ⟨r3, er3, br3, cr3⟩ := szRowS k x.2.1 a (by omega) (by omega) hw.2.1
    refine ans_call rfl er3 rfl ?_
    refine ans_let rfl ?_
    simp only [List.cons_append, List.nil_append]
    refine ans_ite rfl (fun _ => ans_ret rfl ⟨-1, rfl, by omega, .inl (by omega)⟩) (fun h => ?_)
    have h : 0 ≤ r3 := by simpa using h
    rcases cr3 with cr3 | ⟨_, cr3⟩
    · omega
    obtain ⟨r5, er5, br5, cr5⟩ := szTombS k x.2.2.1 r3 (by omega) (by omega) hw.2.2.1
    refine ans_call rfl er5 rfl ?_
    refine ans_let rfl ?_
    refine ans_ite rfl (fun _ => ans_ret rfl ⟨-1, rfl, by omega, .inl (by omega)⟩) (fun h => ?_)
    have h : 0 ≤ r5 := by simpa using h
    rcases cr5 with cr5 | ⟨_, cr5⟩
    · omega
    simp only [List.cons_append, List.nil_append]
    obtain ⟨r7, er7, br7, cr7⟩ := szSessionS (k + 2) x.2.2.2.2.1 r5 (by omega) (by omega) hw.2.2.2.2.1
    refine ans_call rfl er7 rfl ?_
    refine ans_let rfl ?_
    refine ans_ite rfl (fun _ => ans_ret rfl ⟨-1, rfl, by omega, .inl (by omega)⟩) (fun h => ?_)
    have h : 0 ≤ r7 := by simpa using h
    rcases cr7 with cr7 | ⟨_, cr7⟩
    · omega
    obtain ⟨r9, er9, br9, cr9⟩ := szLastS (k + 2) x.2.2.2.2.2.1 r7 (by omega) (by omega) hw.2.2.2.2.2.1
    refine ans_call rfl er9 rfl ?_
    simp only [List.cons_append, List.nil_append]
    refine ans_let rfl ?_
    refine ans_ite rfl (fun _ => ans_ret rfl ⟨-1, rfl, by omega, .inl (by omega)⟩) (fun h => ?_)
    have h : 0 ≤ r9 := by simpa using h
    rcases cr9 with cr9 | ⟨_, cr9⟩
    · omega
    exact ans_ret rfl ⟨r9, rfl, by omega, .inr ⟨by omega, (And.intro trivial (And.intro cr3 (And.intro cr5 (And.intro trivial (And.intro cr7 (And.intro cr9 trivial))))))⟩⟩
  obtain ⟨rs, e, r, rfl, c1, c2⟩ := key
  exact ⟨r, e, c1, c2⟩
theorem szSnap (k : Nat) : SzF (Lv big (k + 5)) 25 TySnap := by
  intro x a h0 h1 hw
  have key : Ans (Lv big (k + 5) 25 [⟨TySnap, x⟩, I a]) (fun rs => ∃ r, rs = [I r] ∧ r ≤ a ∧ (r < 0 ∨ (0 ≤ r ∧ okD TySnap x))) := by
    refine ans_level rfl rfl ?_ (by rintro rs ⟨r, rfl, _⟩; rfl)
    unfold ir25
    refine ans_let rfl ?_
    refine ans_let rfl ?_
    obtain ⟨r4, er4, br4, cr4⟩ := szState k (x.1, x.2.1, x.2.2.1, x.2.2.2.1, x.2.2.2.2.1, x.2.2.2.2.2.1, ()) a (by omega) (by omega) (And.intro hw.1 (And.intro hw.2.1 (And.intro hw.2.2.1 (And.intro hw.2.2.2.1 (And.intro hw.2.2.2.2.1 (And.intro hw.2.2.2.2.2.1 trivial))))))
    refine ans_call rfl er4 rfl ?_
    simp only [List.cons_append, List.nil_append]
    refine ans_let rfl ?_
    refine ans_ite rfl (fun _ => ans_ret rfl ⟨-1, rfl, by omega, .inl (by omega)⟩) (fun h => ?_)
    have h : 0 ≤ r4 := by simpa using h
    rcases cr4 with cr4 | ⟨_, cr4⟩
    · omega
    obtain ⟨r6, er6, br6, cr6⟩ := szCmdS k x.2.2.2.2.2.2.1 r4 (by omega) (by omega) hw.2.2.2.2.2.2.1
    refine ans_call rfl er6 rfl ?_
    refine ans_let rfl ?_
    simp only [List.cons_append, List.nil_append]
    refine ans_ite rfl (fun _ => ans_ret rfl ⟨-1, rfl, by omega, .inl (by omega)⟩) (fun h => ?_)
    have h : 0 ≤ r6 := by simpa using h
    rcases cr6 with cr6 | ⟨_, cr6⟩
    · omega
    exact ans_ret rfl ⟨r6, rfl, by omega, .inr ⟨by omega, (And.intro cr4.1 (And.intro cr4.2.1 (And.intro cr4.2.2.1 (And.intro cr4.2.2.2.1 (And.intro cr4.2.2.2.2.1 (And.intro cr4.2.2.2.2.2.1 (And.intro cr6 trivial)))))))⟩⟩
  obtain ⟨rs, e, r, rfl, c1, c2⟩ := key
  exact ⟨r, e, c1, c2⟩
end Go.Proofs.Ytecleaangfcloab.VtFnExactSnapOk
