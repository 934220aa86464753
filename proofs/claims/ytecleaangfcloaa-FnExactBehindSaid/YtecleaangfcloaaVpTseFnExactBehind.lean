/- What the sizes, copies and comparisons of FnExactBehind answer. Lemmas alone, no statement. -/
import Derived.Test.YtecleaangfcloaaVtFnExactBehind
import Derived.Test.YtecleaangfcloaaVmTse
namespace Go.Proofs.Ytecleaangfcloaa.VtFnExactBehind
set_option linter.unusedVariables false
set_option linter.unusedSimpArgs false
set_option maxHeartbeats 2000000
open Go Go.Vm

abbrev TyOp : Ty := (.pair (.int .i64) (.pair (.sl (.int .u8)) (.pair (.sl (.int .u8)) (.pair (.int .i64) .unit))))
abbrev TyCmd : Ty := (.pair (.int .i64) (.pair (.int .i64) (.pair (.int .i64) (.pair (.sl (.int .u8)) (.pair (.sl (.int .u8)) (.pair (.int .i64) .unit))))))
abbrev TyItem : Ty := (.pair (.int .i64) (.pair (.int .i64) (.pair (.int .i64) (.pair (.int .i64) (.pair (.sl (.int .u8)) (.pair (.sl (.int .u8)) (.pair (.int .i64) .unit)))))))
abbrev TyNode : Ty := (.pair (.int .i64) (.pair (.int .i64) (.pair (.int .i64) (.pair (.sl (.pair (.int .i64) (.pair (.int .i64) (.pair (.int .i64) (.pair (.int .i64) (.pair (.sl (.int .u8)) (.pair (.sl (.int .u8)) (.pair (.int .i64) .unit)))))))) (.pair (.int .i64) (.pair (.int .i64) (.pair (.int .i64) (.pair (.int .i64) (.pair (.sl .bool) (.pair (.sl (.int .i64)) (.pair (.sl (.int .i64)) .unit)))))))))))
theorem eqBoolS (k : Nat) : EqF (Lv big (k + 1)) 82 (.sl .bool) := by
  intro l hl
  exact level_den rfl rfl (eqSlA rfl rfl (fun y => by first | (show some (B (decide ((y : Int) ≠ y))) = some (B false); simp; done) | (show some (B ((y : Int) != y)) = some (B false); simp; done) | (simp [evX]; done)) l hl) rfl
theorem eqByteS (k : Nat) : EqF (Lv big (k + 1)) 96 (.sl (.int .u8)) := by
  intro l hl
  exact level_den rfl rfl (eqSlA rfl rfl (fun y => by first | (show some (B (decide ((y : Int) ≠ y))) = some (B false); simp; done) | (show some (B ((y : Int) != y)) = some (B false); simp; done) | (simp [evX]; done)) l hl) rfl
theorem eqOp (k : Nat) : EqF (Lv big (k + 2)) 205 TyOp := by
  intro x hx
  refine level_den rfl rfl ?_ rfl
  unfold ir205
  refine den_let rfl ?_
  refine den_let rfl ?_
  refine den_let rfl ?_
  simp only [List.cons_append, List.nil_append]
  refine den_ite rfl (fun h => ?_) (fun _ => ?_)
  · simp at h
  refine den_call rfl (eqByteS k x.2.1 hx.2.1) rfl ?_
  refine den_let rfl ?_
  refine den_ite rfl (fun h => ?_) (fun _ => ?_)
  · simp at h
  simp only [List.cons_append, List.nil_append]
  refine den_call rfl (eqByteS k x.2.2.1 hx.2.2.1) rfl ?_
  refine den_let rfl ?_
  refine den_ite rfl (fun h => ?_) (fun _ => ?_)
  · simp at h
  refine den_let rfl ?_
  simp only [List.cons_append, List.nil_append]
  refine den_ite rfl (fun h => ?_) (fun _ => ?_)
  · simp at h
  exact den_ret rfl rfl
theorem eqCmd (k : Nat) : EqF (Lv big (k + 3)) 187 TyCmd := by
  intro x hx
  refine level_den rfl rfl ?_ rfl
  unfold ir187
  refine den_let rfl ?_
  refine den_let rfl ?_
  refine den_let rfl ?_
  simp only [List.cons_append, List.nil_append]
  refine den_ite rfl (fun h => ?_) (fun _ => ?_)
  · simp at h
  refine den_let rfl ?_
  refine den_ite rfl (fun h => ?_) (fun _ => ?_)
  · simp at h
  refine den_let rfl ?_
  simp only [List.cons_append, List.nil_append]
  refine den_let rfl ?_
  refine den_call rfl (eqOp k x.2.2 hx.2.2) rfl ?_
  refine den_let rfl ?_
  refine den_ite rfl (fun h => ?_) (fun _ => ?_)
  · simp at h
  simp only [List.cons_append, List.nil_append]
  exact den_ret rfl rfl
theorem eqItem (k : Nat) : EqF (Lv big (k + 4)) 142 TyItem := by
  intro x hx
  refine level_den rfl rfl ?_ rfl
  unfold ir142
  refine den_let rfl ?_
  refine den_let rfl ?_
  refine den_let rfl ?_
  simp only [List.cons_append, List.nil_append]
  refine den_ite rfl (fun h => ?_) (fun _ => ?_)
  · simp at h
  refine den_let rfl ?_
  refine den_let rfl ?_
  refine den_call rfl (eqCmd k x.2 hx.2) rfl ?_
  simp only [List.cons_append, List.nil_append]
  refine den_let rfl ?_
  refine den_ite rfl (fun h => ?_) (fun _ => ?_)
  · simp at h
  exact den_ret rfl rfl
theorem eqItemS (k : Nat) : EqF (Lv big (k + 5)) 81 (.sl TyItem) := by
  intro l hl
  exact level_den rfl rfl (eqSl ⟨rfl, fun _ => rfl⟩ (eqItem k) l hl) rfl
theorem eqIntS (k : Nat) : EqF (Lv big (k + 1)) 29 (.sl (.int .i64)) := by
  intro l hl
  exact level_den rfl rfl (eqSlA rfl rfl (fun y => by first | (show some (B (decide ((y : Int) ≠ y))) = some (B false); simp; done) | (show some (B ((y : Int) != y)) = some (B false); simp; done) | (simp [evX]; done)) l hl) rfl
theorem toIntS (k : Nat) : ToF (Lv big (k + 1)) 78 (.sl (.int .i64)) := by
  intro l hl
  exact level_den rfl rfl (toSlA rfl rfl (fun _ => rfl) l hl) rfl
theorem toBoolS (k : Nat) : ToF (Lv big (k + 1)) 77 (.sl .bool) := by
  intro l hl
  exact level_den rfl rfl (toSlA rfl rfl (fun _ => rfl) l hl) rfl
theorem toByteS (k : Nat) : ToF (Lv big (k + 1)) 91 (.sl (.int .u8)) := by
  intro l hl
  exact level_den rfl rfl (toSlA rfl rfl (fun _ => rfl) l hl) rfl
theorem toOp (k : Nat) : ToF (Lv big (k + 2)) 204 TyOp := by
  intro x hx
  refine level_den rfl rfl ?_ rfl
  unfold ir204
  refine den_let rfl ?_
  refine den_let rfl ?_
  refine den_call rfl (toByteS k x.2.1 hx.2.1) rfl ?_
  simp only [List.cons_append, List.nil_append]
  refine den_let rfl ?_
  refine den_call rfl (toByteS k x.2.2.1 hx.2.2.1) rfl ?_
  refine den_let rfl ?_
  refine den_let rfl ?_
  simp only [List.cons_append, List.nil_append]
  refine den_let rfl ?_
  refine den_let rfl ?_
  refine den_let rfl ?_
  exact den_ret rfl rfl
theorem toCmd (k : Nat) : ToF (Lv big (k + 3)) 186 TyCmd := by
  intro x hx
  refine level_den rfl rfl ?_ rfl
  unfold ir186
  refine den_let rfl ?_
  refine den_let rfl ?_
  refine den_let rfl ?_
  simp only [List.cons_append, List.nil_append]
  refine den_let rfl ?_
  refine den_call rfl (toOp k x.2.2 hx.2.2) rfl ?_
  refine den_let rfl ?_
  refine den_let rfl ?_
  simp only [List.cons_append, List.nil_append]
  refine den_let rfl ?_
  refine den_let rfl ?_
  exact den_ret rfl rfl
theorem toItem (k : Nat) : ToF (Lv big (k + 4)) 141 TyItem := by
  intro x hx
  refine level_den rfl rfl ?_ rfl
  unfold ir141
  refine den_let rfl ?_
  refine den_let rfl ?_
  refine den_let rfl ?_
  simp only [List.cons_append, List.nil_append]
  refine den_call rfl (toCmd k x.2 hx.2) rfl ?_
  refine den_let rfl ?_
  refine den_let rfl ?_
  refine den_let rfl ?_
  simp only [List.cons_append, List.nil_append]
  refine den_let rfl ?_
  exact den_ret rfl rfl
theorem toItemS (k : Nat) : ToF (Lv big (k + 5)) 76 (.sl TyItem) := by
  intro l hl
  exact level_den rfl rfl (toSl ⟨rfl, fun _ => rfl⟩ (fun _ => rfl) (toItem k) l hl) rfl
theorem toNode (k : Nat) : ToF (Lv big (k + 6)) 24 TyNode := by
  intro x hx
  refine level_den rfl rfl ?_ rfl
  unfold ir24
  refine den_let rfl ?_
  refine den_let rfl ?_
  refine den_let rfl ?_
  simp only [List.cons_append, List.nil_append]
  refine den_let rfl ?_
  refine den_call rfl (toItemS k x.2.2.2.1 hx.2.2.2.1) rfl ?_
  refine den_let rfl ?_
  refine den_let rfl ?_
  simp only [List.cons_append, List.nil_append]
  refine den_let rfl ?_
  refine den_let rfl ?_
  refine den_let rfl ?_
  refine den_call rfl (toBoolS (k + 4) x.2.2.2.2.2.2.2.2.1 hx.2.2.2.2.2.2.2.2.1) rfl ?_
  simp only [List.cons_append, List.nil_append]
  refine den_let rfl ?_
  refine den_call rfl (toIntS (k + 4) x.2.2.2.2.2.2.2.2.2.1 hx.2.2.2.2.2.2.2.2.2.1) rfl ?_
  refine den_let rfl ?_
  refine den_call rfl (toIntS (k + 4) x.2.2.2.2.2.2.2.2.2.2.1 hx.2.2.2.2.2.2.2.2.2.2.1) rfl ?_
  simp only [List.cons_append, List.nil_append]
  refine den_let rfl ?_
  refine den_let rfl ?_
  refine den_let rfl ?_
  refine den_let rfl ?_
  simp only [List.cons_append, List.nil_append]
  exact den_ret rfl rfl
theorem szIntS (k : Nat) : SzF (Lv big (k + 1)) 75 (.sl (.int .i64)) := by
  intro l a h0 h1 hw
  obtain ⟨r, h1, h2, h3⟩ := szSlA (fun _ => by repeat (first | exact trivial | refine And.intro trivial ?_)) l a h0 h1 hw
  exact ⟨r, level_den rfl rfl h1 rfl, h2, h3⟩
theorem szBoolS (k : Nat) : SzF (Lv big (k + 1)) 74 (.sl .bool) := by
  intro l a h0 h1 hw
  obtain ⟨r, h1, h2, h3⟩ := szSlA (fun _ => by repeat (first | exact trivial | refine And.intro trivial ?_)) l a h0 h1 hw
  exact ⟨r, level_den rfl rfl h1 rfl, h2, h3⟩
theorem szByteS (k : Nat) : SzF (Lv big (k + 1)) 87 (.sl (.int .u8)) := by
  intro l a h0 h1 hw
  obtain ⟨r, h1, h2, h3⟩ := szSlA (fun _ => by repeat (first | exact trivial | refine And.intro trivial ?_)) l a h0 h1 hw
  exact ⟨r, level_den rfl rfl h1 rfl, h2, h3⟩
theorem szOp (k : Nat) : SzF (Lv big (k + 2)) 203 TyOp := by
  intro x a h0 h1 hw
  have key : Ans (Lv big (k + 2) 203 [⟨TyOp, x⟩, I a]) (fun rs => ∃ r, rs = [I r] ∧ r ≤ a ∧ (r < 0 ∨ (0 ≤ r ∧ okD TyOp x))) := by
    refine ans_level rfl rfl ?_ (by rintro rs ⟨r, rfl, _⟩; rfl)
    unfold ir203
    refine ans_let rfl ?_
    obtain ⟨r3, er3, br3, cr3⟩ := szByteS k x.2.1 a (by omega) (by omega) hw.2.1
    refine ans_call rfl er3 rfl ?_
    refine ans_let rfl ?_
    simp only [List.cons_append, List.nil_append]
    refine ans_ite rfl (fun _ => ans_ret rfl ⟨-1, rfl, by omega, .inl (by omega)⟩) (fun h => ?_)
    have h : 0 ≤ r3 := by simpa using h
    rcases cr3 with cr3 | ⟨_, cr3⟩
    · omega
    obtain ⟨r5, er5, br5, cr5⟩ := szByteS k x.2.2.1 r3 (by omega) (by omega) hw.2.2.1
    refine ans_call rfl er5 rfl ?_
    refine ans_let rfl ?_
    refine ans_ite rfl (fun _ => ans_ret rfl ⟨-1, rfl, by omega, .inl (by omega)⟩) (fun h => ?_)
    have h : 0 ≤ r5 := by simpa using h
    rcases cr5 with cr5 | ⟨_, cr5⟩
    · omega
    simp only [List.cons_append, List.nil_append]
    exact ans_ret rfl ⟨r5, rfl, by omega, .inr ⟨by omega, (And.intro trivial (And.intro cr3 (And.intro cr5 (And.intro trivial trivial))))⟩⟩
  obtain ⟨rs, e, r, rfl, c1, c2⟩ := key
  exact ⟨r, e, c1, c2⟩
theorem szCmd (k : Nat) : SzF (Lv big (k + 3)) 185 TyCmd := by
  intro x a h0 h1 hw
  have key : Ans (Lv big (k + 3) 185 [⟨TyCmd, x⟩, I a]) (fun rs => ∃ r, rs = [I r] ∧ r ≤ a ∧ (r < 0 ∨ (0 ≤ r ∧ okD TyCmd x))) := by
    refine ans_level rfl rfl ?_ (by rintro rs ⟨r, rfl, _⟩; rfl)
    unfold ir185
    refine ans_let rfl ?_
    refine ans_let rfl ?_
    obtain ⟨r4, er4, br4, cr4⟩ := szOp k x.2.2 a (by omega) (by omega) hw.2.2
    refine ans_call rfl er4 rfl ?_
    simp only [List.cons_append, List.nil_append]
    refine ans_let rfl ?_
    refine ans_ite rfl (fun _ => ans_ret rfl ⟨-1, rfl, by omega, .inl (by omega)⟩) (fun h => ?_)
    have h : 0 ≤ r4 := by simpa using h
    rcases cr4 with cr4 | ⟨_, cr4⟩
    · omega
    exact ans_ret rfl ⟨r4, rfl, by omega, .inr ⟨by omega, (And.intro trivial (And.intro trivial (And.intro cr4.1 (And.intro cr4.2.1 (And.intro cr4.2.2.1 (And.intro cr4.2.2.2.1 trivial))))))⟩⟩
  obtain ⟨rs, e, r, rfl, c1, c2⟩ := key
  exact ⟨r, e, c1, c2⟩
theorem szItem (k : Nat) : SzF (Lv big (k + 4)) 140 TyItem := by
  intro x a h0 h1 hw
  have key : Ans (Lv big (k + 4) 140 [⟨TyItem, x⟩, I a]) (fun rs => ∃ r, rs = [I r] ∧ r ≤ a ∧ (r < 0 ∨ (0 ≤ r ∧ okD TyItem x))) := by
    refine ans_level rfl rfl ?_ (by rintro rs ⟨r, rfl, _⟩; rfl)
    unfold ir140
    refine ans_let rfl ?_
    refine ans_let rfl ?_
    obtain ⟨r4, er4, br4, cr4⟩ := szCmd k x.2 a (by omega) (by omega) hw.2
    refine ans_call rfl er4 rfl ?_
    simp only [List.cons_append, List.nil_append]
    refine ans_let rfl ?_
    refine ans_ite rfl (fun _ => ans_ret rfl ⟨-1, rfl, by omega, .inl (by omega)⟩) (fun h => ?_)
    have h : 0 ≤ r4 := by simpa using h
    rcases cr4 with cr4 | ⟨_, cr4⟩
    · omega
    exact ans_ret rfl ⟨r4, rfl, by omega, .inr ⟨by omega, (And.intro trivial (And.intro cr4.1 (And.intro cr4.2.1 (And.intro cr4.2.2.1 (And.intro cr4.2.2.2.1 (And.intro cr4.2.2.2.2.1 (And.intro cr4.2.2.2.2.2.1 trivial)))))))⟩⟩
  obtain ⟨rs, e, r, rfl, c1, c2⟩ := key
  exact ⟨r, e, c1, c2⟩
theorem szItemS (k : Nat) : SzF (Lv big (k + 5)) 73 (.sl TyItem) := by
  intro l a h0 h1 hw
  obtain ⟨r, h1, h2, h3⟩ := szSl ⟨rfl, fun _ => rfl⟩ (szItem k) l a h0 h1 hw
  exact ⟨r, level_den rfl rfl h1 rfl, h2, h3⟩
theorem szNode (k : Nat) : SzF (Lv big (k + 6)) 22 TyNode := by
  intro x a h0 h1 hw
  have key : Ans (Lv big (k + 6) 22 [⟨TyNode, x⟩, I a]) (fun rs => ∃ r, rs = [I r] ∧ r ≤ a ∧ (r < 0 ∨ (0 ≤ r ∧ okD TyNode x))) := by
    refine ans_level rfl rfl ?_ (by rintro rs ⟨r, rfl, _⟩; rfl)
    unfold ir22
    refine ans_let rfl ?_
    obtain ⟨r3, er3, br3, cr3⟩ := szItemS k x.2.2.2.1 a (by omega) (by omega) hw.2.2.2.1
    refine ans_call rfl er3 rfl ?_
    refine ans_let rfl ?_
    simp only [List.cons_append, List.nil_append]
    refine ans_ite rfl (fun _ => ans_ret rfl ⟨-1, rfl, by omega, .inl (by omega)⟩) (fun h => ?_)
    have h : 0 ≤ r3 := by simpa using h
    rcases cr3 with cr3 | ⟨_, cr3⟩
    · omega
    obtain ⟨r5, er5, br5, cr5⟩ := szBoolS (k + 4) x.2.2.2.2.2.2.2.2.1 r3 (by omega) (by omega) hw.2.2.2.2.2.2.2.2.1
    refine ans_call rfl er5 rfl ?_
    refine ans_let rfl ?_
    refine ans_ite rfl (fun _ => ans_ret rfl ⟨-1, rfl, by omega, .inl (by omega)⟩) (fun h => ?_)
    have h : 0 ≤ r5 := by simpa using h
    rcases cr5 with cr5 | ⟨_, cr5⟩
    · omega
    simp only [List.cons_append, List.nil_append]
    obtain ⟨r7, er7, br7, cr7⟩ := szIntS (k + 4) x.2.2.2.2.2.2.2.2.2.1 r5 (by omega) (by omega) hw.2.2.2.2.2.2.2.2.2.1
    refine ans_call rfl er7 rfl ?_
    refine ans_let rfl ?_
    refine ans_ite rfl (fun _ => ans_ret rfl ⟨-1, rfl, by omega, .inl (by omega)⟩) (fun h => ?_)
    have h : 0 ≤ r7 := by simpa using h
    rcases cr7 with cr7 | ⟨_, cr7⟩
    · omega
    obtain ⟨r9, er9, br9, cr9⟩ := szIntS (k + 4) x.2.2.2.2.2.2.2.2.2.2.1 r7 (by omega) (by omega) hw.2.2.2.2.2.2.2.2.2.2.1
    refine ans_call rfl er9 rfl ?_
    simp only [List.cons_append, List.nil_append]
    refine ans_let rfl ?_
    refine ans_ite rfl (fun _ => ans_ret rfl ⟨-1, rfl, by omega, .inl (by omega)⟩) (fun h => ?_)
    have h : 0 ≤ r9 := by simpa using h
    rcases cr9 with cr9 | ⟨_, cr9⟩
    · omega
    exact ans_ret rfl ⟨r9, rfl, by omega, .inr ⟨by omega, (And.intro trivial (And.intro trivial (And.intro trivial (And.intro cr3 (And.intro trivial (And.intro trivial (And.intro trivial (And.intro trivial (And.intro cr5 (And.intro cr7 (And.intro cr9 trivial)))))))))))⟩⟩
  obtain ⟨rs, e, r, rfl, c1, c2⟩ := key
  exact ⟨r, e, c1, c2⟩
theorem eqNode (k : Nat) : EqF (Lv big (k + 6)) 26 TyNode := by
  intro x hx
  refine level_den rfl rfl ?_ rfl
  unfold ir26
  refine den_let rfl ?_
  refine den_let rfl ?_
  refine den_let rfl ?_
  simp only [List.cons_append, List.nil_append]
  refine den_ite rfl (fun h => ?_) (fun _ => ?_)
  · simp at h
  refine den_let rfl ?_
  refine den_ite rfl (fun h => ?_) (fun _ => ?_)
  · simp at h
  refine den_let rfl ?_
  simp only [List.cons_append, List.nil_append]
  refine den_ite rfl (fun h => ?_) (fun _ => ?_)
  · simp at h
  refine den_call rfl (eqItemS k x.2.2.2.1 hx.2.2.2.1) rfl ?_
  refine den_let rfl ?_
  refine den_ite rfl (fun h => ?_) (fun _ => ?_)
  · simp at h
  simp only [List.cons_append, List.nil_append]
  refine den_let rfl ?_
  refine den_ite rfl (fun h => ?_) (fun _ => ?_)
  · simp at h
  refine den_let rfl ?_
  refine den_ite rfl (fun h => ?_) (fun _ => ?_)
  · simp at h
  simp only [List.cons_append, List.nil_append]
  refine den_let rfl ?_
  refine den_ite rfl (fun h => ?_) (fun _ => ?_)
  · simp at h
  refine den_let rfl ?_
  refine den_ite rfl (fun h => ?_) (fun _ => ?_)
  · simp at h
  simp only [List.cons_append, List.nil_append]
  refine den_call rfl (eqBoolS (k + 4) x.2.2.2.2.2.2.2.2.1 hx.2.2.2.2.2.2.2.2.1) rfl ?_
  refine den_let rfl ?_
  refine den_ite rfl (fun h => ?_) (fun _ => ?_)
  · simp at h
  refine den_call rfl (eqIntS (k + 4) x.2.2.2.2.2.2.2.2.2.1 hx.2.2.2.2.2.2.2.2.2.1) rfl ?_
  simp only [List.cons_append, List.nil_append]
  refine den_let rfl ?_
  refine den_ite rfl (fun h => ?_) (fun _ => ?_)
  · simp at h
  refine den_call rfl (eqIntS (k + 4) x.2.2.2.2.2.2.2.2.2.2.1 hx.2.2.2.2.2.2.2.2.2.2.1) rfl ?_
  refine den_let rfl ?_
  simp only [List.cons_append, List.nil_append]
  refine den_ite rfl (fun h => ?_) (fun _ => ?_)
  · simp at h
  exact den_ret rfl rfl
end Go.Proofs.Ytecleaangfcloaa.VtFnExactBehind
