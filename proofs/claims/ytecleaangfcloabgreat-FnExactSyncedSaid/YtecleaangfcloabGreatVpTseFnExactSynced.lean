/- What the sizes, copies and comparisons of FnExactSynced answer. Lemmas alone, no statement. -/
import Derived.Test.YtecleaangfcloabGreatVtFnExactSynced
import Derived.Test.YtecleaangfcloabGreatVmTse
namespace Go.Proofs.YtecleaangfcloabGreat.VtFnExactSynced
set_option linter.unusedVariables false
set_option linter.unusedSimpArgs false
set_option maxHeartbeats 2000000
open Go Go.Vm

abbrev TyReply : Ty := (.pair (.int .i64) (.pair (.int .i64) .unit))
abbrev TyLast : Ty := (.pair (.int .i64) (.pair (.int .i64) (.pair (.int .i64) (.pair (.int .i64) .unit))))
abbrev TySession : Ty := (.pair (.int .i64) (.pair .bool .unit))
abbrev TyTomb : Ty := (.pair (.sl (.int .u8)) (.pair (.int .i64) .unit))
abbrev TyRow : Ty := (.pair (.sl (.int .u8)) (.pair (.sl (.int .u8)) (.pair (.int .i64) (.pair (.int .i64) .unit))))
abbrev TyState : Ty := (.pair (.int .i64) (.pair (.sl (.pair (.sl (.int .u8)) (.pair (.sl (.int .u8)) (.pair (.int .i64) (.pair (.int .i64) .unit))))) (.pair (.sl (.pair (.sl (.int .u8)) (.pair (.int .i64) .unit))) (.pair (.int .i64) (.pair (.sl (.pair (.int .i64) (.pair .bool .unit))) (.pair (.sl (.pair (.int .i64) (.pair (.int .i64) (.pair (.int .i64) (.pair (.int .i64) .unit))))) .unit))))))
abbrev TyCheck : Ty := (.pair (.sl (.int .u8)) (.pair (.int .i64) (.pair (.int .i64) (.pair (.int .i64) (.pair (.int .i64) (.pair (.int .i64) .unit))))))
abbrev TyService : Ty := (.pair (.sl (.int .u8)) (.pair (.sl (.pair (.sl (.int .u8)) (.pair (.int .i64) (.pair (.int .i64) (.pair (.int .i64) (.pair (.int .i64) (.pair (.int .i64) .unit))))))) .unit))
abbrev TyLocal : Ty := (.pair (.sl (.int .u8)) (.pair (.sl (.pair (.sl (.int .u8)) (.pair (.sl (.pair (.sl (.int .u8)) (.pair (.int .i64) (.pair (.int .i64) (.pair (.int .i64) (.pair (.int .i64) (.pair (.int .i64) .unit))))))) .unit))) .unit))
theorem eqReply (k : Nat) : EqF (Lv big (k + 1)) 77 TyReply := by
  intro x hx
  refine level_den rfl rfl ?_ rfl
  unfold ir77
  refine den_let rfl ?_
  refine den_let rfl ?_
  refine den_let rfl ?_
  simp only [List.cons_append, List.nil_append]
  refine den_ite rfl (fun h => ?_) (fun _ => ?_)
  · simp at h
  refine den_let rfl ?_
  refine den_ite rfl (fun h => ?_) (fun _ => ?_)
  · simp at h
  exact den_ret rfl rfl
theorem eqLast (k : Nat) : EqF (Lv big (k + 2)) 107 TyLast := by
  intro x hx
  refine level_den rfl rfl ?_ rfl
  unfold ir107
  refine den_let rfl ?_
  refine den_let rfl ?_
  refine den_let rfl ?_
  simp only [List.cons_append, List.nil_append]
  refine den_ite rfl (fun h => ?_) (fun _ => ?_)
  · simp at h
  refine den_let rfl ?_
  refine den_ite rfl (fun h => ?_) (fun _ => ?_)
  · simp at h
  refine den_let rfl ?_
  simp only [List.cons_append, List.nil_append]
  refine den_let rfl ?_
  refine den_call rfl (eqReply k x.2.2 hx.2.2) rfl ?_
  refine den_let rfl ?_
  refine den_ite rfl (fun h => ?_) (fun _ => ?_)
  · simp at h
  simp only [List.cons_append, List.nil_append]
  exact den_ret rfl rfl
theorem eqLastS (k : Nat) : EqF (Lv big (k + 3)) 51 (.sl TyLast) := by
  intro l hl
  exact level_den rfl rfl (eqSl ⟨rfl, fun _ => rfl⟩ (eqLast k) l hl) rfl
theorem eqSession (k : Nat) : EqF (Lv big (k + 1)) 106 TySession := by
  intro x hx
  refine level_den rfl rfl ?_ rfl
  unfold ir106
  refine den_let rfl ?_
  refine den_let rfl ?_
  refine den_let rfl ?_
  simp only [List.cons_append, List.nil_append]
  refine den_ite rfl (fun h => ?_) (fun _ => ?_)
  · simp at h
  refine den_let rfl ?_
  refine den_ite rfl (fun h => ?_) (fun _ => ?_)
  · simp at h
  exact den_ret rfl rfl
theorem eqSessionS (k : Nat) : EqF (Lv big (k + 2)) 50 (.sl TySession) := by
  intro l hl
  exact level_den rfl rfl (eqSl ⟨rfl, fun _ => rfl⟩ (eqSession k) l hl) rfl
theorem eqByteS (k : Nat) : EqF (Lv big (k + 1)) 46 (.sl (.int .u8)) := by
  intro l hl
  exact level_den rfl rfl (eqSlA rfl rfl (fun y => by first | (show some (B (decide ((y : Int) ≠ y))) = some (B false); simp; done) | (show some (B ((y : Int) != y)) = some (B false); simp; done) | (simp [evX]; done)) l hl) rfl
theorem toReply (k : Nat) : ToF (Lv big (k + 1)) 140 TyReply := by
  intro x hx
  refine level_den rfl rfl ?_ rfl
  unfold ir140
  refine den_let rfl ?_
  refine den_let rfl ?_
  refine den_let rfl ?_
  simp only [List.cons_append, List.nil_append]
  refine den_let rfl ?_
  refine den_let rfl ?_
  refine den_let rfl ?_
  exact den_ret rfl rfl
theorem toLast (k : Nat) : ToF (Lv big (k + 2)) 102 TyLast := by
  intro x hx
  refine level_den rfl rfl ?_ rfl
  unfold ir102
  refine den_let rfl ?_
  refine den_let rfl ?_
  refine den_let rfl ?_
  simp only [List.cons_append, List.nil_append]
  refine den_let rfl ?_
  refine den_call rfl (toReply k x.2.2 hx.2.2) rfl ?_
  refine den_let rfl ?_
  refine den_let rfl ?_
  simp only [List.cons_append, List.nil_append]
  refine den_let rfl ?_
  refine den_let rfl ?_
  exact den_ret rfl rfl
theorem toLastS (k : Nat) : ToF (Lv big (k + 3)) 45 (.sl TyLast) := by
  intro l hl
  exact level_den rfl rfl (toSl ⟨rfl, fun _ => rfl⟩ (fun _ => rfl) (toLast k) l hl) rfl
theorem toSession (k : Nat) : ToF (Lv big (k + 1)) 101 TySession := by
  intro x hx
  refine level_den rfl rfl ?_ rfl
  unfold ir101
  refine den_let rfl ?_
  refine den_let rfl ?_
  refine den_let rfl ?_
  simp only [List.cons_append, List.nil_append]
  refine den_let rfl ?_
  refine den_let rfl ?_
  refine den_let rfl ?_
  exact den_ret rfl rfl
theorem toSessionS (k : Nat) : ToF (Lv big (k + 2)) 44 (.sl TySession) := by
  intro l hl
  exact level_den rfl rfl (toSl ⟨rfl, fun _ => rfl⟩ (fun _ => rfl) (toSession k) l hl) rfl
theorem toByteS (k : Nat) : ToF (Lv big (k + 1)) 40 (.sl (.int .u8)) := by
  intro l hl
  exact level_den rfl rfl (toSlA rfl rfl (fun _ => rfl) l hl) rfl
theorem szLastS (k : Nat) : SzF (Lv big (k + 1)) 36 (.sl TyLast) := by
  intro l a h0 h1 hw
  obtain ⟨r, h1, h2, h3⟩ := szSlA (fun _ => by repeat (first | exact trivial | refine And.intro trivial ?_)) l a h0 h1 hw
  exact ⟨r, level_den rfl rfl h1 rfl, h2, h3⟩
theorem szSessionS (k : Nat) : SzF (Lv big (k + 1)) 35 (.sl TySession) := by
  intro l a h0 h1 hw
  obtain ⟨r, h1, h2, h3⟩ := szSlA (fun _ => by repeat (first | exact trivial | refine And.intro trivial ?_)) l a h0 h1 hw
  exact ⟨r, level_den rfl rfl h1 rfl, h2, h3⟩
theorem szByteS (k : Nat) : SzF (Lv big (k + 1)) 31 (.sl (.int .u8)) := by
  intro l a h0 h1 hw
  obtain ⟨r, h1, h2, h3⟩ := szSlA (fun _ => by repeat (first | exact trivial | refine And.intro trivial ?_)) l a h0 h1 hw
  exact ⟨r, level_den rfl rfl h1 rfl, h2, h3⟩
theorem eqTomb (k : Nat) : EqF (Lv big (k + 2)) 105 TyTomb := by
  intro x hx
  refine level_den rfl rfl ?_ rfl
  unfold ir105
  refine den_let rfl ?_
  refine den_let rfl ?_
  refine den_call rfl (eqByteS k x.1 hx.1) rfl ?_
  simp only [List.cons_append, List.nil_append]
  refine den_let rfl ?_
  refine den_ite rfl (fun h => ?_) (fun _ => ?_)
  · simp at h
  refine den_let rfl ?_
  refine den_ite rfl (fun h => ?_) (fun _ => ?_)
  · simp at h
  simp only [List.cons_append, List.nil_append]
  exact den_ret rfl rfl
theorem eqTombS (k : Nat) : EqF (Lv big (k + 3)) 49 (.sl TyTomb) := by
  intro l hl
  exact level_den rfl rfl (eqSl ⟨rfl, fun _ => rfl⟩ (eqTomb k) l hl) rfl
theorem eqRow (k : Nat) : EqF (Lv big (k + 2)) 104 TyRow := by
  intro x hx
  refine level_den rfl rfl ?_ rfl
  unfold ir104
  refine den_let rfl ?_
  refine den_let rfl ?_
  refine den_call rfl (eqByteS k x.1 hx.1) rfl ?_
  simp only [List.cons_append, List.nil_append]
  refine den_let rfl ?_
  refine den_ite rfl (fun h => ?_) (fun _ => ?_)
  · simp at h
  refine den_call rfl (eqByteS k x.2.1 hx.2.1) rfl ?_
  refine den_let rfl ?_
  simp only [List.cons_append, List.nil_append]
  refine den_ite rfl (fun h => ?_) (fun _ => ?_)
  · simp at h
  refine den_let rfl ?_
  refine den_ite rfl (fun h => ?_) (fun _ => ?_)
  · simp at h
  refine den_let rfl ?_
  simp only [List.cons_append, List.nil_append]
  refine den_ite rfl (fun h => ?_) (fun _ => ?_)
  · simp at h
  exact den_ret rfl rfl
theorem eqRowS (k : Nat) : EqF (Lv big (k + 3)) 48 (.sl TyRow) := by
  intro l hl
  exact level_den rfl rfl (eqSl ⟨rfl, fun _ => rfl⟩ (eqRow k) l hl) rfl
theorem eqState (k : Nat) : EqF (Lv big (k + 4)) 13 TyState := by
  intro x hx
  refine level_den rfl rfl ?_ rfl
  unfold ir13
  refine den_let rfl ?_
  refine den_let rfl ?_
  refine den_let rfl ?_
  simp only [List.cons_append, List.nil_append]
  refine den_ite rfl (fun h => ?_) (fun _ => ?_)
  · simp at h
  refine den_call rfl (eqRowS k x.2.1 hx.2.1) rfl ?_
  refine den_let rfl ?_
  refine den_ite rfl (fun h => ?_) (fun _ => ?_)
  · simp at h
  simp only [List.cons_append, List.nil_append]
  refine den_call rfl (eqTombS k x.2.2.1 hx.2.2.1) rfl ?_
  refine den_let rfl ?_
  refine den_ite rfl (fun h => ?_) (fun _ => ?_)
  · simp at h
  refine den_let rfl ?_
  simp only [List.cons_append, List.nil_append]
  refine den_ite rfl (fun h => ?_) (fun _ => ?_)
  · simp at h
  refine den_call rfl (eqSessionS (k + 1) x.2.2.2.2.1 hx.2.2.2.2.1) rfl ?_
  refine den_let rfl ?_
  refine den_ite rfl (fun h => ?_) (fun _ => ?_)
  · simp at h
  simp only [List.cons_append, List.nil_append]
  refine den_call rfl (eqLastS k x.2.2.2.2.2.1 hx.2.2.2.2.2.1) rfl ?_
  refine den_let rfl ?_
  refine den_ite rfl (fun h => ?_) (fun _ => ?_)
  · simp at h
  exact den_ret rfl rfl
theorem eqCheck (k : Nat) : EqF (Lv big (k + 2)) 165 TyCheck := by
  intro x hx
  refine level_den rfl rfl ?_ rfl
  unfold ir165
  refine den_let rfl ?_
  refine den_let rfl ?_
  refine den_call rfl (eqByteS k x.1 hx.1) rfl ?_
  simp only [List.cons_append, List.nil_append]
  refine den_let rfl ?_
  refine den_ite rfl (fun h => ?_) (fun _ => ?_)
  · simp at h
  refine den_let rfl ?_
  refine den_ite rfl (fun h => ?_) (fun _ => ?_)
  · simp at h
  simp only [List.cons_append, List.nil_append]
  refine den_let rfl ?_
  refine den_ite rfl (fun h => ?_) (fun _ => ?_)
  · simp at h
  refine den_let rfl ?_
  refine den_ite rfl (fun h => ?_) (fun _ => ?_)
  · simp at h
  simp only [List.cons_append, List.nil_append]
  refine den_let rfl ?_
  refine den_ite rfl (fun h => ?_) (fun _ => ?_)
  · simp at h
  refine den_let rfl ?_
  refine den_ite rfl (fun h => ?_) (fun _ => ?_)
  · simp at h
  simp only [List.cons_append, List.nil_append]
  exact den_ret rfl rfl
theorem eqCheckS (k : Nat) : EqF (Lv big (k + 3)) 141 (.sl TyCheck) := by
  intro l hl
  exact level_den rfl rfl (eqSl ⟨rfl, fun _ => rfl⟩ (eqCheck k) l hl) rfl
theorem eqService (k : Nat) : EqF (Lv big (k + 4)) 103 TyService := by
  intro x hx
  refine level_den rfl rfl ?_ rfl
  unfold ir103
  refine den_let rfl ?_
  refine den_let rfl ?_
  refine den_call rfl (eqByteS (k + 2) x.1 hx.1) rfl ?_
  simp only [List.cons_append, List.nil_append]
  refine den_let rfl ?_
  refine den_ite rfl (fun h => ?_) (fun _ => ?_)
  · simp at h
  refine den_call rfl (eqCheckS k x.2.1 hx.2.1) rfl ?_
  refine den_let rfl ?_
  simp only [List.cons_append, List.nil_append]
  refine den_ite rfl (fun h => ?_) (fun _ => ?_)
  · simp at h
  exact den_ret rfl rfl
theorem eqServiceS (k : Nat) : EqF (Lv big (k + 5)) 47 (.sl TyService) := by
  intro l hl
  exact level_den rfl rfl (eqSl ⟨rfl, fun _ => rfl⟩ (eqService k) l hl) rfl
theorem eqLocal (k : Nat) : EqF (Lv big (k + 6)) 12 TyLocal := by
  intro x hx
  refine level_den rfl rfl ?_ rfl
  unfold ir12
  refine den_let rfl ?_
  refine den_let rfl ?_
  refine den_call rfl (eqByteS (k + 4) x.1 hx.1) rfl ?_
  simp only [List.cons_append, List.nil_append]
  refine den_let rfl ?_
  refine den_ite rfl (fun h => ?_) (fun _ => ?_)
  · simp at h
  refine den_call rfl (eqServiceS k x.2.1 hx.2.1) rfl ?_
  refine den_let rfl ?_
  simp only [List.cons_append, List.nil_append]
  refine den_ite rfl (fun h => ?_) (fun _ => ?_)
  · simp at h
  exact den_ret rfl rfl
theorem toTomb (k : Nat) : ToF (Lv big (k + 2)) 100 TyTomb := by
  intro x hx
  refine level_den rfl rfl ?_ rfl
  unfold ir100
  refine den_let rfl ?_
  refine den_call rfl (toByteS k x.1 hx.1) rfl ?_
  refine den_let rfl ?_
  simp only [List.cons_append, List.nil_append]
  refine den_let rfl ?_
  refine den_let rfl ?_
  refine den_let rfl ?_
  refine den_let rfl ?_
  simp only [List.cons_append, List.nil_append]
  exact den_ret rfl rfl
theorem toTombS (k : Nat) : ToF (Lv big (k + 3)) 43 (.sl TyTomb) := by
  intro l hl
  exact level_den rfl rfl (toSl ⟨rfl, fun _ => rfl⟩ (fun _ => rfl) (toTomb k) l hl) rfl
theorem toRow (k : Nat) : ToF (Lv big (k + 2)) 99 TyRow := by
  intro x hx
  refine level_den rfl rfl ?_ rfl
  unfold ir99
  refine den_let rfl ?_
  refine den_call rfl (toByteS k x.1 hx.1) rfl ?_
  refine den_let rfl ?_
  simp only [List.cons_append, List.nil_append]
  refine den_call rfl (toByteS k x.2.1 hx.2.1) rfl ?_
  refine den_let rfl ?_
  refine den_let rfl ?_
  refine den_let rfl ?_
  simp only [List.cons_append, List.nil_append]
  refine den_let rfl ?_
  refine den_let rfl ?_
  refine den_let rfl ?_
  exact den_ret rfl rfl
theorem toRowS (k : Nat) : ToF (Lv big (k + 3)) 42 (.sl TyRow) := by
  intro l hl
  exact level_den rfl rfl (toSl ⟨rfl, fun _ => rfl⟩ (fun _ => rfl) (toRow k) l hl) rfl
theorem toState (k : Nat) : ToF (Lv big (k + 4)) 10 TyState := by
  intro x hx
  refine level_den rfl rfl ?_ rfl
  unfold ir10
  refine den_let rfl ?_
  refine den_let rfl ?_
  refine den_call rfl (toRowS k x.2.1 hx.2.1) rfl ?_
  simp only [List.cons_append, List.nil_append]
  refine den_let rfl ?_
  refine den_call rfl (toTombS k x.2.2.1 hx.2.2.1) rfl ?_
  refine den_let rfl ?_
  refine den_let rfl ?_
  simp only [List.cons_append, List.nil_append]
  refine den_call rfl (toSessionS (k + 1) x.2.2.2.2.1 hx.2.2.2.2.1) rfl ?_
  refine den_let rfl ?_
  refine den_call rfl (toLastS k x.2.2.2.2.2.1 hx.2.2.2.2.2.1) rfl ?_
  refine den_let rfl ?_
  simp only [List.cons_append, List.nil_append]
  refine den_let rfl ?_
  refine den_let rfl ?_
  refine den_let rfl ?_
  exact den_ret rfl rfl
theorem toCheck (k : Nat) : ToF (Lv big (k + 2)) 164 TyCheck := by
  intro x hx
  refine level_den rfl rfl ?_ rfl
  unfold ir164
  refine den_let rfl ?_
  refine den_call rfl (toByteS k x.1 hx.1) rfl ?_
  refine den_let rfl ?_
  simp only [List.cons_append, List.nil_append]
  refine den_let rfl ?_
  refine den_let rfl ?_
  refine den_let rfl ?_
  refine den_let rfl ?_
  simp only [List.cons_append, List.nil_append]
  refine den_let rfl ?_
  refine den_let rfl ?_
  refine den_let rfl ?_
  refine den_let rfl ?_
  simp only [List.cons_append, List.nil_append]
  exact den_ret rfl rfl
theorem toCheckS (k : Nat) : ToF (Lv big (k + 3)) 139 (.sl TyCheck) := by
  intro l hl
  exact level_den rfl rfl (toSl ⟨rfl, fun _ => rfl⟩ (fun _ => rfl) (toCheck k) l hl) rfl
theorem toService (k : Nat) : ToF (Lv big (k + 4)) 98 TyService := by
  intro x hx
  refine level_den rfl rfl ?_ rfl
  unfold ir98
  refine den_let rfl ?_
  refine den_call rfl (toByteS (k + 2) x.1 hx.1) rfl ?_
  refine den_let rfl ?_
  simp only [List.cons_append, List.nil_append]
  refine den_call rfl (toCheckS k x.2.1 hx.2.1) rfl ?_
  refine den_let rfl ?_
  refine den_let rfl ?_
  refine den_let rfl ?_
  simp only [List.cons_append, List.nil_append]
  refine den_let rfl ?_
  exact den_ret rfl rfl
theorem toServiceS (k : Nat) : ToF (Lv big (k + 5)) 41 (.sl TyService) := by
  intro l hl
  exact level_den rfl rfl (toSl ⟨rfl, fun _ => rfl⟩ (fun _ => rfl) (toService k) l hl) rfl
theorem toLocal (k : Nat) : ToF (Lv big (k + 6)) 9 TyLocal := by
  intro x hx
  refine level_den rfl rfl ?_ rfl
  unfold ir9
  refine den_let rfl ?_
  refine den_call rfl (toByteS (k + 4) x.1 hx.1) rfl ?_
  refine den_let rfl ?_
  simp only [List.cons_append, List.nil_append]
  refine den_call rfl (toServiceS k x.2.1 hx.2.1) rfl ?_
  refine den_let rfl ?_
  refine den_let rfl ?_
  refine den_let rfl ?_
  simp only [List.cons_append, List.nil_append]
  refine den_let rfl ?_
  exact den_ret rfl rfl
theorem szTomb (k : Nat) : SzF (Lv big (k + 2)) 85 TyTomb := by
  intro x a h0 h1 hw
  have key : Ans (Lv big (k + 2) 85 [⟨TyTomb, x⟩, I a]) (fun rs => ∃ r, rs = [I r] ∧ r ≤ a ∧ (r < 0 ∨ (0 ≤ r ∧ okD TyTomb x))) := by
    refine ans_level rfl rfl ?_ (by rintro rs ⟨r, rfl, _⟩; rfl)
    unfold ir85
    refine ans_let rfl ?_
    obtain ⟨r3, er3, br3, cr3⟩ := szByteS k x.1 a (by omega) (by omega) hw.1
    refine ans_call rfl er3 rfl ?_
    refine ans_let rfl ?_
    simp only [List.cons_append, List.nil_append]
    refine ans_ite rfl (fun _ => ans_ret rfl ⟨-1, rfl, by omega, .inl (by omega)⟩) (fun h => ?_)
    have h : 0 ≤ r3 := by simpa using h
    rcases cr3 with cr3 | ⟨_, cr3⟩
    · omega
    exact ans_ret rfl ⟨r3, rfl, by omega, .inr ⟨by omega, (And.intro cr3 (And.intro trivial trivial))⟩⟩
  obtain ⟨rs, e, r, rfl, c1, c2⟩ := key
  exact ⟨r, e, c1, c2⟩
theorem szTombS (k : Nat) : SzF (Lv big (k + 3)) 34 (.sl TyTomb) := by
  intro l a h0 h1 hw
  obtain ⟨r, h1, h2, h3⟩ := szSl ⟨rfl, fun _ => rfl⟩ (szTomb k) l a h0 h1 hw
  exact ⟨r, level_den rfl rfl h1 rfl, h2, h3⟩
theorem szRow (k : Nat) : SzF (Lv big (k + 2)) 84 TyRow := by
  intro x a h0 h1 hw
  have key : Ans (Lv big (k + 2) 84 [⟨TyRow, x⟩, I a]) (fun rs => ∃ r, rs = [I r] ∧ r ≤ a ∧ (r < 0 ∨ (0 ≤ r ∧ okD TyRow x))) := by
    refine ans_level rfl rfl ?_ (by rintro rs ⟨r, rfl, _⟩; rfl)
    unfold ir84
    refine ans_let rfl ?_
    obtain ⟨r3, er3, br3, cr3⟩ := szByteS k x.1 a (by omega) (by omega) hw.1
    refine ans_call rfl er3 rfl ?_
    refine ans_let rfl ?_
    simp only [List.cons_append, List.nil_append]
    refine ans_ite rfl (fun _ => ans_ret rfl ⟨-1, rfl, by omega, .inl (by omega)⟩) (fun h => ?_)
    have h : 0 ≤ r3 := by simpa using h
    rcases cr3 with cr3 | ⟨_, cr3⟩
    · omega
    obtain ⟨r5, er5, br5, cr5⟩ := szByteS k x.2.1 r3 (by omega) (by omega) hw.2.1
    refine ans_call rfl er5 rfl ?_
    refine ans_let rfl ?_
    refine ans_ite rfl (fun _ => ans_ret rfl ⟨-1, rfl, by omega, .inl (by omega)⟩) (fun h => ?_)
    have h : 0 ≤ r5 := by simpa using h
    rcases cr5 with cr5 | ⟨_, cr5⟩
    · omega
    simp only [List.cons_append, List.nil_append]
    exact ans_ret rfl ⟨r5, rfl, by omega, .inr ⟨by omega, (And.intro cr3 (And.intro cr5 (And.intro trivial (And.intro trivial trivial))))⟩⟩
  obtain ⟨rs, e, r, rfl, c1, c2⟩ := key
  exact ⟨r, e, c1, c2⟩
theorem szRowS (k : Nat) : SzF (Lv big (k + 3)) 33 (.sl TyRow) := by
  intro l a h0 h1 hw
  obtain ⟨r, h1, h2, h3⟩ := szSl ⟨rfl, fun _ => rfl⟩ (szRow k) l a h0 h1 hw
  exact ⟨r, level_den rfl rfl h1 rfl, h2, h3⟩
theorem szState (k : Nat) : SzF (Lv big (k + 4)) 7 TyState := by
  intro x a h0 h1 hw
  have key : Ans (Lv big (k + 4) 7 [⟨TyState, x⟩, I a]) (fun rs => ∃ r, rs = [I r] ∧ r ≤ a ∧ (r < 0 ∨ (0 ≤ r ∧ okD TyState x))) := by
    refine ans_level rfl rfl ?_ (by rintro rs ⟨r, rfl, _⟩; rfl)
    unfold ir7
    refine ans_let rfl ?_
    obtain ⟨r3, er3, br3, cr3⟩ := szRowS k x.2.1 a (by omega) (by omega) hw.2.1
    refine ans_call rfl er3 rfl ?_
    refine ans_let rfl ?_
    simp only [List.cons_append, List.nil_append]
    refine ans_ite rfl (fun _ => ans_ret rfl ⟨-1, rfl, by omega, .inl (by omega)⟩) (fun h => ?_)
    have h : 0 ≤ r3 := by simpa using h
    rcases cr3 with cr3 | ⟨_, cr3⟩
    · omega
    obtain ⟨r5, er5, br5, cr5⟩ := szTombS k x.2.2.1 r3 (by omega) (by omega) hw.2.2.1
    refine ans_call rfl er5 rfl ?_
    refine ans_let rfl ?_
    refine ans_ite rfl (fun _ => ans_ret rfl ⟨-1, rfl, by omega, .inl (by omega)⟩) (fun h => ?_)
    have h : 0 ≤ r5 := by simpa using h
    rcases cr5 with cr5 | ⟨_, cr5⟩
    · omega
    simp only [List.cons_append, List.nil_append]
    obtain ⟨r7, er7, br7, cr7⟩ := szSessionS (k + 2) x.2.2.2.2.1 r5 (by omega) (by omega) hw.2.2.2.2.1
    refine ans_call rfl er7 rfl ?_
    refine ans_let rfl ?_
    refine ans_ite rfl (fun _ => ans_ret rfl ⟨-1, rfl, by omega, .inl (by omega)⟩) (fun h => ?_)
    have h : 0 ≤ r7 := by simpa using h
    rcases cr7 with cr7 | ⟨_, cr7⟩
    · omega
    obtain ⟨r9, er9, br9, cr9⟩ := szLastS (k + 2) x.2.2.2.2.2.1 r7 (by omega) (by omega) hw.2.2.2.2.2.1
    refine ans_call rfl er9 rfl ?_
    simp only [List.cons_append, List.nil_append]
    refine ans_let rfl ?_
    refine ans_ite rfl (fun _ => ans_ret rfl ⟨-1, rfl, by omega, .inl (by omega)⟩) (fun h => ?_)
    have h : 0 ≤ r9 := by simpa using h
    rcases cr9 with cr9 | ⟨_, cr9⟩
    · omega
    exact ans_ret rfl ⟨r9, rfl, by omega, .inr ⟨by omega, (And.intro trivial (And.intro cr3 (And.intro cr5 (And.intro trivial (And.intro cr7 (And.intro cr9 trivial))))))⟩⟩
  obtain ⟨rs, e, r, rfl, c1, c2⟩ := key
  exact ⟨r, e, c1, c2⟩
theorem szCheck (k : Nat) : SzF (Lv big (k + 2)) 163 TyCheck := by
  intro x a h0 h1 hw
  have key : Ans (Lv big (k + 2) 163 [⟨TyCheck, x⟩, I a]) (fun rs => ∃ r, rs = [I r] ∧ r ≤ a ∧ (r < 0 ∨ (0 ≤ r ∧ okD TyCheck x))) := by
    refine ans_level rfl rfl ?_ (by rintro rs ⟨r, rfl, _⟩; rfl)
    unfold ir163
    refine ans_let rfl ?_
    obtain ⟨r3, er3, br3, cr3⟩ := szByteS k x.1 a (by omega) (by omega) hw.1
    refine ans_call rfl er3 rfl ?_
    refine ans_let rfl ?_
    simp only [List.cons_append, List.nil_append]
    refine ans_ite rfl (fun _ => ans_ret rfl ⟨-1, rfl, by omega, .inl (by omega)⟩) (fun h => ?_)
    have h : 0 ≤ r3 := by simpa using h
    rcases cr3 with cr3 | ⟨_, cr3⟩
    · omega
    exact ans_ret rfl ⟨r3, rfl, by omega, .inr ⟨by omega, (And.intro cr3 (And.intro trivial (And.intro trivial (And.intro trivial (And.intro trivial (And.intro trivial trivial))))))⟩⟩
  obtain ⟨rs, e, r, rfl, c1, c2⟩ := key
  exact ⟨r, e, c1, c2⟩
theorem szCheckS (k : Nat) : SzF (Lv big (k + 3)) 136 (.sl TyCheck) := by
  intro l a h0 h1 hw
  obtain ⟨r, h1, h2, h3⟩ := szSl ⟨rfl, fun _ => rfl⟩ (szCheck k) l a h0 h1 hw
  exact ⟨r, level_den rfl rfl h1 rfl, h2, h3⟩
theorem szService (k : Nat) : SzF (Lv big (k + 4)) 83 TyService := by
  intro x a h0 h1 hw
  have key : Ans (Lv big (k + 4) 83 [⟨TyService, x⟩, I a]) (fun rs => ∃ r, rs = [I r] ∧ r ≤ a ∧ (r < 0 ∨ (0 ≤ r ∧ okD TyService x))) := by
    refine ans_level rfl rfl ?_ (by rintro rs ⟨r, rfl, _⟩; rfl)
    unfold ir83
    refine ans_let rfl ?_
    obtain ⟨r3, er3, br3, cr3⟩ := szByteS (k + 2) x.1 a (by omega) (by omega) hw.1
    refine ans_call rfl er3 rfl ?_
    refine ans_let rfl ?_
    simp only [List.cons_append, List.nil_append]
    refine ans_ite rfl (fun _ => ans_ret rfl ⟨-1, rfl, by omega, .inl (by omega)⟩) (fun h => ?_)
    have h : 0 ≤ r3 := by simpa using h
    rcases cr3 with cr3 | ⟨_, cr3⟩
    · omega
    obtain ⟨r5, er5, br5, cr5⟩ := szCheckS k x.2.1 r3 (by omega) (by omega) hw.2.1
    refine ans_call rfl er5 rfl ?_
    refine ans_let rfl ?_
    refine ans_ite rfl (fun _ => ans_ret rfl ⟨-1, rfl, by omega, .inl (by omega)⟩) (fun h => ?_)
    have h : 0 ≤ r5 := by simpa using h
    rcases cr5 with cr5 | ⟨_, cr5⟩
    · omega
    simp only [List.cons_append, List.nil_append]
    exact ans_ret rfl ⟨r5, rfl, by omega, .inr ⟨by omega, (And.intro cr3 (And.intro cr5 trivial))⟩⟩
  obtain ⟨rs, e, r, rfl, c1, c2⟩ := key
  exact ⟨r, e, c1, c2⟩
theorem szServiceS (k : Nat) : SzF (Lv big (k + 5)) 32 (.sl TyService) := by
  intro l a h0 h1 hw
  obtain ⟨r, h1, h2, h3⟩ := szSl ⟨rfl, fun _ => rfl⟩ (szService k) l a h0 h1 hw
  exact ⟨r, level_den rfl rfl h1 rfl, h2, h3⟩
theorem szLocal (k : Nat) : SzF (Lv big (k + 6)) 6 TyLocal := by
  intro x a h0 h1 hw
  have key : Ans (Lv big (k + 6) 6 [⟨TyLocal, x⟩, I a]) (fun rs => ∃ r, rs = [I r] ∧ r ≤ a ∧ (r < 0 ∨ (0 ≤ r ∧ okD TyLocal x))) := by
    refine ans_level rfl rfl ?_ (by rintro rs ⟨r, rfl, _⟩; rfl)
    unfold ir6
    refine ans_let rfl ?_
    obtain ⟨r3, er3, br3, cr3⟩ := szByteS (k + 4) x.1 a (by omega) (by omega) hw.1
    refine ans_call rfl er3 rfl ?_
    refine ans_let rfl ?_
    simp only [List.cons_append, List.nil_append]
    refine ans_ite rfl (fun _ => ans_ret rfl ⟨-1, rfl, by omega, .inl (by omega)⟩) (fun h => ?_)
    have h : 0 ≤ r3 := by simpa using h
    rcases cr3 with cr3 | ⟨_, cr3⟩
    · omega
    obtain ⟨r5, er5, br5, cr5⟩ := szServiceS k x.2.1 r3 (by omega) (by omega) hw.2.1
    refine ans_call rfl er5 rfl ?_
    refine ans_let rfl ?_
    refine ans_ite rfl (fun _ => ans_ret rfl ⟨-1, rfl, by omega, .inl (by omega)⟩) (fun h => ?_)
    have h : 0 ≤ r5 := by simpa using h
    rcases cr5 with cr5 | ⟨_, cr5⟩
    · omega
    simp only [List.cons_append, List.nil_append]
    exact ans_ret rfl ⟨r5, rfl, by omega, .inr ⟨by omega, (And.intro cr3 (And.intro cr5 trivial))⟩⟩
  obtain ⟨rs, e, r, rfl, c1, c2⟩ := key
  exact ⟨r, e, c1, c2⟩
end Go.Proofs.YtecleaangfcloabGreat.VtFnExactSynced
