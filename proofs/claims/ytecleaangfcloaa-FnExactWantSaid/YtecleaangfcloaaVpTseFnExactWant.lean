/- What the sizes, copies and comparisons of FnExactWant answer. Lemmas alone, no statement. -/
import Derived.Test.YtecleaangfcloaaVtFnExactWant
import Derived.Test.YtecleaangfcloaaVmTse
namespace Go.Proofs.Ytecleaangfcloaa.VtFnExactWant
set_option linter.unusedVariables false
set_option linter.unusedSimpArgs false
set_option maxHeartbeats 2000000
open Go Go.Vm

abbrev TyPair : Ty := (.pair (.sl (.int .u8)) (.pair (.sl (.int .u8)) .unit))
abbrev TyCheck : Ty := (.pair (.sl (.int .u8)) (.pair (.int .i64) (.pair (.int .i64) (.pair (.int .i64) (.pair (.int .i64) (.pair (.int .i64) .unit))))))
abbrev TyService : Ty := (.pair (.sl (.int .u8)) (.pair (.sl (.pair (.sl (.int .u8)) (.pair (.int .i64) (.pair (.int .i64) (.pair (.int .i64) (.pair (.int .i64) (.pair (.int .i64) .unit))))))) .unit))
abbrev TyLocal : Ty := (.pair (.sl (.int .u8)) (.pair (.sl (.pair (.sl (.int .u8)) (.pair (.sl (.pair (.sl (.int .u8)) (.pair (.int .i64) (.pair (.int .i64) (.pair (.int .i64) (.pair (.int .i64) (.pair (.int .i64) .unit))))))) .unit))) .unit))
theorem eqByteS (k : Nat) : EqF (Lv big (k + 1)) 96 (.sl (.int .u8)) := by
  intro l hl
  exact level_den rfl rfl (eqSlA rfl rfl (fun y => by first | (show some (B (decide ((y : Int) ≠ y))) = some (B false); simp; done) | (show some (B ((y : Int) != y)) = some (B false); simp; done) | (simp [evX]; done)) l hl) rfl
theorem eqPair (k : Nat) : EqF (Lv big (k + 2)) 95 TyPair := by
  intro x hx
  refine level_den rfl rfl ?_ rfl
  unfold ir95
  refine den_let rfl ?_
  refine den_let rfl ?_
  refine den_call rfl (eqByteS k x.1 hx.1) rfl ?_
  simp only [List.cons_append, List.nil_append]
  refine den_let rfl ?_
  refine den_ite rfl (fun h => ?_) (fun _ => ?_)
  · simp at h
  refine den_call rfl (eqByteS k x.2.1 hx.2.1) rfl ?_
  refine den_let rfl ?_
  simp only [List.cons_append, List.nil_append]
  refine den_ite rfl (fun h => ?_) (fun _ => ?_)
  · simp at h
  exact den_ret rfl rfl
theorem eqPairS (k : Nat) : EqF (Lv big (k + 3)) 37 (.sl TyPair) := by
  intro l hl
  exact level_den rfl rfl (eqSl ⟨rfl, fun _ => rfl⟩ (eqPair k) l hl) rfl
theorem toByteS (k : Nat) : ToF (Lv big (k + 1)) 91 (.sl (.int .u8)) := by
  intro l hl
  exact level_den rfl rfl (toSlA rfl rfl (fun _ => rfl) l hl) rfl
theorem szByteS (k : Nat) : SzF (Lv big (k + 1)) 87 (.sl (.int .u8)) := by
  intro l a h0 h1 hw
  obtain ⟨r, h1, h2, h3⟩ := szSlA (fun _ => by repeat (first | exact trivial | refine And.intro trivial ?_)) l a h0 h1 hw
  exact ⟨r, level_den rfl rfl h1 rfl, h2, h3⟩
theorem eqCheck (k : Nat) : EqF (Lv big (k + 2)) 209 TyCheck := by
  intro x hx
  refine level_den rfl rfl ?_ rfl
  unfold ir209
  refine den_let rfl ?_
  refine den_let rfl ?_
  refine den_call rfl (eqByteS k x.1 hx.1) rfl ?_
  simp only [List.cons_append, List.nil_append]
  refine den_let rfl ?_
  refine den_ite rfl (fun h => ?_) (fun _ => ?_)
  · simp at h
  refine den_let rfl ?_
  refine den_ite rfl (fun h => ?_) (fun _ => ?_)
  · simp at h
  simp only [List.cons_append, List.nil_append]
  refine den_let rfl ?_
  refine den_ite rfl (fun h => ?_) (fun _ => ?_)
  · simp at h
  refine den_let rfl ?_
  refine den_ite rfl (fun h => ?_) (fun _ => ?_)
  · simp at h
  simp only [List.cons_append, List.nil_append]
  refine den_let rfl ?_
  refine den_ite rfl (fun h => ?_) (fun _ => ?_)
  · simp at h
  refine den_let rfl ?_
  refine den_ite rfl (fun h => ?_) (fun _ => ?_)
  · simp at h
  simp only [List.cons_append, List.nil_append]
  exact den_ret rfl rfl
theorem eqCheckS (k : Nat) : EqF (Lv big (k + 3)) 193 (.sl TyCheck) := by
  intro l hl
  exact level_den rfl rfl (eqSl ⟨rfl, fun _ => rfl⟩ (eqCheck k) l hl) rfl
theorem eqService (k : Nat) : EqF (Lv big (k + 4)) 158 TyService := by
  intro x hx
  refine level_den rfl rfl ?_ rfl
  unfold ir158
  refine den_let rfl ?_
  refine den_let rfl ?_
  refine den_call rfl (eqByteS (k + 2) x.1 hx.1) rfl ?_
  simp only [List.cons_append, List.nil_append]
  refine den_let rfl ?_
  refine den_ite rfl (fun h => ?_) (fun _ => ?_)
  · simp at h
  refine den_call rfl (eqCheckS k x.2.1 hx.2.1) rfl ?_
  refine den_let rfl ?_
  simp only [List.cons_append, List.nil_append]
  refine den_ite rfl (fun h => ?_) (fun _ => ?_)
  · simp at h
  exact den_ret rfl rfl
theorem eqServiceS (k : Nat) : EqF (Lv big (k + 5)) 97 (.sl TyService) := by
  intro l hl
  exact level_den rfl rfl (eqSl ⟨rfl, fun _ => rfl⟩ (eqService k) l hl) rfl
theorem eqLocal (k : Nat) : EqF (Lv big (k + 6)) 38 TyLocal := by
  intro x hx
  refine level_den rfl rfl ?_ rfl
  unfold ir38
  refine den_let rfl ?_
  refine den_let rfl ?_
  refine den_call rfl (eqByteS (k + 4) x.1 hx.1) rfl ?_
  simp only [List.cons_append, List.nil_append]
  refine den_let rfl ?_
  refine den_ite rfl (fun h => ?_) (fun _ => ?_)
  · simp at h
  refine den_call rfl (eqServiceS k x.2.1 hx.2.1) rfl ?_
  refine den_let rfl ?_
  simp only [List.cons_append, List.nil_append]
  refine den_ite rfl (fun h => ?_) (fun _ => ?_)
  · simp at h
  exact den_ret rfl rfl
theorem toCheck (k : Nat) : ToF (Lv big (k + 2)) 207 TyCheck := by
  intro x hx
  refine level_den rfl rfl ?_ rfl
  unfold ir207
  refine den_let rfl ?_
  refine den_call rfl (toByteS k x.1 hx.1) rfl ?_
  refine den_let rfl ?_
  simp only [List.cons_append, List.nil_append]
  refine den_let rfl ?_
  refine den_let rfl ?_
  refine den_let rfl ?_
  refine den_let rfl ?_
  simp only [List.cons_append, List.nil_append]
  refine den_let rfl ?_
  refine den_let rfl ?_
  refine den_let rfl ?_
  refine den_let rfl ?_
  simp only [List.cons_append, List.nil_append]
  exact den_ret rfl rfl
theorem toCheckS (k : Nat) : ToF (Lv big (k + 3)) 189 (.sl TyCheck) := by
  intro l hl
  exact level_den rfl rfl (toSl ⟨rfl, fun _ => rfl⟩ (fun _ => rfl) (toCheck k) l hl) rfl
theorem toService (k : Nat) : ToF (Lv big (k + 4)) 150 TyService := by
  intro x hx
  refine level_den rfl rfl ?_ rfl
  unfold ir150
  refine den_let rfl ?_
  refine den_call rfl (toByteS (k + 2) x.1 hx.1) rfl ?_
  refine den_let rfl ?_
  simp only [List.cons_append, List.nil_append]
  refine den_call rfl (toCheckS k x.2.1 hx.2.1) rfl ?_
  refine den_let rfl ?_
  refine den_let rfl ?_
  refine den_let rfl ?_
  simp only [List.cons_append, List.nil_append]
  refine den_let rfl ?_
  exact den_ret rfl rfl
theorem toServiceS (k : Nat) : ToF (Lv big (k + 5)) 92 (.sl TyService) := by
  intro l hl
  exact level_den rfl rfl (toSl ⟨rfl, fun _ => rfl⟩ (fun _ => rfl) (toService k) l hl) rfl
theorem toLocal (k : Nat) : ToF (Lv big (k + 6)) 35 TyLocal := by
  intro x hx
  refine level_den rfl rfl ?_ rfl
  unfold ir35
  refine den_let rfl ?_
  refine den_call rfl (toByteS (k + 4) x.1 hx.1) rfl ?_
  refine den_let rfl ?_
  simp only [List.cons_append, List.nil_append]
  refine den_call rfl (toServiceS k x.2.1 hx.2.1) rfl ?_
  refine den_let rfl ?_
  refine den_let rfl ?_
  refine den_let rfl ?_
  simp only [List.cons_append, List.nil_append]
  refine den_let rfl ?_
  exact den_ret rfl rfl
theorem szCheck (k : Nat) : SzF (Lv big (k + 2)) 206 TyCheck := by
  intro x a h0 h1 hw
  have key : Ans (Lv big (k + 2) 206 [⟨TyCheck, x⟩, I a]) (fun rs => ∃ r, rs = [I r] ∧ r ≤ a ∧ (r < 0 ∨ (0 ≤ r ∧ okD TyCheck x))) := by
    refine ans_level rfl rfl ?_ (by rintro rs ⟨r, rfl, _⟩; rfl)
    unfold ir206
    refine ans_let rfl ?_
    obtain ⟨r3, er3, br3, cr3⟩ := szByteS k x.1 a (by omega) (by omega) hw.1
    refine ans_call rfl er3 rfl ?_
    refine ans_let rfl ?_
    simp only [List.cons_append, List.nil_append]
    refine ans_ite rfl (fun _ => ans_ret rfl ⟨-1, rfl, by omega, .inl (by omega)⟩) (fun h => ?_)
    have h : 0 ≤ r3 := by simpa using h
    rcases cr3 with cr3 | ⟨_, cr3⟩
    · omega
    exact ans_ret rfl ⟨r3, rfl, by omega, .inr ⟨by omega, (And.intro cr3 (And.intro trivial (And.intro trivial (And.intro trivial (And.intro trivial (And.intro trivial trivial))))))⟩⟩
  obtain ⟨rs, e, r, rfl, c1, c2⟩ := key
  exact ⟨r, e, c1, c2⟩
theorem szCheckS (k : Nat) : SzF (Lv big (k + 3)) 188 (.sl TyCheck) := by
  intro l a h0 h1 hw
  obtain ⟨r, h1, h2, h3⟩ := szSl ⟨rfl, fun _ => rfl⟩ (szCheck k) l a h0 h1 hw
  exact ⟨r, level_den rfl rfl h1 rfl, h2, h3⟩
theorem szService (k : Nat) : SzF (Lv big (k + 4)) 144 TyService := by
  intro x a h0 h1 hw
  have key : Ans (Lv big (k + 4) 144 [⟨TyService, x⟩, I a]) (fun rs => ∃ r, rs = [I r] ∧ r ≤ a ∧ (r < 0 ∨ (0 ≤ r ∧ okD TyService x))) := by
    refine ans_level rfl rfl ?_ (by rintro rs ⟨r, rfl, _⟩; rfl)
    unfold ir144
    refine ans_let rfl ?_
    obtain ⟨r3, er3, br3, cr3⟩ := szByteS (k + 2) x.1 a (by omega) (by omega) hw.1
    refine ans_call rfl er3 rfl ?_
    refine ans_let rfl ?_
    simp only [List.cons_append, List.nil_append]
    refine ans_ite rfl (fun _ => ans_ret rfl ⟨-1, rfl, by omega, .inl (by omega)⟩) (fun h => ?_)
    have h : 0 ≤ r3 := by simpa using h
    rcases cr3 with cr3 | ⟨_, cr3⟩
    · omega
    obtain ⟨r5, er5, br5, cr5⟩ := szCheckS k x.2.1 r3 (by omega) (by omega) hw.2.1
    refine ans_call rfl er5 rfl ?_
    refine ans_let rfl ?_
    refine ans_ite rfl (fun _ => ans_ret rfl ⟨-1, rfl, by omega, .inl (by omega)⟩) (fun h => ?_)
    have h : 0 ≤ r5 := by simpa using h
    rcases cr5 with cr5 | ⟨_, cr5⟩
    · omega
    simp only [List.cons_append, List.nil_append]
    exact ans_ret rfl ⟨r5, rfl, by omega, .inr ⟨by omega, (And.intro cr3 (And.intro cr5 trivial))⟩⟩
  obtain ⟨rs, e, r, rfl, c1, c2⟩ := key
  exact ⟨r, e, c1, c2⟩
theorem szServiceS (k : Nat) : SzF (Lv big (k + 5)) 88 (.sl TyService) := by
  intro l a h0 h1 hw
  obtain ⟨r, h1, h2, h3⟩ := szSl ⟨rfl, fun _ => rfl⟩ (szService k) l a h0 h1 hw
  exact ⟨r, level_den rfl rfl h1 rfl, h2, h3⟩
theorem szLocal (k : Nat) : SzF (Lv big (k + 6)) 33 TyLocal := by
  intro x a h0 h1 hw
  have key : Ans (Lv big (k + 6) 33 [⟨TyLocal, x⟩, I a]) (fun rs => ∃ r, rs = [I r] ∧ r ≤ a ∧ (r < 0 ∨ (0 ≤ r ∧ okD TyLocal x))) := by
    refine ans_level rfl rfl ?_ (by rintro rs ⟨r, rfl, _⟩; rfl)
    unfold ir33
    refine ans_let rfl ?_
    obtain ⟨r3, er3, br3, cr3⟩ := szByteS (k + 4) x.1 a (by omega) (by omega) hw.1
    refine ans_call rfl er3 rfl ?_
    refine ans_let rfl ?_
    simp only [List.cons_append, List.nil_append]
    refine ans_ite rfl (fun _ => ans_ret rfl ⟨-1, rfl, by omega, .inl (by omega)⟩) (fun h => ?_)
    have h : 0 ≤ r3 := by simpa using h
    rcases cr3 with cr3 | ⟨_, cr3⟩
    · omega
    obtain ⟨r5, er5, br5, cr5⟩ := szServiceS k x.2.1 r3 (by omega) (by omega) hw.2.1
    refine ans_call rfl er5 rfl ?_
    refine ans_let rfl ?_
    refine ans_ite rfl (fun _ => ans_ret rfl ⟨-1, rfl, by omega, .inl (by omega)⟩) (fun h => ?_)
    have h : 0 ≤ r5 := by simpa using h
    rcases cr5 with cr5 | ⟨_, cr5⟩
    · omega
    simp only [List.cons_append, List.nil_append]
    exact ans_ret rfl ⟨r5, rfl, by omega, .inr ⟨by omega, (And.intro cr3 (And.intro cr5 trivial))⟩⟩
  obtain ⟨rs, e, r, rfl, c1, c2⟩ := key
  exact ⟨r, e, c1, c2⟩
end Go.Proofs.Ytecleaangfcloaa.VtFnExactWant
