/- NodeOk, by the program and by the reference, is one. Lemmas alone, no statement. -/
import Derived.Test.YtecleaangfcloaaVpItem
namespace Go.Proofs.Ytecleaangfcloaa.Vp
set_option linter.unusedVariables false
set_option linter.unusedSimpArgs false
open Go Go.Vm Go.Proofs.Ytecleaangfcloaa.VtFnExactBacked
theorem servers55 (N k : Nat) (s : Int) : level T N (k + 1) 55 [I s] = some [B (decide (s ≥ 1) && decide (s ≤ 5))] := by
  refine level_den rfl rfl ?_ rfl
  unfold ir55
  refine den_let rfl (den_ite rfl (fun h1 => den_let rfl (den_ret rfl ?_)) (fun h1 => den_ret rfl ?_))
  · rw [h1]; rfl
  · rw [h1]; rfl
theorem term56 (N k : Nat) (s : Int) : level T N (k + 1) 56 [I s] = some [B (decide (s ≥ 0) && decide (s ≤ 100000))] := by
  refine level_den rfl rfl ?_ rfl
  unfold ir56
  refine den_let rfl (den_ite rfl (fun h1 => den_let rfl (den_ret rfl ?_)) (fun h1 => den_ret rfl ?_))
  · rw [h1]; rfl
  · rw [h1]; rfl
theorem who57 (N k : Nat) (a s : Int) : level T N (k + 1) 57 [I a, I s] = some [B (decide (a ≥ -1) && decide (a < s))] := by
  refine level_den rfl rfl ?_ rfl
  unfold ir57
  refine den_let rfl (den_ite rfl (fun h1 => den_let rfl (den_ret rfl ?_)) (fun h1 => den_ret rfl ?_))
  · rw [h1]; rfl
  · rw [h1]; rfl
theorem server59 (N k : Nat) (a s : Int) : level T N (k + 2) 59 [I a, I s] = some [B (decide (1 ≤ s ∧ s ≤ 5 ∧ 0 ≤ a ∧ a < s))] := by
  refine level_den rfl rfl ?_ rfl
  unfold ir59
  refine den_call rfl (within60 N k s 1 5) rfl (den_ite rfl (fun h1 => den_let rfl (den_call rfl (within60 N k a 0 _) rfl (den_ret rfl (someB ?_)))) (fun h1 => den_ret rfl (someB ?_)))
  · simp only [Bool.and_eq_true, decide_eq_true_eq] at h1
    rw [wrap_id (by omega) (by omega), ← Bool.decide_and, decide_eq_decide]
    omega
  · rw [← Bool.decide_and, decide_eq_false_iff_not] at h1
    rw [decide_eq_false_iff_not]
    omega
/-- Is one of a list of bools true? From place i on. -/
def anyB (l : List Bool) : Bool := !(l.all fun b => !b)
theorem drop_not {l : List Bool} {i : Int} (h0 : 0 ≤ i) (h : i.toNat < l.length) : (l.drop i.toNat).all (fun b => !b) = ((!l[i.toNat]) && (l.drop (i + 1).toNat).all (fun b => !b)) := by
  rw [show (i + 1).toNat = i.toNat + 1 by omega, List.drop_eq_getElem_cons h, List.all_cons]
theorem index123 (N k : Nat) (l : List Bool) (hN : big ≤ N) (hm : l.length < big) : ∃ r, level T N (k + 1) 123 [S .bool l, B true] = some [I r] ∧ decide (r ≥ 0) = anyB l := by
  have key : Ans (level T N (k + 1) 123 [S .bool l, B true]) (fun rs => ∃ r, rs = [I r] ∧ decide (r ≥ 0) = anyB l) := by
    refine ans_level rfl rfl ?_ (by rintro rs ⟨r, rfl, _⟩; rfl)
    unfold ir123
    refine ans_let rfl (ans_loop (ans_jump rfl rfl ?_))
    refine Ans.imp (rounds_ans (α := Int) (enc := fun i => [I 0, I i]) (Post := fun i rs => ∃ r, rs = [I r] ∧ decide (r ≥ 0) = anyB (l.drop i.toNat)) (meas := fun i => l.length - i.toNat) (R := fun i => 0 ≤ i ∧ i ≤ l.length) ?_ N 0 (by omega) (by simp; omega)) (fun rs h => by simpa using h)
    intro J i hi hJ
    simp only [List.cons_append, List.nil_append]
    refine ans_let rfl (ans_ite rfl (fun h => ?_) (fun h => ?_))
    · have h : i < l.length := by simpa using h
      have hlt : i.toNat < l.length := by omega
      refine ans_idx rfl rfl rfl hi.1 (List.getElem?_eq_getElem hlt) (ans_let rfl (ans_let rfl (ans_ite rfl (fun h => ans_ret rfl ⟨i, rfl, ?_⟩) (fun h => ?_))))
      · have h : l[i.toNat] = true := by simpa using h
        unfold anyB
        rw [drop_not hi.1 hlt, h]
        simp [hi.1]
      · have h : l[i.toNat] = false := by simpa using h
        refine ans_let rfl (ans_jump rfl rfl ?_)
        rw [up hi.1 hi.2 hm]
        refine Ans.imp (hJ (i + 1) (by omega) (by omega)) ?_
        rintro rs ⟨r, rfl, hr⟩
        refine ⟨r, rfl, ?_⟩
        rw [hr]
        unfold anyB
        rw [drop_not hi.1 hlt, h]; rfl
    · have h : ¬ i < l.length := by simpa using h
      refine ans_ret rfl ⟨-1, rfl, ?_⟩
      unfold anyB
      rw [List.drop_of_length_le (by omega)]
      rfl
  obtain ⟨rs, e, r, rfl, hr⟩ := key
  exact ⟨r, e, hr⟩
theorem contains62 (N k : Nat) (l : List Bool) (hN : big ≤ N) (hm : l.length < big) : level T N (k + 2) 62 [S .bool l, B true] = some [B (anyB l)] := by
  obtain ⟨r, e, hr⟩ := index123 N k l hN hm
  refine level_den rfl rfl ?_ rfl
  unfold ir62
  refine den_call rfl e rfl (den_let rfl (den_ret rfl (someB ?_)))
  exact hr.symm

end Go.Proofs.Ytecleaangfcloaa.Vp
