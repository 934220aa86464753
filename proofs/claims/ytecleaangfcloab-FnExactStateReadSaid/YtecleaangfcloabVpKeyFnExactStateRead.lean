/- What is asked of keys, operations and commands, by the program and by the reference, is one. Lemmas alone, no statement. -/
import Derived.Test.YtecleaangfcloabVtFnExactStateRead
import Derived.Test.YtecleaangfcloabVmTse
import Derived.Laws.Strings
namespace Go.Proofs.Ytecleaangfcloab.VtFnExactStateRead
set_option linter.unusedVariables false
set_option linter.unusedSimpArgs false
open Go Go.Vm
theorem beq_dec (a b : Int) : (a == b) = decide (a = b) := by by_cases h : a = b <;> simp [h]
theorem someB {a b : Bool} (h : a = b) : (some [B a] : Option (List Dy)) = some [⟨.bool, b⟩] := by rw [h]
theorem within60 (N k : Nat) (a lo hi : Int) : Lv N (k + 1) 41 [I a, I lo, I hi] = some [B (decide (lo ≤ a) && decide (a ≤ hi))] := by
  refine level_den rfl rfl ?_ rfl
  unfold ir41
  refine den_let rfl (den_ite rfl (fun h1 => den_let rfl (den_ret rfl ?_)) (fun h1 => den_ret rfl ?_))
  · rw [h1]; rfl
  · rw [h1]; rfl
/-- A letter, or a stroke. -/
def good (c : Int) : Bool := if c < 97 then decide (c = 47) else if c > 122 then decide (c = 47) else true
def keyOk (l : List Int) : Bool := l.all good && (decide (1 ≤ (l.length : Int)) && decide ((l.length : Int) ≤ 20))
theorem drop_all {l : List Int} {i : Int} (h0 : 0 ≤ i) (h : i.toNat < l.length) : (l.drop i.toNat).all good = (good l[i.toNat] && (l.drop (i + 1).toNat).all good) := by
  rw [show (i + 1).toNat = i.toNat + 1 by omega, List.drop_eq_getElem_cons h, List.all_cons]
set_option maxHeartbeats 4000000 in
theorem key152 (N k : Nat) (l : List Int) (hN : big ≤ N) (hm : l.length < big) : Lv N (k + 2) 60 [S (.int .u8) l] = some [B (keyOk l)] := by
  refine level_den rfl rfl ?_ rfl
  unfold ir60
  refine den_let rfl (den_loop (den_jump rfl rfl ?_))
  refine rounds_ind (α := Int) (enc := fun i => [B false, I i]) (ans := fun i => some [B ((l.drop i.toNat).all good && (decide (1 ≤ (l.length : Int)) && decide ((l.length : Int) ≤ 20)))]) (meas := fun i => l.length - i.toNat) (Q := fun i => 0 ≤ i ∧ i ≤ l.length) (fun J i hi hJ => ?_) N 0 (by omega) (by simp; omega)
  refine den_let rfl (den_ite rfl (fun h => ?_) (fun h => ?_))
  · have h : i < l.length := by simpa using h
    have hlt : i.toNat < l.length := by omega
    have hnext : ∀ (b : Bool), good l[i.toNat] = true → J [B b, I (IntKind.i64.wrap (i + 1))] = some [B ((l.drop i.toNat).all good && (decide (1 ≤ (l.length : Int)) && decide ((l.length : Int) ≤ 20)))] ∨ b = true := by
      intro b hg
      cases b
      · refine .inl ?_
        rw [up hi.1 hi.2 hm, drop_all hi.1 hlt, hg, Bool.true_and]
        exact hJ (i + 1) (by omega) (by omega)
      · exact .inr rfl
    have hstop : good l[i.toNat] = false → some [B ((l.drop i.toNat).all good && (decide (1 ≤ (l.length : Int)) && decide ((l.length : Int) ≤ 20)))] = some [B false] := by
      intro hg
      rw [drop_all hi.1 hlt, hg]; rfl
    refine den_idx rfl rfl rfl hi.1 (List.getElem?_eq_getElem hlt) (den_let rfl (den_let rfl (den_ite rfl (fun h1 => ?_) (fun h1 => ?_))))
    · have h1 : l[i.toNat] < 97 := by simpa using h1
      refine den_let rfl (den_ite rfl (fun h2 => den_ret rfl ?_) (fun h2 => den_let rfl (den_jump rfl rfl ?_)))
      · exact hstop (by simp only [good, h1, if_true]; simpa using h2)
      · exact (hnext false (by simp only [good, h1, if_true]; simpa using h2)).resolve_right (by simp)
    · have h1 : ¬ l[i.toNat] < 97 := by simpa using h1
      refine den_let rfl (den_ite rfl (fun h2 => ?_) (fun h2 => ?_))
      · have h2 : l[i.toNat] > 122 := by simpa using h2
        refine den_let rfl (den_ite rfl (fun h3 => den_ret rfl ?_) (fun h3 => den_let rfl (den_jump rfl rfl ?_)))
        · exact hstop (by simp only [good, h1, h2, if_true, if_false]; simpa using h3)
        · exact (hnext false (by simp only [good, h1, h2, if_true, if_false]; simpa using h3)).resolve_right (by simp)
      · have h2 : ¬ l[i.toNat] > 122 := by simpa using h2
        exact den_let rfl (den_jump rfl rfl ((hnext false (by simp only [good, h1, h2, if_false])).resolve_right (by simp)))
  · have h : ¬ i < l.length := by simpa using h
    refine den_let rfl (den_call rfl (within60 N k _ 1 20) rfl (den_ret rfl ?_))
    rw [List.drop_of_length_le (by omega)]
    rfl
set_option maxHeartbeats 4000000 in
theorem key136 (N k : Nat) (l : List Int) (hN : big ≤ N) (hm : l.length < big) : Lv N (k + 1) 55 [S (.int .u8) l] = some [B (keyOk l)] := by
  refine level_den rfl rfl ?_ rfl
  unfold ir55
  refine den_let rfl (den_let rfl (den_ite rfl (fun h => den_ret rfl ?_) (fun ha => den_let rfl (den_let rfl (den_ite rfl (fun h => den_ret rfl ?_) (fun hb => ?_))))))
  · have h : (l.length : Int) < 1 := by simpa using h
    unfold keyOk
    rw [decide_eq_false (show ¬ (1 ≤ (l.length : Int)) by omega)]; simp
  · have h : (l.length : Int) > 20 := by simpa using h
    unfold keyOk
    rw [decide_eq_false (show ¬ ((l.length : Int) ≤ 20) by omega)]; simp
  have ha : ¬ (l.length : Int) < 1 := by simpa using ha
  have hb : ¬ (l.length : Int) > 20 := by simpa using hb
  have hk : keyOk l = l.all good := by
    unfold keyOk
    rw [decide_eq_true (show 1 ≤ (l.length : Int) by omega), decide_eq_true (show (l.length : Int) ≤ 20 by omega)]; simp
  rw [hk]
  refine den_loop (den_jump rfl rfl ?_)
  refine rounds_ind (α := Int) (enc := fun i => [B false, I i]) (ans := fun i => some [B ((l.drop i.toNat).all good)]) (meas := fun i => l.length - i.toNat) (Q := fun i => 0 ≤ i ∧ i ≤ l.length) (fun J i hi hJ => ?_) N 0 (by omega) (by simp; omega)
  simp only [List.cons_append, List.nil_append]
  refine den_let rfl (den_let rfl (den_ite rfl (fun h => ?_) (fun h => ?_)))
  · have h : i < l.length := by simpa using h
    have hlt : i.toNat < l.length := by omega
    have hnext : good l[i.toNat] = true → J [B false, I (IntKind.i64.wrap (i + 1))] = some [B ((l.drop i.toNat).all good)] := by
      intro hg
      rw [up hi.1 hi.2 hm, drop_all hi.1 hlt, hg, Bool.true_and]
      exact hJ (i + 1) (by omega) (by omega)
    have hstop : good l[i.toNat] = false → some [B ((l.drop i.toNat).all good)] = some [B false] := by
      intro hg
      rw [drop_all hi.1 hlt, hg]; rfl
    refine den_idx rfl rfl rfl hi.1 (List.getElem?_eq_getElem hlt) (den_let rfl (den_let rfl (den_ite rfl (fun h1 => ?_) (fun h1 => ?_))))
    · have h1 : l[i.toNat] < 97 := by simpa using h1
      refine den_idx rfl rfl rfl hi.1 (List.getElem?_eq_getElem hlt) (den_let rfl (den_let rfl (den_ite rfl (fun h2 => den_ret rfl ?_) (fun h2 => den_let rfl (den_jump rfl rfl ?_)))))
      · exact hstop (by simp only [good, h1, if_true]; simpa using h2)
      · exact hnext (by simp only [good, h1, if_true]; simpa using h2)
    · have h1 : ¬ l[i.toNat] < 97 := by simpa using h1
      simp only [List.cons_append, List.nil_append]
      refine den_idx rfl rfl rfl hi.1 (List.getElem?_eq_getElem hlt) (den_let rfl (den_let rfl (den_ite rfl (fun h2 => ?_) (fun h2 => ?_))))
      · have h2 : l[i.toNat] > 122 := by simpa using h2
        simp only [List.cons_append, List.nil_append]
        refine den_idx rfl rfl rfl hi.1 (List.getElem?_eq_getElem hlt) (den_let rfl (den_let rfl (den_ite rfl (fun h3 => den_ret rfl ?_) (fun h3 => den_let rfl (den_jump rfl rfl ?_)))))
        · exact hstop (by simp only [good, h1, h2, if_true, if_false]; simpa using h3)
        · exact hnext (by simp only [good, h1, h2, if_true, if_false]; simpa using h3)
      · have h2 : ¬ l[i.toNat] > 122 := by simpa using h2
        exact den_let rfl (den_jump rfl rfl (hnext (by simp only [good, h1, h2, if_false])))
  · have h : ¬ i < l.length := by simpa using h
    refine den_ret rfl ?_
    rw [List.drop_of_length_le (by omega)]
    rfl
theorem val134 (N k : Nat) (l : List Int) : Lv N (k + 1) 56 [S (.int .u8) l] = some [B (decide ((l.length : Int) ≤ 20))] := by
  refine level_den rfl rfl ?_ rfl
  unfold ir56
  exact den_let rfl (den_let rfl (den_ret rfl rfl))
theorem val181 (N k : Nat) (l : List Int) : Lv N (k + 1) 61 [S (.int .u8) l] = some [B (decide ((l.length : Int) ≤ 20))] := by
  refine level_den rfl rfl ?_ rfl
  unfold ir61
  exact den_let rfl (den_let rfl (den_ret rfl rfl))
theorem index135 (N k : Nat) (n : Int) : Lv N (k + 1) 54 [I n] = some [B (decide (n ≥ 0) && decide (n ≤ 1000000))] := by
  refine level_den rfl rfl ?_ rfl
  unfold ir54
  refine den_let rfl (den_ite rfl (fun h1 => den_let rfl (den_ret rfl ?_)) (fun h1 => den_ret rfl ?_))
  · rw [h1]; rfl
  · rw [h1]; rfl
end Go.Proofs.Ytecleaangfcloab.VtFnExactStateRead
