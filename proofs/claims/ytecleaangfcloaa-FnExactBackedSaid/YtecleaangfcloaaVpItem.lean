/- What is asked of a command and of an item, by the program and by the reference, is one. Lemmas alone, no statement. -/
import Derived.Test.YtecleaangfcloaaVpNodeOk
import Derived.Laws.Strings
namespace Go.Proofs.Ytecleaangfcloaa.Vp
set_option linter.unusedVariables false
set_option linter.unusedSimpArgs false
open Go Go.Vm Go.Proofs.Ytecleaangfcloaa.VtFnExactBacked
theorem equal199 (N k : Nat) (l : List Int) : level T N (k + 1) 199 [S (.int .u8) l, S (.int .u8) []] = some [B (decide ((l.length : Int) = 0))] := by
  refine level_den rfl rfl ?_ rfl
  unfold ir199
  refine den_let rfl (den_let rfl (den_let rfl (den_ret rfl (someB ?_))))
  cases l with
  | nil => simp
  | cons x l =>
    rw [decide_eq_false (by simp; omega)]
    symm
    rw [beq_eq_false_iff_ne]
    intro h
    rw [ByteArray.toList_eq, ByteArray.toList_eq] at h
    simp at h
def cmdOk (c r t : Int) (k v : List Int) (n : Int) : Bool := if c = -1 then decide (r = 0) && (decide (t = 0) && opOk t k v n) else (decide (0 ≤ c) && decide (c ≤ 3)) && ((decide (1 ≤ r) && decide (r ≤ 1000000)) && opOk t k v n)
theorem cmd18 (N q : Nat) (c r t : Int) (k v : List Int) (n : Int) (hN : big ≤ N) (hk : k.length < big) : level T N (q + 3) 18 [⟨CTy, (c, r, t, k, v, n, ())⟩] = some [B (cmdOk c r t k v n)] := by
  refine level_den rfl rfl ?_ rfl
  unfold ir18 cmdOk
  refine den_let rfl (den_let rfl (den_ite rfl (fun h => ?_) (fun h => ?_)))
  · have h : c = -1 := by simpa using h
    rw [if_pos h]
    simp only [List.cons_append, List.nil_append]
    refine den_let rfl (den_ite rfl (fun h1 => den_let rfl (den_ite rfl (fun h2 => ?_) (fun h2 => den_ret rfl (someB ?_)))) (fun h1 => den_ret rfl (someB ?_)))
    · have h1 : r = 0 := by simpa using h1
      have h2 : t = 0 := by simpa using h2
      refine den_let rfl (den_call rfl (op70 N q t k v n hN hk) rfl (den_ret rfl (someB ?_)))
      simp [h1, h2]
    · have h2 : ¬ t = 0 := by simpa using h2
      simp [h2]
    · have h1 : ¬ r = 0 := by simpa using h1
      simp [h1]
  · have h : ¬ c = -1 := by simpa using h
    rw [if_neg h]
    simp only [List.cons_append, List.nil_append]
    refine den_let rfl (den_ite rfl (fun h1 => den_let rfl (den_ite rfl (fun h2 => ?_) (fun h2 => den_ret rfl (someB ?_)))) (fun h1 => den_ret rfl (someB ?_)))
    · have h1 : 0 ≤ c := by simpa using h1
      have h2 : c < 4 := by simpa using h2
      simp only [List.cons_append, List.nil_append]
      refine den_let rfl (den_ite rfl (fun h3 => den_let rfl (den_ite rfl (fun h4 => ?_) (fun h4 => den_ret rfl (someB ?_)))) (fun h3 => den_ret rfl (someB ?_)))
      · have h3 : 1 ≤ r := by simpa using h3
        have h4 : r ≤ 1000000 := by simpa using h4
        refine den_let rfl (den_call rfl (op70 N q t k v n hN hk) rfl (den_ret rfl (someB ?_)))
        rw [decide_eq_true h1, decide_eq_true (show c ≤ 3 by omega), decide_eq_true h3, decide_eq_true h4]; rfl
      · have h4 : ¬ r ≤ 1000000 := by simpa using h4
        rw [decide_eq_false h4]; simp
      · have h3 : ¬ 1 ≤ r := by simpa using h3
        rw [decide_eq_false h3]; simp
    · have h2 : ¬ c < 4 := by simpa using h2
      rw [decide_eq_false (show ¬ c ≤ 3 by omega)]; simp
    · have h1 : ¬ 0 ≤ c := by simpa using h1
      rw [decide_eq_false h1]; simp
theorem no128 (N k : Nat) : level T N (k + 1) 128 [] = some [⟨CTy, ((-1 : Int), (0 : Int), (0 : Int), ([] : List Int), ([] : List Int), (0 : Int), ())⟩] := by
  refine level_den rfl rfl ?_ rfl
  unfold ir128
  exact den_let rfl (den_let rfl (den_let rfl (den_let rfl (den_ret rfl rfl))))
theorem same180 (N q : Nat) (t : Int) (k v : List Int) (n : Int) : level T N (q + 2) 180 [⟨OTy, (t, k, v, n, ())⟩, ⟨OTy, ((0 : Int), ([] : List Int), ([] : List Int), (0 : Int), ())⟩] =
    some [B (decide (t = 0) && (decide ((k.length : Int) = 0) && (decide ((v.length : Int) = 0) && decide (n = 0))))] := by
  refine level_den rfl rfl ?_ rfl
  unfold ir180
  refine den_let rfl (den_let rfl (den_let rfl (den_ite rfl (fun h1 => den_call rfl (equal199 N q k) rfl (den_ite rfl (fun h2 => den_call rfl (equal199 N q v) rfl (den_ite rfl (fun h3 => den_let rfl (den_ret rfl (someB ?_))) (fun h3 => den_ret rfl (someB ?_)))) (fun h2 => den_ret rfl (someB ?_)))) (fun h1 => den_ret rfl (someB ?_)))))
  · have h1 : t = 0 := by simpa using h1
    rw [decide_eq_true h1, h2, h3, Bool.true_and, Bool.true_and, Bool.true_and]
    exact (beq_dec _ _).symm
  · rw [h3]; simp
  · rw [h2]; simp
  · have h1 : ¬ t = 0 := by simpa using h1
    rw [decide_eq_false h1]; simp
theorem same127 (N q : Nat) (c r t : Int) (k v : List Int) (n : Int) : level T N (q + 3) 127 [⟨CTy, (c, r, t, k, v, n, ())⟩, ⟨CTy, ((-1 : Int), (0 : Int), (0 : Int), ([] : List Int), ([] : List Int), (0 : Int), ())⟩] =
    some [B (decide (c = -1) && (decide (r = 0) && (decide (t = 0) && (decide ((k.length : Int) = 0) && (decide ((v.length : Int) = 0) && decide (n = 0))))))] := by
  refine level_den rfl rfl ?_ rfl
  unfold ir127
  refine den_let rfl (den_let rfl (den_let rfl (den_ite rfl (fun h1 => den_let rfl (den_ite rfl (fun h2 => ?_) (fun h2 => den_ret rfl (someB ?_)))) (fun h1 => den_ret rfl (someB ?_)))))
  · have h1 : c = -1 := by simpa using h1
    have h2 : r = 0 := by simpa using h2
    refine den_let rfl (den_let rfl (den_call rfl (same180 N q t k v n) rfl (den_ret rfl (someB ?_))))
    rw [decide_eq_true h1, decide_eq_true h2]; rfl
  · have h2 : ¬ r = 0 := by simpa using h2
    rw [decide_eq_false h2]; simp
  · have h1 : ¬ c = -1 := by simpa using h1
    rw [decide_eq_false h1]; simp
theorem cmd67 (N q : Nat) (c r t : Int) (k v : List Int) (n : Int) (hN : big ≤ N) (hk : k.length < big) : level T N (q + 4) 67 [⟨CTy, (c, r, t, k, v, n, ())⟩] = some [B (cmdOk c r t k v n)] := by
  refine level_den rfl rfl ?_ rfl
  unfold ir67
  refine den_let rfl (den_let rfl (den_call rfl (no128 N (q + 2)) rfl (den_call rfl (same127 N q c r t k v n) rfl (den_ite rfl (fun h => den_ret rfl (someB ?_)) (fun h => ?_)))))
  · simp only [Bool.and_eq_true, decide_eq_true_eq] at h
    obtain ⟨h1, h2, h3, h4, h5, h6⟩ := h
    unfold cmdOk opOk rngP nkP nvP numP
    subst h3
    have e1 : decide ((0 : Int) = 1 ∨ (0 : Int) = 2 ∨ (0 : Int) = 3 ∨ (0 : Int) = 6 ∨ (0 : Int) = 7) = false := rfl
    have e2 : decide ((0 : Int) = 1 ∨ (0 : Int) = 2 ∨ (0 : Int) = 6) = false := rfl
    rw [if_pos h1, decide_eq_true h2, e1, e2, decide_eq_true h4, decide_eq_true h5]
    subst h6
    have e3 : decide ((0 : Int) ≤ 0 ∧ (0 : Int) ≤ 7 ∧ (v.length : Int) ≤ 20 ∧ (0 : Int) ≤ 0 ∧ (0 : Int) ≤ 1000000) = true := by
      rw [decide_eq_true_eq]; omega
    rw [e3]; rfl
  · simp only [List.cons_append, List.nil_append]
    refine den_call rfl (within60 N (q + 2) c 0 3) rfl (den_ite rfl (fun h1 => den_call rfl (within60 N (q + 2) r 1 1000000) rfl (den_ite rfl (fun h2 => den_let rfl (den_call rfl (op129 N q t k v n hN hk) rfl (den_ret rfl (someB ?_)))) (fun h2 => den_ret rfl (someB ?_)))) (fun h1 => den_ret rfl (someB ?_)))
    · unfold cmdOk
      have hc : ¬ c = -1 := by
        simp only [Bool.and_eq_true, decide_eq_true_eq] at h1
        omega
      rw [if_neg hc, h1, h2]; rfl
    · unfold cmdOk
      have hc : ¬ c = -1 := by
        simp only [Bool.and_eq_true, decide_eq_true_eq] at h1
        omega
      rw [if_neg hc, h1, h2]; rfl
    · unfold cmdOk
      by_cases hc : c = -1
      · rw [if_pos hc]
        by_cases hr : r = 0
        · by_cases ht : t = 0
          · subst ht
            unfold opOk rngP nkP nvP numP
            have e1 : decide ((0 : Int) = 1 ∨ (0 : Int) = 2 ∨ (0 : Int) = 3 ∨ (0 : Int) = 6 ∨ (0 : Int) = 7) = false := rfl
            have e2 : decide ((0 : Int) = 1 ∨ (0 : Int) = 2 ∨ (0 : Int) = 6) = false := rfl
            rw [e1, e2]
            rw [decide_eq_true hc, decide_eq_true hr, decide_eq_true (show (0 : Int) = 0 from rfl), Bool.true_and, Bool.true_and, Bool.true_and] at h
            simp only [Bool.false_eq_true, if_false, Bool.false_or, true_or, if_true]
            rw [h, Bool.and_false, Bool.and_false]
            simp
          · rw [decide_eq_false ht]; simp
        · rw [decide_eq_false hr]; simp
      · rw [if_neg hc, h1]; rfl
def itemOk (x : D ITy) : Bool := (decide (1 ≤ x.1) && decide (x.1 ≤ 100000)) && cmdOk x.2.1 x.2.2.1 x.2.2.2.1 x.2.2.2.2.1 x.2.2.2.2.2.1 x.2.2.2.2.2.2.1
theorem item58 (N q : Nat) (x : D ITy) (hN : big ≤ N) (hk : okI x) : level T N (q + 4) 58 [⟨ITy, x⟩] = some [B (itemOk x)] := by
  refine level_den rfl rfl ?_ rfl
  unfold ir58
  refine den_let rfl (den_let rfl (den_ite rfl (fun h1 => den_let rfl (den_ite rfl (fun h2 => den_let rfl (den_call rfl (cmd18 N q x.2.1 x.2.2.1 x.2.2.2.1 x.2.2.2.2.1 x.2.2.2.2.2.1 x.2.2.2.2.2.2.1 hN hk.1) rfl (den_ret rfl (someB ?_)))) (fun h2 => den_ret rfl (someB ?_)))) (fun h1 => den_ret rfl (someB ?_))))
  · have h1 : decide (1 ≤ x.1) = true := h1
    have h2 : decide (x.1 ≤ 100000) = true := h2
    unfold itemOk
    rw [h1, h2]; rfl
  · have h2 : decide (x.1 ≤ 100000) = false := h2
    unfold itemOk
    rw [h2]; simp
  · have h1 : decide (1 ≤ x.1) = false := h1
    unfold itemOk
    rw [h1]; simp
theorem term122 (N k : Nat) (a : Int) : level T N (k + 2) 122 [I a] = some [B (decide (1 ≤ a) && decide (a ≤ 100000))] := by
  refine level_den rfl rfl ?_ rfl
  unfold ir122
  exact den_call rfl (within60 N k a 1 100000) rfl (den_ret rfl rfl)
theorem item61 (N q : Nat) (x : D ITy) (hN : big ≤ N) (hk : okI x) : level T N (q + 5) 61 [⟨ITy, x⟩] = some [B (itemOk x)] := by
  refine level_den rfl rfl ?_ rfl
  unfold ir61
  refine den_let rfl (den_call rfl (term122 N (q + 2) x.1) rfl (den_ite rfl (fun h1 => den_let rfl (den_call rfl (cmd67 N q x.2.1 x.2.2.1 x.2.2.2.1 x.2.2.2.2.1 x.2.2.2.2.2.1 x.2.2.2.2.2.2.1 hN hk.1) rfl (den_ret rfl (someB ?_)))) (fun h1 => den_ret rfl (someB ?_))))
  · unfold itemOk
    rw [h1]; rfl
  · unfold itemOk
    rw [h1]; rfl

end Go.Proofs.Ytecleaangfcloaa.Vp
