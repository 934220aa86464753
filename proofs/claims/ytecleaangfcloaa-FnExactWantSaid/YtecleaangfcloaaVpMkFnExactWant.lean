/- What the marks of FnExactWant leave, and that it is held. Lemmas alone, no statement. -/
import Derived.Test.YtecleaangfcloaaVpTseFnExactWant
import Derived.Test.YtecleaangfcloaaVmMk
namespace Go.Proofs.Ytecleaangfcloaa.VtFnExactWant
set_option linter.unusedVariables false
set_option linter.unusedSimpArgs false
set_option maxHeartbeats 2000000
open Go Go.Vm

theorem markByteS (k : Nat) : MkF (Lv big (k + 1)) 98 (.sl (.int .u8)) 1048577 HB := by
  intro x n hx h0 h1
  obtain ⟨x', k', e, a, b, c, h⟩ := mkByte hx h0 h1
  exact ⟨x', k', level_den rfl rfl e rfl, a, b, c, h⟩
def EmPair (y : D TyPair) (k k' : Int) : Prop := ∃ k1, HB y.1 k k1 ∧ ∃ k2, HB y.2.1 k1 k2 ∧ k' = k2
theorem EmPair.mono {y : D TyPair} {k k' : Int} (h : EmPair y k k') : k ≤ k' := by
  obtain ⟨j1, h1, j2, h2, hk⟩ := h
  have := HB.mono h1
  have := HB.mono h2
  omega
def HSPair (l : List (D TyPair)) (k k' : Int) : Prop := ML EmPair l k k'
theorem HSPair.mono {l : List (D TyPair)} {k k' : Int} (h : HSPair l k k') : k ≤ k' := ML.mono (fun _ _ _ h => EmPair.mono h) h
theorem markPairS (k : Nat) : MkF (Lv big (k + 2)) 40 (.sl TyPair) 2199027449858 HSPair := by
  intro l n hl h0 h1
  have hlen : l.length < big := hl.1
  have hl2 : (l.length : Int) ≤ 1048577 := by unfold big at hlen; omega
  have key : ∃ (l' : List (D TyPair)) (n' : Int), den (Lv big (k + 1)) big ir40 [I n, S TyPair l] [] = some [I n', S TyPair l'] ∧ l'.length = l.length ∧ (∀ y ∈ l', okD TyPair y) ∧ n ≤ n' ∧ n' ≤ n + 2097154 * l.length ∧ ML EmPair l' n n' := by
    refine mark_row (Em := EmPair) (W := 2097154) (by decide) hl h0 (by omega) ?ext ?stp
    case ext =>
      intro J k i l h
      simp only [List.cons_append, List.nil_append]
      exact den_let rfl (den_let rfl (den_ite (b := decide (i < (List.length l : Int))) rfl (fun h' => absurd (by simpa using h') h) (fun _ => den_ret rfl rfl)))
    case stp =>
      intro J n i l y h0 h1 hi hg hm hil hy
      obtain ⟨x1, n1, e1, a1, b1, o1, r1⟩ := markByteS k y.1 n hy.1 (by omega) (by omega)
      obtain ⟨x2, n2, e2, a2, b2, o2, r2⟩ := markByteS k y.2.1 n1 hy.2.1 (by omega) (by omega)
      refine ⟨(x1, x2, ()), n2, by omega, by omega, ⟨o1, ⟨o2, trivial⟩⟩, ⟨n1, r1, n2, r2, rfl⟩, fun r hr => ?_⟩
      simp only [List.cons_append, List.nil_append]
      refine den_let rfl (den_let rfl (den_ite (b := decide (i < (List.length l : Int))) rfl (fun _ => ?_) (fun h => absurd hil (by simpa using h))))
      simp only [List.cons_append, List.nil_append]
      refine den_idx rfl rfl rfl hi hg ?_
      refine den_idx rfl rfl rfl hi hg ?_
      simp only [List.cons_append, List.nil_append]
      refine den_let rfl ?_
      refine den_idx rfl rfl rfl hi hg ?_
      refine den_call rfl e1 rfl ?_
      simp only [List.cons_append, List.nil_append]
      refine den_set (z := (x1, y.2.1, ())) rfl rfl rfl rfl hi hg rfl (fun l1 hl1 hg1 => ?_)
      refine den_idx rfl rfl rfl hi hg1 ?_
      refine den_idx rfl rfl rfl hi hg1 ?_
      simp only [List.cons_append, List.nil_append]
      refine den_let rfl ?_
      refine den_idx rfl rfl rfl hi hg1 ?_
      refine den_call rfl e2 rfl ?_
      simp only [List.cons_append, List.nil_append]
      refine den_set (z := (x1, x2, ())) rfl rfl rfl rfl hi hg1 rfl (fun l2 hl2 hg2 => ?_)
      refine den_up rfl hi (Int.le_of_lt hil) (n := i) (m := List.length l) hm ?_
      simp only [List.cons_append, List.nil_append]
      refine den_jump rfl rfl ?_
      have hls : l2 = List.set l i.toNat (x1, x2, ()) := by simp only [hl2, hl1, List.set_set]
      rw [hls]
      exact hr
  obtain ⟨l', n', e1, e2, e3, e4, e5, e6⟩ := key
  exact ⟨l', n', level_den rfl rfl e1 rfl, e4, by omega, ⟨by show List.length l' < big; rw [e2]; exact hlen, e3⟩, e6⟩
def EmCheck (y : D TyCheck) (k k' : Int) : Prop := ∃ k1, HB y.1 k k1 ∧ y.2.1 = k1 ∧ y.2.2.1 = (k1 + 1) ∧ y.2.2.2.1 = ((k1 + 1) + 1) ∧ y.2.2.2.2.1 = (((k1 + 1) + 1) + 1) ∧ y.2.2.2.2.2.1 = ((((k1 + 1) + 1) + 1) + 1) ∧ k' = (((((k1 + 1) + 1) + 1) + 1) + 1)
theorem EmCheck.mono {y : D TyCheck} {k k' : Int} (h : EmCheck y k k') : k ≤ k' := by
  obtain ⟨j1, h1, h2, h3, h4, h5, h6, hk⟩ := h
  have := HB.mono h1
  omega
def HSCheck (l : List (D TyCheck)) (k k' : Int) : Prop := ML EmCheck l k k'
theorem HSCheck.mono {l : List (D TyCheck)} {k k' : Int} (h : HSCheck l k k') : k ≤ k' := ML.mono (fun _ _ _ h => EmCheck.mono h) h
theorem markCheckS (k : Nat) : MkF (Lv big (k + 2)) 159 (.sl TyCheck) 1099518967814 HSCheck := by
  intro l n hl h0 h1
  have hlen : l.length < big := hl.1
  have hl2 : (l.length : Int) ≤ 1048577 := by unfold big at hlen; omega
  have key : ∃ (l' : List (D TyCheck)) (n' : Int), den (Lv big (k + 1)) big ir159 [I n, S TyCheck l] [] = some [I n', S TyCheck l'] ∧ l'.length = l.length ∧ (∀ y ∈ l', okD TyCheck y) ∧ n ≤ n' ∧ n' ≤ n + 1048582 * l.length ∧ ML EmCheck l' n n' := by
    refine mark_row (Em := EmCheck) (W := 1048582) (by decide) hl h0 (by omega) ?ext ?stp
    case ext =>
      intro J k i l h
      simp only [List.cons_append, List.nil_append]
      exact den_let rfl (den_let rfl (den_ite (b := decide (i < (List.length l : Int))) rfl (fun h' => absurd (by simpa using h') h) (fun _ => den_ret rfl rfl)))
    case stp =>
      intro J n i l y h0 h1 hi hg hm hil hy
      obtain ⟨x1, n1, e1, a1, b1, o1, r1⟩ := markByteS k y.1 n hy.1 (by omega) (by omega)
      refine ⟨(x1, n1, (n1 + 1), ((n1 + 1) + 1), (((n1 + 1) + 1) + 1), ((((n1 + 1) + 1) + 1) + 1), ()), (((((n1 + 1) + 1) + 1) + 1) + 1), by omega, by omega, ⟨o1, ⟨trivial, ⟨trivial, ⟨trivial, ⟨trivial, ⟨trivial, trivial⟩⟩⟩⟩⟩⟩, ⟨n1, r1, rfl, rfl, rfl, rfl, rfl, rfl⟩, fun r hr => ?_⟩
      simp only [List.cons_append, List.nil_append]
      refine den_let rfl (den_let rfl (den_ite (b := decide (i < (List.length l : Int))) rfl (fun _ => ?_) (fun h => absurd hil (by simpa using h))))
      simp only [List.cons_append, List.nil_append]
      refine den_idx rfl rfl rfl hi hg ?_
      refine den_idx rfl rfl rfl hi hg ?_
      simp only [List.cons_append, List.nil_append]
      refine den_let rfl ?_
      refine den_idx rfl rfl rfl hi hg ?_
      refine den_call rfl e1 rfl ?_
      simp only [List.cons_append, List.nil_append]
      refine den_set (z := (x1, y.2.1, y.2.2.1, y.2.2.2.1, y.2.2.2.2.1, y.2.2.2.2.2.1, ())) rfl rfl rfl rfl hi hg rfl (fun l1 hl1 hg1 => ?_)
      refine den_idx rfl rfl rfl hi hg1 ?_
      refine den_set (z := (x1, n1, y.2.2.1, y.2.2.2.1, y.2.2.2.2.1, y.2.2.2.2.2.1, ())) rfl rfl rfl rfl hi hg1 rfl (fun l2 hl2 hg2 => ?_)
      simp only [List.cons_append, List.nil_append]
      refine den_inc (n := n1) rfl (by omega) (by omega) ?_
      refine den_idx rfl rfl rfl hi hg2 ?_
      refine den_set (z := (x1, n1, (n1 + 1), y.2.2.2.1, y.2.2.2.2.1, y.2.2.2.2.2.1, ())) rfl rfl rfl rfl hi hg2 rfl (fun l3 hl3 hg3 => ?_)
      simp only [List.cons_append, List.nil_append]
      refine den_inc (n := (n1 + 1)) rfl (by omega) (by omega) ?_
      refine den_idx rfl rfl rfl hi hg3 ?_
      refine den_set (z := (x1, n1, (n1 + 1), ((n1 + 1) + 1), y.2.2.2.2.1, y.2.2.2.2.2.1, ())) rfl rfl rfl rfl hi hg3 rfl (fun l4 hl4 hg4 => ?_)
      simp only [List.cons_append, List.nil_append]
      refine den_inc (n := ((n1 + 1) + 1)) rfl (by omega) (by omega) ?_
      refine den_idx rfl rfl rfl hi hg4 ?_
      refine den_set (z := (x1, n1, (n1 + 1), ((n1 + 1) + 1), (((n1 + 1) + 1) + 1), y.2.2.2.2.2.1, ())) rfl rfl rfl rfl hi hg4 rfl (fun l5 hl5 hg5 => ?_)
      simp only [List.cons_append, List.nil_append]
      refine den_inc (n := (((n1 + 1) + 1) + 1)) rfl (by omega) (by omega) ?_
      refine den_idx rfl rfl rfl hi hg5 ?_
      refine den_set (z := (x1, n1, (n1 + 1), ((n1 + 1) + 1), (((n1 + 1) + 1) + 1), ((((n1 + 1) + 1) + 1) + 1), ())) rfl rfl rfl rfl hi hg5 rfl (fun l6 hl6 hg6 => ?_)
      simp only [List.cons_append, List.nil_append]
      refine den_inc (n := ((((n1 + 1) + 1) + 1) + 1)) rfl (by omega) (by omega) ?_
      refine den_up rfl hi (Int.le_of_lt hil) (n := i) (m := List.length l) hm ?_
      simp only [List.cons_append, List.nil_append]
      refine den_jump rfl rfl ?_
      have hls : l6 = List.set l i.toNat (x1, n1, (n1 + 1), ((n1 + 1) + 1), (((n1 + 1) + 1) + 1), ((((n1 + 1) + 1) + 1) + 1), ()) := by simp only [hl6, hl5, hl4, hl3, hl2, hl1, List.set_set]
      rw [hls]
      exact hr
  obtain ⟨l', n', e1, e2, e3, e4, e5, e6⟩ := key
  exact ⟨l', n', level_den rfl rfl e1 rfl, e4, by omega, ⟨by show List.length l' < big; rw [e2]; exact hlen, e3⟩, e6⟩
def EmService (y : D TyService) (k k' : Int) : Prop := ∃ k1, HB y.1 k k1 ∧ ∃ k2, HSCheck y.2.1 k1 k2 ∧ k' = k2
theorem EmService.mono {y : D TyService} {k k' : Int} (h : EmService y k k') : k ≤ k' := by
  obtain ⟨j1, h1, j2, h2, hk⟩ := h
  have := HB.mono h1
  have := HSCheck.mono h2
  omega
def HSService (l : List (D TyService)) (k k' : Int) : Prop := ML EmService l k k'
theorem HSService.mono {l : List (D TyService)} {k k' : Int} (h : HSService l k k') : k ≤ k' := ML.mono (fun _ _ _ h => EmService.mono h) h
theorem markServiceS (k : Nat) : MkF (Lv big (k + 3)) 99 (.sl TyService) 1152931400227225607 HSService := by
  intro l n hl h0 h1
  have hlen : l.length < big := hl.1
  have hl2 : (l.length : Int) ≤ 1048577 := by unfold big at hlen; omega
  have key : ∃ (l' : List (D TyService)) (n' : Int), den (Lv big (k + 2)) big ir99 [I n, S TyService l] [] = some [I n', S TyService l'] ∧ l'.length = l.length ∧ (∀ y ∈ l', okD TyService y) ∧ n ≤ n' ∧ n' ≤ n + 1099520016391 * l.length ∧ ML EmService l' n n' := by
    refine mark_row (Em := EmService) (W := 1099520016391) (by decide) hl h0 (by omega) ?ext ?stp
    case ext =>
      intro J k i l h
      simp only [List.cons_append, List.nil_append]
      exact den_let rfl (den_let rfl (den_ite (b := decide (i < (List.length l : Int))) rfl (fun h' => absurd (by simpa using h') h) (fun _ => den_ret rfl rfl)))
    case stp =>
      intro J n i l y h0 h1 hi hg hm hil hy
      obtain ⟨x1, n1, e1, a1, b1, o1, r1⟩ := markByteS (k + 1) y.1 n hy.1 (by omega) (by omega)
      obtain ⟨x2, n2, e2, a2, b2, o2, r2⟩ := markCheckS k y.2.1 n1 hy.2.1 (by omega) (by omega)
      refine ⟨(x1, x2, ()), n2, by omega, by omega, ⟨o1, ⟨o2, trivial⟩⟩, ⟨n1, r1, n2, r2, rfl⟩, fun r hr => ?_⟩
      simp only [List.cons_append, List.nil_append]
      refine den_let rfl (den_let rfl (den_ite (b := decide (i < (List.length l : Int))) rfl (fun _ => ?_) (fun h => absurd hil (by simpa using h))))
      simp only [List.cons_append, List.nil_append]
      refine den_idx rfl rfl rfl hi hg ?_
      refine den_idx rfl rfl rfl hi hg ?_
      simp only [List.cons_append, List.nil_append]
      refine den_let rfl ?_
      refine den_idx rfl rfl rfl hi hg ?_
      refine den_call rfl e1 rfl ?_
      simp only [List.cons_append, List.nil_append]
      refine den_set (z := (x1, y.2.1, ())) rfl rfl rfl rfl hi hg rfl (fun l1 hl1 hg1 => ?_)
      refine den_idx rfl rfl rfl hi hg1 ?_
      refine den_idx rfl rfl rfl hi hg1 ?_
      simp only [List.cons_append, List.nil_append]
      refine den_let rfl ?_
      refine den_idx rfl rfl rfl hi hg1 ?_
      refine den_call rfl e2 rfl ?_
      simp only [List.cons_append, List.nil_append]
      refine den_set (z := (x1, x2, ())) rfl rfl rfl rfl hi hg1 rfl (fun l2 hl2 hg2 => ?_)
      refine den_up rfl hi (Int.le_of_lt hil) (n := i) (m := List.length l) hm ?_
      simp only [List.cons_append, List.nil_append]
      refine den_jump rfl rfl ?_
      have hls : l2 = List.set l i.toNat (x1, x2, ()) := by simp only [hl2, hl1, List.set_set]
      rw [hls]
      exact hr
  obtain ⟨l', n', e1, e2, e3, e4, e5, e6⟩ := key
  exact ⟨l', n', level_den rfl rfl e1 rfl, e4, by omega, ⟨by show List.length l' < big; rw [e2]; exact hlen, e3⟩, e6⟩
def HLocal (y : D TyLocal) (k k' : Int) : Prop := ∃ k1, HB y.1 k k1 ∧ ∃ k2, HSService y.2.1 k1 k2 ∧ k' = k2
theorem HLocal.mono {y : D TyLocal} {k k' : Int} (h : HLocal y k k') : k ≤ k' := by
  obtain ⟨j1, h1, j2, h2, hk⟩ := h
  have := HB.mono h1
  have := HSService.mono h2
  omega
theorem markLocal (k : Nat) : MkF (Lv big (k + 4)) 39 TyLocal 1152931400228274184 HLocal := by
  intro y n hy h0 h1
  obtain ⟨x1, n1, e1, a1, b1, o1, r1⟩ := markByteS (k + 2) y.1 n hy.1 (by omega) (by omega)
  obtain ⟨x2, n2, e2, a2, b2, o2, r2⟩ := markServiceS k y.2.1 n1 hy.2.1 (by omega) (by omega)
  refine ⟨(x1, x2, ()), n2, level_den rfl rfl ?_ rfl, by omega, by omega, ⟨o1, ⟨o2, trivial⟩⟩, n1, r1, n2, r2, rfl⟩
  unfold ir39
  refine den_let rfl ?_
  refine den_call rfl e1 rfl ?_
  simp only [List.cons_append, List.nil_append]
  refine den_call rfl e2 rfl ?_
  refine den_let rfl ?_
  exact den_ret rfl rfl
theorem heldByteS (k : Nat) : HdF (Lv big (k + 1)) 100 (.sl (.int .u8)) HB := by
  intro x n n' hx h0 h1 hh
  exact level_den rfl rfl (hdByte hx h0 h1 hh) rfl
theorem heldPairS (k : Nat) : HdF (Lv big (k + 2)) 41 (.sl TyPair) HSPair := by
  intro l n n' hl h0 h1 hh
  have hlen : l.length < big := hl.1
  refine level_den rfl rfl ?_ rfl
  unfold ir41
  refine den_loop (den_jump rfl rfl ?_)
  refine held_loop (e := TyPair) (Em := EmPair) (enc := fun k i => [I k, I 0, I i]) (l0 := l) (fun y k k' h => EmPair.mono h) (fun J n i y k1 h0 h1 hi hg hil hy hE r hr => ?_) (fun J k i h => ?_) l [] big n n' rfl hlen h0 h1 hl.2 hh
  · obtain ⟨n1, q1, n2, q2, hk⟩ := hE
    rw [hk] at h1 hr
    have g1 := HB.mono q1
    have g2 := HB.mono q2
    simp only [List.cons_append, List.nil_append]
    refine den_let rfl (den_let rfl (den_ite (b := decide (i < (List.length l : Int))) rfl (fun _ => ?_) (fun h => absurd hil (by simpa using h))))
    simp only [List.cons_append, List.nil_append]
    refine den_idx rfl rfl rfl hi hg ?_
    refine den_let rfl ?_
    simp only [List.cons_append, List.nil_append]
    refine den_call rfl (heldByteS k y.1 n n1 hy.1 (by omega) (by omega) q1) rfl ?_
    refine den_let rfl ?_
    refine den_ite (b := decide (n1 < 0)) rfl (fun h => absurd (of_decide_eq_true h) (by omega)) (fun _ => ?_)
    simp only [List.cons_append, List.nil_append]
    refine den_idx rfl rfl rfl hi hg ?_
    refine den_let rfl ?_
    refine den_call rfl (heldByteS k y.2.1 n1 n2 hy.2.1 (by omega) (by omega) q2) rfl ?_
    simp only [List.cons_append, List.nil_append]
    refine den_let rfl ?_
    refine den_ite (b := decide (n2 < 0)) rfl (fun h => absurd (of_decide_eq_true h) (by omega)) (fun _ => ?_)
    refine den_up rfl hi (Int.le_of_lt hil) (n := i) (m := List.length l) hlen ?_
    simp only [List.cons_append, List.nil_append]
    exact den_jump rfl rfl hr
  · simp only [List.cons_append, List.nil_append]
    exact den_let rfl (den_let rfl (den_ite (b := decide (i < (List.length l : Int))) rfl (fun h' => absurd (by simpa using h') h) (fun _ => den_ret rfl rfl)))
end Go.Proofs.Ytecleaangfcloaa.VtFnExactWant
