/- What the marks of FnExactStateRead leave, and that it is held. Lemmas alone, no statement. -/
import Derived.Test.YtecleaangfcloabVpTseFnExactStateRead
import Derived.Test.YtecleaangfcloabVmMk
namespace Go.Proofs.Ytecleaangfcloab.VtFnExactStateRead
set_option linter.unusedVariables false
set_option linter.unusedSimpArgs false
set_option maxHeartbeats 2000000
open Go Go.Vm
theorem ev_rem3 {x : Int} : evX (.bin .rem 3) [I x, I 3] = some (I (x.tmod 3)) := rfl

def EmLast (y : D TyLast) (k k' : Int) : Prop := y.1 = k ∧ y.2.1 = (k + 1) ∧ y.2.2.1 = ((k + 1) + 1) ∧ y.2.2.2.1 = (((k + 1) + 1) + 1) ∧ k' = ((((k + 1) + 1) + 1) + 1)
theorem EmLast.mono {y : D TyLast} {k k' : Int} (h : EmLast y k k') : k ≤ k' := by
  obtain ⟨h1, h2, h3, h4, hk⟩ := h
  omega
def HSLast (l : List (D TyLast)) (k k' : Int) : Prop := ML EmLast l k k'
theorem HSLast.mono {l : List (D TyLast)} {k k' : Int} (h : HSLast l k k') : k ≤ k' := ML.mono (fun _ _ _ h => EmLast.mono h) h
theorem markLastS (k : Nat) : MkF (Lv big (k + 1)) 92 (.sl TyLast) 4194308 HSLast := by
  intro l n hl h0 h1
  have hlen : l.length < big := hl.1
  have hl2 : (l.length : Int) ≤ 1048577 := by unfold big at hlen; omega
  have key : ∃ (l' : List (D TyLast)) (n' : Int), den (Lv big (k + 0)) big ir92 [I n, S TyLast l] [] = some [I n', S TyLast l'] ∧ l'.length = l.length ∧ (∀ y ∈ l', okD TyLast y) ∧ n ≤ n' ∧ n' ≤ n + 4 * l.length ∧ ML EmLast l' n n' := by
    refine mark_row (Em := EmLast) (W := 4) (by decide) hl h0 (by omega) ?ext ?stp
    case ext =>
      intro J k i l h
      simp only [List.cons_append, List.nil_append]
      exact den_let rfl (den_let rfl (den_ite (b := decide (i < (List.length l : Int))) rfl (fun h' => absurd (by simpa using h') h) (fun _ => den_ret rfl rfl)))
    case stp =>
      intro J n i l y h0 h1 hi hg hm hil hy
      refine ⟨(n, (n + 1), ((n + 1) + 1), (((n + 1) + 1) + 1), ()), ((((n + 1) + 1) + 1) + 1), by omega, by omega, ⟨trivial, ⟨trivial, ⟨trivial, ⟨trivial, trivial⟩⟩⟩⟩, ⟨rfl, rfl, rfl, rfl, rfl⟩, fun r hr => ?_⟩
      simp only [List.cons_append, List.nil_append]
      refine den_let rfl (den_let rfl (den_ite (b := decide (i < (List.length l : Int))) rfl (fun _ => ?_) (fun h => absurd hil (by simpa using h))))
      simp only [List.cons_append, List.nil_append]
      refine den_idx rfl rfl rfl hi hg ?_
      refine den_set (z := (n, y.2.1, y.2.2.1, y.2.2.2.1, ())) rfl rfl rfl rfl hi hg rfl (fun l1 hl1 hg1 => ?_)
      simp only [List.cons_append, List.nil_append]
      refine den_inc (n := n) rfl (by omega) (by omega) ?_
      refine den_idx rfl rfl rfl hi hg1 ?_
      refine den_set (z := (n, (n + 1), y.2.2.1, y.2.2.2.1, ())) rfl rfl rfl rfl hi hg1 rfl (fun l2 hl2 hg2 => ?_)
      simp only [List.cons_append, List.nil_append]
      refine den_inc (n := (n + 1)) rfl (by omega) (by omega) ?_
      refine den_idx rfl rfl rfl hi hg2 ?_
      refine den_set (z := (n, (n + 1), ((n + 1) + 1), y.2.2.2.1, ())) rfl rfl rfl rfl hi hg2 rfl (fun l3 hl3 hg3 => ?_)
      simp only [List.cons_append, List.nil_append]
      refine den_inc (n := ((n + 1) + 1)) rfl (by omega) (by omega) ?_
      refine den_idx rfl rfl rfl hi hg3 ?_
      refine den_set (z := (n, (n + 1), ((n + 1) + 1), (((n + 1) + 1) + 1), ())) rfl rfl rfl rfl hi hg3 rfl (fun l4 hl4 hg4 => ?_)
      simp only [List.cons_append, List.nil_append]
      refine den_inc (n := (((n + 1) + 1) + 1)) rfl (by omega) (by omega) ?_
      refine den_up rfl hi (Int.le_of_lt hil) (n := i) (m := List.length l) hm ?_
      simp only [List.cons_append, List.nil_append]
      refine den_jump rfl rfl ?_
      have hls : l4 = List.set l i.toNat (n, (n + 1), ((n + 1) + 1), (((n + 1) + 1) + 1), ()) := by simp only [hl4, hl3, hl2, hl1, List.set_set]
      rw [hls]
      exact hr
  obtain ⟨l', n', e1, e2, e3, e4, e5, e6⟩ := key
  exact ⟨l', n', level_den rfl rfl e1 rfl, e4, by omega, ⟨by show List.length l' < big; rw [e2]; exact hlen, e3⟩, e6⟩
def EmSession (y : D TySession) (k k' : Int) : Prop := y.1 = k ∧ y.2.1 = (Int.tmod (k + 1) 3 == 0) ∧ k' = ((k + 1) + 1)
theorem EmSession.mono {y : D TySession} {k k' : Int} (h : EmSession y k k') : k ≤ k' := by
  obtain ⟨h1, h2, hk⟩ := h
  omega
def HSSession (l : List (D TySession)) (k k' : Int) : Prop := ML EmSession l k k'
theorem HSSession.mono {l : List (D TySession)} {k k' : Int} (h : HSSession l k k') : k ≤ k' := ML.mono (fun _ _ _ h => EmSession.mono h) h
theorem markSessionS (k : Nat) : MkF (Lv big (k + 1)) 91 (.sl TySession) 2097154 HSSession := by
  intro l n hl h0 h1
  have hlen : l.length < big := hl.1
  have hl2 : (l.length : Int) ≤ 1048577 := by unfold big at hlen; omega
  have key : ∃ (l' : List (D TySession)) (n' : Int), den (Lv big (k + 0)) big ir91 [I n, S TySession l] [] = some [I n', S TySession l'] ∧ l'.length = l.length ∧ (∀ y ∈ l', okD TySession y) ∧ n ≤ n' ∧ n' ≤ n + 2 * l.length ∧ ML EmSession l' n n' := by
    refine mark_row (Em := EmSession) (W := 2) (by decide) hl h0 (by omega) ?ext ?stp
    case ext =>
      intro J k i l h
      simp only [List.cons_append, List.nil_append]
      exact den_let rfl (den_let rfl (den_ite (b := decide (i < (List.length l : Int))) rfl (fun h' => absurd (by simpa using h') h) (fun _ => den_ret rfl rfl)))
    case stp =>
      intro J n i l y h0 h1 hi hg hm hil hy
      refine ⟨(n, (Int.tmod (n + 1) 3 == 0), ()), ((n + 1) + 1), by omega, by omega, ⟨trivial, ⟨trivial, trivial⟩⟩, ⟨rfl, rfl, rfl⟩, fun r hr => ?_⟩
      simp only [List.cons_append, List.nil_append]
      refine den_let rfl (den_let rfl (den_ite (b := decide (i < (List.length l : Int))) rfl (fun _ => ?_) (fun h => absurd hil (by simpa using h))))
      simp only [List.cons_append, List.nil_append]
      refine den_idx rfl rfl rfl hi hg ?_
      refine den_set (z := (n, y.2.1, ())) rfl rfl rfl rfl hi hg rfl (fun l1 hl1 hg1 => ?_)
      simp only [List.cons_append, List.nil_append]
      refine den_inc (n := n) rfl (by omega) (by omega) ?_
      refine den_let ev_rem3 ?_
      refine den_let rfl ?_
      simp only [List.cons_append, List.nil_append]
      refine den_idx rfl rfl rfl hi hg1 ?_
      refine den_set (z := (n, (Int.tmod (n + 1) 3 == 0), ())) rfl rfl rfl rfl hi hg1 rfl (fun l2 hl2 hg2 => ?_)
      refine den_inc (n := (n + 1)) rfl (by omega) (by omega) ?_
      simp only [List.cons_append, List.nil_append]
      refine den_up rfl hi (Int.le_of_lt hil) (n := i) (m := List.length l) hm ?_
      simp only [List.cons_append, List.nil_append]
      refine den_jump rfl rfl ?_
      have hls : l2 = List.set l i.toNat (n, (Int.tmod (n + 1) 3 == 0), ()) := by simp only [hl2, hl1, List.set_set]
      rw [hls]
      exact hr
  obtain ⟨l', n', e1, e2, e3, e4, e5, e6⟩ := key
  exact ⟨l', n', level_den rfl rfl e1 rfl, e4, by omega, ⟨by show List.length l' < big; rw [e2]; exact hlen, e3⟩, e6⟩
theorem markByteS (k : Nat) : MkF (Lv big (k + 1)) 15 (.sl (.int .u8)) 1048577 HB := by
  intro x n hx h0 h1
  obtain ⟨x', k', e, a, b, c, h⟩ := mkByte hx h0 h1
  exact ⟨x', k', level_den rfl rfl e rfl, a, b, c, h⟩
def EmTomb (y : D TyTomb) (k k' : Int) : Prop := ∃ k1, HB y.1 k k1 ∧ y.2.1 = k1 ∧ k' = (k1 + 1)
theorem EmTomb.mono {y : D TyTomb} {k k' : Int} (h : EmTomb y k k') : k ≤ k' := by
  obtain ⟨j1, h1, h2, hk⟩ := h
  have := HB.mono h1
  omega
def HSTomb (l : List (D TyTomb)) (k k' : Int) : Prop := ML EmTomb l k k'
theorem HSTomb.mono {l : List (D TyTomb)} {k k' : Int} (h : HSTomb l k k') : k ≤ k' := ML.mono (fun _ _ _ h => EmTomb.mono h) h
theorem markTombS (k : Nat) : MkF (Lv big (k + 2)) 90 (.sl TyTomb) 1099514773506 HSTomb := by
  intro l n hl h0 h1
  have hlen : l.length < big := hl.1
  have hl2 : (l.length : Int) ≤ 1048577 := by unfold big at hlen; omega
  have key : ∃ (l' : List (D TyTomb)) (n' : Int), den (Lv big (k + 1)) big ir90 [I n, S TyTomb l] [] = some [I n', S TyTomb l'] ∧ l'.length = l.length ∧ (∀ y ∈ l', okD TyTomb y) ∧ n ≤ n' ∧ n' ≤ n + 1048578 * l.length ∧ ML EmTomb l' n n' := by
    refine mark_row (Em := EmTomb) (W := 1048578) (by decide) hl h0 (by omega) ?ext ?stp
    case ext =>
      intro J k i l h
      simp only [List.cons_append, List.nil_append]
      exact den_let rfl (den_let rfl (den_ite (b := decide (i < (List.length l : Int))) rfl (fun h' => absurd (by simpa using h') h) (fun _ => den_ret rfl rfl)))
    case stp =>
      intro J n i l y h0 h1 hi hg hm hil hy
      obtain ⟨x1, n1, e1, a1, b1, o1, r1⟩ := markByteS k y.1 n hy.1 (by omega) (by omega)
      refine ⟨(x1, n1, ()), (n1 + 1), by omega, by omega, ⟨o1, ⟨trivial, trivial⟩⟩, ⟨n1, r1, rfl, rfl⟩, fun r hr => ?_⟩
      simp only [List.cons_append, List.nil_append]
      refine den_let rfl (den_let rfl (den_ite (b := decide (i < (List.length l : Int))) rfl (fun _ => ?_) (fun h => absurd hil (by simpa using h))))
      simp only [List.cons_append, List.nil_append]
      refine den_idx rfl rfl rfl hi hg ?_
      refine den_idx rfl rfl rfl hi hg ?_
      simp only [List.cons_append, List.nil_append]
      refine den_let rfl ?_
      refine den_idx rfl rfl rfl hi hg ?_
      refine den_call rfl e1 rfl ?_
      simp only [List.cons_append, List.nil_append]
      refine den_set (z := (x1, y.2.1, ())) rfl rfl rfl rfl hi hg rfl (fun l1 hl1 hg1 => ?_)
      refine den_idx rfl rfl rfl hi hg1 ?_
      refine den_set (z := (x1, n1, ())) rfl rfl rfl rfl hi hg1 rfl (fun l2 hl2 hg2 => ?_)
      simp only [List.cons_append, List.nil_append]
      refine den_inc (n := n1) rfl (by omega) (by omega) ?_
      refine den_up rfl hi (Int.le_of_lt hil) (n := i) (m := List.length l) hm ?_
      simp only [List.cons_append, List.nil_append]
      refine den_jump rfl rfl ?_
      have hls : l2 = List.set l i.toNat (x1, n1, ()) := by simp only [hl2, hl1, List.set_set]
      rw [hls]
      exact hr
  obtain ⟨l', n', e1, e2, e3, e4, e5, e6⟩ := key
  exact ⟨l', n', level_den rfl rfl e1 rfl, e4, by omega, ⟨by show List.length l' < big; rw [e2]; exact hlen, e3⟩, e6⟩
def EmRow (y : D TyRow) (k k' : Int) : Prop := ∃ k1, HB y.1 k k1 ∧ ∃ k2, HB y.2.1 k1 k2 ∧ y.2.2.1 = k2 ∧ y.2.2.2.1 = (k2 + 1) ∧ k' = ((k2 + 1) + 1)
theorem EmRow.mono {y : D TyRow} {k k' : Int} (h : EmRow y k k') : k ≤ k' := by
  obtain ⟨j1, h1, j2, h2, h3, h4, hk⟩ := h
  have := HB.mono h1
  have := HB.mono h2
  omega
def HSRow (l : List (D TyRow)) (k k' : Int) : Prop := ML EmRow l k k'
theorem HSRow.mono {l : List (D TyRow)} {k k' : Int} (h : HSRow l k k') : k ≤ k' := ML.mono (fun _ _ _ h => EmRow.mono h) h
theorem markRowS (k : Nat) : MkF (Lv big (k + 2)) 89 (.sl TyRow) 2199029547012 HSRow := by
  intro l n hl h0 h1
  have hlen : l.length < big := hl.1
  have hl2 : (l.length : Int) ≤ 1048577 := by unfold big at hlen; omega
  have key : ∃ (l' : List (D TyRow)) (n' : Int), den (Lv big (k + 1)) big ir89 [I n, S TyRow l] [] = some [I n', S TyRow l'] ∧ l'.length = l.length ∧ (∀ y ∈ l', okD TyRow y) ∧ n ≤ n' ∧ n' ≤ n + 2097156 * l.length ∧ ML EmRow l' n n' := by
    refine mark_row (Em := EmRow) (W := 2097156) (by decide) hl h0 (by omega) ?ext ?stp
    case ext =>
      intro J k i l h
      simp only [List.cons_append, List.nil_append]
      exact den_let rfl (den_let rfl (den_ite (b := decide (i < (List.length l : Int))) rfl (fun h' => absurd (by simpa using h') h) (fun _ => den_ret rfl rfl)))
    case stp =>
      intro J n i l y h0 h1 hi hg hm hil hy
      obtain ⟨x1, n1, e1, a1, b1, o1, r1⟩ := markByteS k y.1 n hy.1 (by omega) (by omega)
      obtain ⟨x2, n2, e2, a2, b2, o2, r2⟩ := markByteS k y.2.1 n1 hy.2.1 (by omega) (by omega)
      refine ⟨(x1, x2, n2, (n2 + 1), ()), ((n2 + 1) + 1), by omega, by omega, ⟨o1, ⟨o2, ⟨trivial, ⟨trivial, trivial⟩⟩⟩⟩, ⟨n1, r1, n2, r2, rfl, rfl, rfl⟩, fun r hr => ?_⟩
      simp only [List.cons_append, List.nil_append]
      refine den_let rfl (den_let rfl (den_ite (b := decide (i < (List.length l : Int))) rfl (fun _ => ?_) (fun h => absurd hil (by simpa using h))))
      simp only [List.cons_append, List.nil_append]
      refine den_idx rfl rfl rfl hi hg ?_
      refine den_idx rfl rfl rfl hi hg ?_
      simp only [List.cons_append, List.nil_append]
      refine den_let rfl ?_
      refine den_idx rfl rfl rfl hi hg ?_
      refine den_call rfl e1 rfl ?_
      simp only [List.cons_append, List.nil_append]
      refine den_set (z := (x1, y.2.1, y.2.2.1, y.2.2.2.1, ())) rfl rfl rfl rfl hi hg rfl (fun l1 hl1 hg1 => ?_)
      refine den_idx rfl rfl rfl hi hg1 ?_
      refine den_idx rfl rfl rfl hi hg1 ?_
      simp only [List.cons_append, List.nil_append]
      refine den_let rfl ?_
      refine den_idx rfl rfl rfl hi hg1 ?_
      refine den_call rfl e2 rfl ?_
      simp only [List.cons_append, List.nil_append]
      refine den_set (z := (x1, x2, y.2.2.1, y.2.2.2.1, ())) rfl rfl rfl rfl hi hg1 rfl (fun l2 hl2 hg2 => ?_)
      refine den_idx rfl rfl rfl hi hg2 ?_
      refine den_set (z := (x1, x2, n2, y.2.2.2.1, ())) rfl rfl rfl rfl hi hg2 rfl (fun l3 hl3 hg3 => ?_)
      simp only [List.cons_append, List.nil_append]
      refine den_inc (n := n2) rfl (by omega) (by omega) ?_
      refine den_idx rfl rfl rfl hi hg3 ?_
      refine den_set (z := (x1, x2, n2, (n2 + 1), ())) rfl rfl rfl rfl hi hg3 rfl (fun l4 hl4 hg4 => ?_)
      simp only [List.cons_append, List.nil_append]
      refine den_inc (n := (n2 + 1)) rfl (by omega) (by omega) ?_
      refine den_up rfl hi (Int.le_of_lt hil) (n := i) (m := List.length l) hm ?_
      simp only [List.cons_append, List.nil_append]
      refine den_jump rfl rfl ?_
      have hls : l4 = List.set l i.toNat (x1, x2, n2, (n2 + 1), ()) := by simp only [hl4, hl3, hl2, hl1, List.set_set]
      rw [hls]
      exact hr
  obtain ⟨l', n', e1, e2, e3, e4, e5, e6⟩ := key
  exact ⟨l', n', level_den rfl rfl e1 rfl, e4, by omega, ⟨by show List.length l' < big; rw [e2]; exact hlen, e3⟩, e6⟩
def HState (y : D TyState) (k k' : Int) : Prop := ∃ k1, HSRow y.2.1 k k1 ∧ ∃ k2, HSTomb y.2.2.1 k1 k2 ∧ ∃ k3, HSSession y.2.2.2.2.1 k2 k3 ∧ ∃ k4, HSLast y.2.2.2.2.2.1 k3 k4 ∧ k' = k4
theorem HState.mono {y : D TyState} {k k' : Int} (h : HState y k k') : k ≤ k' := by
  obtain ⟨j1, h1, j2, h2, j3, h3, j4, h4, hk⟩ := h
  have := HSRow.mono h1
  have := HSTomb.mono h2
  have := HSSession.mono h3
  have := HSLast.mono h4
  omega
theorem markState (k : Nat) : MkF (Lv big (k + 3)) 32 TyState 3298550611980 HState := by
  intro y n hy h0 h1
  obtain ⟨x1, n1, e1, a1, b1, o1, r1⟩ := markRowS k y.2.1 n hy.2.1 (by omega) (by omega)
  obtain ⟨x2, n2, e2, a2, b2, o2, r2⟩ := markTombS k y.2.2.1 n1 hy.2.2.1 (by omega) (by omega)
  obtain ⟨x3, n3, e3, a3, b3, o3, r3⟩ := markSessionS (k + 1) y.2.2.2.2.1 n2 hy.2.2.2.2.1 (by omega) (by omega)
  obtain ⟨x4, n4, e4, a4, b4, o4, r4⟩ := markLastS (k + 1) y.2.2.2.2.2.1 n3 hy.2.2.2.2.2.1 (by omega) (by omega)
  refine ⟨(y.1, x1, x2, y.2.2.2.1, x3, x4, ()), n4, level_den rfl rfl ?_ rfl, by omega, by omega, ⟨hy.1, ⟨o1, ⟨o2, ⟨hy.2.2.2.1, ⟨o3, ⟨o4, trivial⟩⟩⟩⟩⟩⟩, n1, r1, n2, r2, n3, r3, n4, r4, rfl⟩
  unfold ir32
  refine den_let rfl ?_
  refine den_let rfl ?_
  simp only [List.cons_append, List.nil_append]
  refine den_call rfl e1 rfl ?_
  refine den_let rfl ?_
  refine den_call rfl e2 rfl ?_
  simp only [List.cons_append, List.nil_append]
  refine den_let rfl ?_
  refine den_call rfl e3 rfl ?_
  refine den_let rfl ?_
  simp only [List.cons_append, List.nil_append]
  refine den_call rfl e4 rfl ?_
  refine den_let rfl ?_
  exact den_ret rfl rfl
theorem heldLastS (k : Nat) : HdF (Lv big (k + 1)) 96 (.sl TyLast) HSLast := by
  intro l n n' hl h0 h1 hh
  have hlen : l.length < big := hl.1
  refine level_den rfl rfl ?_ rfl
  unfold ir96
  refine den_loop (den_jump rfl rfl ?_)
  refine held_loop (e := TyLast) (Em := EmLast) (enc := fun k i => [I 0, I k, I i]) (l0 := l) (fun y k k' h => EmLast.mono h) (fun J n i y k1 h0 h1 hi hg hil hy hE r hr => ?_) (fun J k i h => ?_) l [] big n n' rfl hlen h0 h1 hl.2 hh
  · obtain ⟨q1, q2, q3, q4, hk⟩ := hE
    rw [hk] at h1 hr
    simp only [List.cons_append, List.nil_append]
    refine den_let rfl (den_let rfl (den_ite (b := decide (i < (List.length l : Int))) rfl (fun _ => ?_) (fun h => absurd hil (by simpa using h))))
    simp only [List.cons_append, List.nil_append]
    refine den_idx rfl rfl rfl hi hg ?_
    refine den_let rfl ?_
    simp only [List.cons_append, List.nil_append]
    refine den_let rfl ?_
    refine den_ite rfl (fun h => by simp [q1] at h) (fun _ => ?_)
    refine den_inc (n := n) rfl (by omega) (by omega) ?_
    simp only [List.cons_append, List.nil_append]
    refine den_idx rfl rfl rfl hi hg ?_
    refine den_let rfl ?_
    refine den_let rfl ?_
    simp only [List.cons_append, List.nil_append]
    refine den_ite rfl (fun h => by simp [q2] at h) (fun _ => ?_)
    refine den_inc (n := (n + 1)) rfl (by omega) (by omega) ?_
    refine den_idx rfl rfl rfl hi hg ?_
    simp only [List.cons_append, List.nil_append]
    refine den_let rfl ?_
    refine den_let rfl ?_
    refine den_ite rfl (fun h => by simp [q3] at h) (fun _ => ?_)
    simp only [List.cons_append, List.nil_append]
    refine den_inc (n := ((n + 1) + 1)) rfl (by omega) (by omega) ?_
    refine den_idx rfl rfl rfl hi hg ?_
    refine den_let rfl ?_
    simp only [List.cons_append, List.nil_append]
    refine den_let rfl ?_
    refine den_ite rfl (fun h => by simp [q4] at h) (fun _ => ?_)
    refine den_inc (n := (((n + 1) + 1) + 1)) rfl (by omega) (by omega) ?_
    simp only [List.cons_append, List.nil_append]
    refine den_up rfl hi (Int.le_of_lt hil) (n := i) (m := List.length l) hlen ?_
    simp only [List.cons_append, List.nil_append]
    exact den_jump rfl rfl hr
  · simp only [List.cons_append, List.nil_append]
    exact den_let rfl (den_let rfl (den_ite (b := decide (i < (List.length l : Int))) rfl (fun h' => absurd (by simpa using h') h) (fun _ => den_ret rfl rfl)))
theorem heldSessionS (k : Nat) : HdF (Lv big (k + 1)) 95 (.sl TySession) HSSession := by
  intro l n n' hl h0 h1 hh
  have hlen : l.length < big := hl.1
  refine level_den rfl rfl ?_ rfl
  unfold ir95
  refine den_loop (den_jump rfl rfl ?_)
  refine held_loop (e := TySession) (Em := EmSession) (enc := fun k i => [I 0, I k, I i]) (l0 := l) (fun y k k' h => EmSession.mono h) (fun J n i y k1 h0 h1 hi hg hil hy hE r hr => ?_) (fun J k i h => ?_) l [] big n n' rfl hlen h0 h1 hl.2 hh
  · obtain ⟨q1, q2, hk⟩ := hE
    rw [hk] at h1 hr
    simp only [List.cons_append, List.nil_append]
    refine den_let rfl (den_let rfl (den_ite (b := decide (i < (List.length l : Int))) rfl (fun _ => ?_) (fun h => absurd hil (by simpa using h))))
    simp only [List.cons_append, List.nil_append]
    refine den_idx rfl rfl rfl hi hg ?_
    refine den_let rfl ?_
    simp only [List.cons_append, List.nil_append]
    refine den_let rfl ?_
    refine den_ite rfl (fun h => by simp [q1] at h) (fun _ => ?_)
    refine den_inc (n := n) rfl (by omega) (by omega) ?_
    simp only [List.cons_append, List.nil_append]
    refine den_idx rfl rfl rfl hi hg ?_
    refine den_let rfl ?_
    refine den_let ev_rem3 ?_
    simp only [List.cons_append, List.nil_append]
    refine den_let rfl ?_
    refine den_let rfl ?_
    refine den_ite rfl (fun h => by simp [q2] at h) (fun _ => ?_)
    simp only [List.cons_append, List.nil_append]
    refine den_inc (n := (n + 1)) rfl (by omega) (by omega) ?_
    refine den_up rfl hi (Int.le_of_lt hil) (n := i) (m := List.length l) hlen ?_
    simp only [List.cons_append, List.nil_append]
    exact den_jump rfl rfl hr
  · simp only [List.cons_append, List.nil_append]
    exact den_let rfl (den_let rfl (den_ite (b := decide (i < (List.length l : Int))) rfl (fun h' => absurd (by simpa using h') h) (fun _ => den_ret rfl rfl)))
theorem heldByteS (k : Nat) : HdF (Lv big (k + 1)) 49 (.sl (.int .u8)) HB := by
  intro x n n' hx h0 h1 hh
  exact level_den rfl rfl (hdByte hx h0 h1 hh) rfl
theorem heldRowS (k : Nat) : HdF (Lv big (k + 2)) 93 (.sl TyRow) HSRow := by
  intro l n n' hl h0 h1 hh
  have hlen : l.length < big := hl.1
  refine level_den rfl rfl ?_ rfl
  unfold ir93
  refine den_loop (den_jump rfl rfl ?_)
  refine held_loop (e := TyRow) (Em := EmRow) (enc := fun k i => [I k, I 0, I i]) (l0 := l) (fun y k k' h => EmRow.mono h) (fun J n i y k1 h0 h1 hi hg hil hy hE r hr => ?_) (fun J k i h => ?_) l [] big n n' rfl hlen h0 h1 hl.2 hh
  · obtain ⟨n1, q1, n2, q2, q3, q4, hk⟩ := hE
    rw [hk] at h1 hr
    have g1 := HB.mono q1
    have g2 := HB.mono q2
    simp only [List.cons_append, List.nil_append]
    refine den_let rfl (den_let rfl (den_ite (b := decide (i < (List.length l : Int))) rfl (fun _ => ?_) (fun h => absurd hil (by simpa using h))))
    simp only [List.cons_append, List.nil_append]
    refine den_idx rfl rfl rfl hi hg ?_
    refine den_let rfl ?_
    simp only [List.cons_append, List.nil_append]
    refine den_call rfl (heldByteS k y.1 n n1 hy.1 (by omega) (by omega) q1) rfl ?_
    refine den_let rfl ?_
    refine den_ite (b := decide (n1 < 0)) rfl (fun h => absurd (of_decide_eq_true h) (by omega)) (fun _ => ?_)
    simp only [List.cons_append, List.nil_append]
    refine den_idx rfl rfl rfl hi hg ?_
    refine den_let rfl ?_
    refine den_call rfl (heldByteS k y.2.1 n1 n2 hy.2.1 (by omega) (by omega) q2) rfl ?_
    simp only [List.cons_append, List.nil_append]
    refine den_let rfl ?_
    refine den_ite (b := decide (n2 < 0)) rfl (fun h => absurd (of_decide_eq_true h) (by omega)) (fun _ => ?_)
    refine den_idx rfl rfl rfl hi hg ?_
    simp only [List.cons_append, List.nil_append]
    refine den_let rfl ?_
    refine den_let rfl ?_
    refine den_ite rfl (fun h => by simp [q3] at h) (fun _ => ?_)
    simp only [List.cons_append, List.nil_append]
    refine den_inc (n := n2) rfl (by omega) (by omega) ?_
    refine den_idx rfl rfl rfl hi hg ?_
    refine den_let rfl ?_
    simp only [List.cons_append, List.nil_append]
    refine den_let rfl ?_
    refine den_ite rfl (fun h => by simp [q4] at h) (fun _ => ?_)
    refine den_inc (n := (n2 + 1)) rfl (by omega) (by omega) ?_
    simp only [List.cons_append, List.nil_append]
    refine den_up rfl hi (Int.le_of_lt hil) (n := i) (m := List.length l) hlen ?_
    simp only [List.cons_append, List.nil_append]
    exact den_jump rfl rfl hr
  · simp only [List.cons_append, List.nil_append]
    exact den_let rfl (den_let rfl (den_ite (b := decide (i < (List.length l : Int))) rfl (fun h' => absurd (by simpa using h') h) (fun _ => den_ret rfl rfl)))
theorem heldTombS (k : Nat) : HdF (Lv big (k + 2)) 94 (.sl TyTomb) HSTomb := by
  intro l n n' hl h0 h1 hh
  have hlen : l.length < big := hl.1
  refine level_den rfl rfl ?_ rfl
  unfold ir94
  refine den_loop (den_jump rfl rfl ?_)
  refine held_loop (e := TyTomb) (Em := EmTomb) (enc := fun k i => [I k, I 0, I i]) (l0 := l) (fun y k k' h => EmTomb.mono h) (fun J n i y k1 h0 h1 hi hg hil hy hE r hr => ?_) (fun J k i h => ?_) l [] big n n' rfl hlen h0 h1 hl.2 hh
  · obtain ⟨n1, q1, q2, hk⟩ := hE
    rw [hk] at h1 hr
    have g1 := HB.mono q1
    simp only [List.cons_append, List.nil_append]
    refine den_let rfl (den_let rfl (den_ite (b := decide (i < (List.length l : Int))) rfl (fun _ => ?_) (fun h => absurd hil (by simpa using h))))
    simp only [List.cons_append, List.nil_append]
    refine den_idx rfl rfl rfl hi hg ?_
    refine den_let rfl ?_
    simp only [List.cons_append, List.nil_append]
    refine den_call rfl (heldByteS k y.1 n n1 hy.1 (by omega) (by omega) q1) rfl ?_
    refine den_let rfl ?_
    refine den_ite (b := decide (n1 < 0)) rfl (fun h => absurd (of_decide_eq_true h) (by omega)) (fun _ => ?_)
    simp only [List.cons_append, List.nil_append]
    refine den_idx rfl rfl rfl hi hg ?_
    refine den_let rfl ?_
    refine den_let rfl ?_
    simp only [List.cons_append, List.nil_append]
    refine den_ite rfl (fun h => by simp [q2] at h) (fun _ => ?_)
    refine den_inc (n := n1) rfl (by omega) (by omega) ?_
    refine den_up rfl hi (Int.le_of_lt hil) (n := i) (m := List.length l) hlen ?_
    simp only [List.cons_append, List.nil_append]
    exact den_jump rfl rfl hr
  · simp only [List.cons_append, List.nil_append]
    exact den_let rfl (den_let rfl (den_ite (b := decide (i < (List.length l : Int))) rfl (fun h' => absurd (by simpa using h') h) (fun _ => den_ret rfl rfl)))
theorem heldState (k : Nat) : HdF (Lv big (k + 3)) 33 TyState HState := by
  intro y n n' hy h0 h1 hh
  obtain ⟨n1, q1, n2, q2, n3, q3, n4, q4, hk⟩ := hh
  rw [hk] at h1 ⊢
  have g1 := HSRow.mono q1
  have g2 := HSTomb.mono q2
  have g3 := HSSession.mono q3
  have g4 := HSLast.mono q4
  refine level_den rfl rfl ?_ rfl
  unfold ir33
  refine den_let rfl ?_
  refine den_call rfl (heldRowS k y.2.1 n n1 hy.2.1 (by omega) (by omega) q1) rfl ?_
  simp only [List.cons_append, List.nil_append]
  refine den_let rfl ?_
  refine den_ite (b := decide (n1 < 0)) rfl (fun h => absurd (of_decide_eq_true h) (by omega)) (fun _ => ?_)
  refine den_call rfl (heldTombS k y.2.2.1 n1 n2 hy.2.2.1 (by omega) (by omega) q2) rfl ?_
  simp only [List.cons_append, List.nil_append]
  refine den_let rfl ?_
  refine den_ite (b := decide (n2 < 0)) rfl (fun h => absurd (of_decide_eq_true h) (by omega)) (fun _ => ?_)
  refine den_call rfl (heldSessionS (k + 1) y.2.2.2.2.1 n2 n3 hy.2.2.2.2.1 (by omega) (by omega) q3) rfl ?_
  simp only [List.cons_append, List.nil_append]
  refine den_let rfl ?_
  refine den_ite (b := decide (n3 < 0)) rfl (fun h => absurd (of_decide_eq_true h) (by omega)) (fun _ => ?_)
  refine den_call rfl (heldLastS (k + 1) y.2.2.2.2.2.1 n3 n4 hy.2.2.2.2.2.1 (by omega) (by omega) q4) rfl ?_
  simp only [List.cons_append, List.nil_append]
  refine den_let rfl ?_
  refine den_ite (b := decide (n4 < 0)) rfl (fun h => absurd (of_decide_eq_true h) (by omega)) (fun _ => ?_)
  simp only [List.cons_append, List.nil_append]
  exact den_ret rfl rfl
end Go.Proofs.Ytecleaangfcloab.VtFnExactStateRead
