/- What the marks of FnExactBehind leave, and that it is held. Lemmas alone, no statement. -/
import Derived.Test.YtecleaangfcloaaVpTseFnExactBehind
import Derived.Test.YtecleaangfcloaaVmMk
namespace Go.Proofs.Ytecleaangfcloaa.VtFnExactBehind
set_option linter.unusedVariables false
set_option linter.unusedSimpArgs false
set_option maxHeartbeats 2000000
open Go Go.Vm
theorem ev_rem3 {x : Int} : evX (.bin .rem 3) [I x, I 3] = some (I (x.tmod 3)) := rfl

theorem markIntS (k : Nat) : MkF (Lv big (k + 1)) 31 (.sl (.int .i64)) 1048577 HI := by
  intro x n hx h0 h1
  obtain ⟨x', k', e, a, b, c, h⟩ := mkInt hx h0 h1
  exact ⟨x', k', level_den rfl rfl e rfl, a, b, c, h⟩
theorem markBoolS (k : Nat) : MkF (Lv big (k + 1)) 86 (.sl .bool) 1048577 HO := by
  intro x n hx h0 h1
  obtain ⟨x', k', e, a, b, c, h⟩ := mkBool hx h0 h1
  exact ⟨x', k', level_den rfl rfl e rfl, a, b, c, h⟩
theorem markByteS (k : Nat) : MkF (Lv big (k + 1)) 98 (.sl (.int .u8)) 1048577 HB := by
  intro x n hx h0 h1
  obtain ⟨x', k', e, a, b, c, h⟩ := mkByte hx h0 h1
  exact ⟨x', k', level_den rfl rfl e rfl, a, b, c, h⟩
def EmItem (y : D TyItem) (k k' : Int) : Prop := y.1 = k ∧ y.2.1 = (k + 1) ∧ y.2.2.1 = ((k + 1) + 1) ∧ y.2.2.2.1 = (((k + 1) + 1) + 1) ∧ ∃ k1, HB y.2.2.2.2.1 ((((k + 1) + 1) + 1) + 1) k1 ∧ ∃ k2, HB y.2.2.2.2.2.1 k1 k2 ∧ y.2.2.2.2.2.2.1 = k2 ∧ k' = (k2 + 1)
theorem EmItem.mono {y : D TyItem} {k k' : Int} (h : EmItem y k k') : k ≤ k' := by
  obtain ⟨h1, h2, h3, h4, j5, h5, j6, h6, h7, hk⟩ := h
  have := HB.mono h5
  have := HB.mono h6
  omega
def HSItem (l : List (D TyItem)) (k k' : Int) : Prop := ML EmItem l k k'
theorem HSItem.mono {l : List (D TyItem)} {k k' : Int} (h : HSItem l k k') : k ≤ k' := ML.mono (fun _ _ _ h => EmItem.mono h) h
theorem markItemS (k : Nat) : MkF (Lv big (k + 2)) 85 (.sl TyItem) 2199032692743 HSItem := by
  intro l n hl h0 h1
  have hlen : l.length < big := hl.1
  have hl2 : (l.length : Int) ≤ 1048577 := by unfold big at hlen; omega
  have key : ∃ (l' : List (D TyItem)) (n' : Int), den (Lv big (k + 1)) big ir85 [I n, S TyItem l] [] = some [I n', S TyItem l'] ∧ l'.length = l.length ∧ (∀ y ∈ l', okD TyItem y) ∧ n ≤ n' ∧ n' ≤ n + 2097159 * l.length ∧ ML EmItem l' n n' := by
    refine mark_row (Em := EmItem) (W := 2097159) (by decide) hl h0 (by omega) ?ext ?stp
    case ext =>
      intro J k i l h
      simp only [List.cons_append, List.nil_append]
      exact den_let rfl (den_let rfl (den_ite (b := decide (i < (List.length l : Int))) rfl (fun h' => absurd (by simpa using h') h) (fun _ => den_ret rfl rfl)))
    case stp =>
      intro J n i l y h0 h1 hi hg hm hil hy
      obtain ⟨x5, n5, e5, a5, b5, o5, r5⟩ := markByteS k y.2.2.2.2.1 ((((n + 1) + 1) + 1) + 1) hy.2.2.2.2.1 (by omega) (by omega)
      obtain ⟨x6, n6, e6, a6, b6, o6, r6⟩ := markByteS k y.2.2.2.2.2.1 n5 hy.2.2.2.2.2.1 (by omega) (by omega)
      refine ⟨(n, (n + 1), ((n + 1) + 1), (((n + 1) + 1) + 1), x5, x6, n6, ()), (n6 + 1), by omega, by omega, ⟨trivial, ⟨trivial, ⟨trivial, ⟨trivial, ⟨o5, ⟨o6, ⟨trivial, trivial⟩⟩⟩⟩⟩⟩⟩, ⟨rfl, rfl, rfl, rfl, n5, r5, n6, r6, rfl, rfl⟩, fun r hr => ?_⟩
      simp only [List.cons_append, List.nil_append]
      refine den_let rfl (den_let rfl (den_ite (b := decide (i < (List.length l : Int))) rfl (fun _ => ?_) (fun h => absurd hil (by simpa using h))))
      simp only [List.cons_append, List.nil_append]
      refine den_idx rfl rfl rfl hi hg ?_
      refine den_set (z := (n, y.2.1, y.2.2.1, y.2.2.2.1, y.2.2.2.2.1, y.2.2.2.2.2.1, y.2.2.2.2.2.2.1, ())) rfl rfl rfl rfl hi hg rfl (fun l1 hl1 hg1 => ?_)
      simp only [List.cons_append, List.nil_append]
      refine den_inc (n := n) rfl (by omega) (by omega) ?_
      refine den_idx rfl rfl rfl hi hg1 ?_
      refine den_set (z := (n, (n + 1), y.2.2.1, y.2.2.2.1, y.2.2.2.2.1, y.2.2.2.2.2.1, y.2.2.2.2.2.2.1, ())) rfl rfl rfl rfl hi hg1 rfl (fun l2 hl2 hg2 => ?_)
      simp only [List.cons_append, List.nil_append]
      refine den_inc (n := (n + 1)) rfl (by omega) (by omega) ?_
      refine den_idx rfl rfl rfl hi hg2 ?_
      refine den_set (z := (n, (n + 1), ((n + 1) + 1), y.2.2.2.1, y.2.2.2.2.1, y.2.2.2.2.2.1, y.2.2.2.2.2.2.1, ())) rfl rfl rfl rfl hi hg2 rfl (fun l3 hl3 hg3 => ?_)
      simp only [List.cons_append, List.nil_append]
      refine den_inc (n := ((n + 1) + 1)) rfl (by omega) (by omega) ?_
      refine den_idx rfl rfl rfl hi hg3 ?_
      refine den_set (z := (n, (n + 1), ((n + 1) + 1), (((n + 1) + 1) + 1), y.2.2.2.2.1, y.2.2.2.2.2.1, y.2.2.2.2.2.2.1, ())) rfl rfl rfl rfl hi hg3 rfl (fun l4 hl4 hg4 => ?_)
      simp only [List.cons_append, List.nil_append]
      refine den_inc (n := (((n + 1) + 1) + 1)) rfl (by omega) (by omega) ?_
      refine den_idx rfl rfl rfl hi hg4 ?_
      refine den_idx rfl rfl rfl hi hg4 ?_
      simp only [List.cons_append, List.nil_append]
      refine den_let rfl ?_
      refine den_idx rfl rfl rfl hi hg4 ?_
      refine den_call rfl e5 rfl ?_
      simp only [List.cons_append, List.nil_append]
      refine den_set (z := (n, (n + 1), ((n + 1) + 1), (((n + 1) + 1) + 1), x5, y.2.2.2.2.2.1, y.2.2.2.2.2.2.1, ())) rfl rfl rfl rfl hi hg4 rfl (fun l5 hl5 hg5 => ?_)
      refine den_idx rfl rfl rfl hi hg5 ?_
      refine den_idx rfl rfl rfl hi hg5 ?_
      simp only [List.cons_append, List.nil_append]
      refine den_let rfl ?_
      refine den_idx rfl rfl rfl hi hg5 ?_
      refine den_call rfl e6 rfl ?_
      simp only [List.cons_append, List.nil_append]
      refine den_set (z := (n, (n + 1), ((n + 1) + 1), (((n + 1) + 1) + 1), x5, x6, y.2.2.2.2.2.2.1, ())) rfl rfl rfl rfl hi hg5 rfl (fun l6 hl6 hg6 => ?_)
      refine den_idx rfl rfl rfl hi hg6 ?_
      refine den_set (z := (n, (n + 1), ((n + 1) + 1), (((n + 1) + 1) + 1), x5, x6, n6, ())) rfl rfl rfl rfl hi hg6 rfl (fun l7 hl7 hg7 => ?_)
      simp only [List.cons_append, List.nil_append]
      refine den_inc (n := n6) rfl (by omega) (by omega) ?_
      refine den_up rfl hi (Int.le_of_lt hil) (n := i) (m := List.length l) hm ?_
      simp only [List.cons_append, List.nil_append]
      refine den_jump rfl rfl ?_
      have hls : l7 = List.set l i.toNat (n, (n + 1), ((n + 1) + 1), (((n + 1) + 1) + 1), x5, x6, n6, ()) := by simp only [hl7, hl6, hl5, hl4, hl3, hl2, hl1, List.set_set]
      rw [hls]
      exact hr
  obtain ⟨l', n', e1, e2, e3, e4, e5, e6⟩ := key
  exact ⟨l', n', level_den rfl rfl e1 rfl, e4, by omega, ⟨by show List.length l' < big; rw [e2]; exact hlen, e3⟩, e6⟩
def HNode (y : D TyNode) (k k' : Int) : Prop := ∃ k1, HSItem y.2.2.2.1 k k1 ∧ ∃ k2, HO y.2.2.2.2.2.2.2.2.1 k1 k2 ∧ ∃ k3, HI y.2.2.2.2.2.2.2.2.2.1 k2 k3 ∧ ∃ k4, HI y.2.2.2.2.2.2.2.2.2.2.1 k3 k4 ∧ k' = k4
theorem HNode.mono {y : D TyNode} {k k' : Int} (h : HNode y k k') : k ≤ k' := by
  obtain ⟨j1, h1, j2, h2, j3, h3, j4, h4, hk⟩ := h
  have := HSItem.mono h1
  have := HO.mono h2
  have := HI.mono h3
  have := HI.mono h4
  omega
theorem markNode (k : Nat) : MkF (Lv big (k + 3)) 30 TyNode 2199035838474 HNode := by
  intro y n hy h0 h1
  obtain ⟨x1, n1, e1, a1, b1, o1, r1⟩ := markItemS k y.2.2.2.1 n hy.2.2.2.1 (by omega) (by omega)
  obtain ⟨x2, n2, e2, a2, b2, o2, r2⟩ := markBoolS (k + 1) y.2.2.2.2.2.2.2.2.1 n1 hy.2.2.2.2.2.2.2.2.1 (by omega) (by omega)
  obtain ⟨x3, n3, e3, a3, b3, o3, r3⟩ := markIntS (k + 1) y.2.2.2.2.2.2.2.2.2.1 n2 hy.2.2.2.2.2.2.2.2.2.1 (by omega) (by omega)
  obtain ⟨x4, n4, e4, a4, b4, o4, r4⟩ := markIntS (k + 1) y.2.2.2.2.2.2.2.2.2.2.1 n3 hy.2.2.2.2.2.2.2.2.2.2.1 (by omega) (by omega)
  refine ⟨(y.1, y.2.1, y.2.2.1, x1, y.2.2.2.2.1, y.2.2.2.2.2.1, y.2.2.2.2.2.2.1, y.2.2.2.2.2.2.2.1, x2, x3, x4, ()), n4, level_den rfl rfl ?_ rfl, by omega, by omega, ⟨hy.1, ⟨hy.2.1, ⟨hy.2.2.1, ⟨o1, ⟨hy.2.2.2.2.1, ⟨hy.2.2.2.2.2.1, ⟨hy.2.2.2.2.2.2.1, ⟨hy.2.2.2.2.2.2.2.1, ⟨o2, ⟨o3, ⟨o4, trivial⟩⟩⟩⟩⟩⟩⟩⟩⟩⟩⟩, n1, r1, n2, r2, n3, r3, n4, r4, rfl⟩
  unfold ir30
  refine den_let rfl ?_
  refine den_let rfl ?_
  simp only [List.cons_append, List.nil_append]
  refine den_call rfl e1 rfl ?_
  refine den_let rfl ?_
  refine den_call rfl e2 rfl ?_
  simp only [List.cons_append, List.nil_append]
  refine den_let rfl ?_
  refine den_call rfl e3 rfl ?_
  refine den_let rfl ?_
  simp only [List.cons_append, List.nil_append]
  refine den_call rfl e4 rfl ?_
  refine den_let rfl ?_
  exact den_ret rfl rfl
theorem heldIntS (k : Nat) : HdF (Lv big (k + 1)) 32 (.sl (.int .i64)) HI := by
  intro x n n' hx h0 h1 hh
  exact level_den rfl rfl (hdInt hx h0 h1 hh) rfl
end Go.Proofs.Ytecleaangfcloaa.VtFnExactBehind
