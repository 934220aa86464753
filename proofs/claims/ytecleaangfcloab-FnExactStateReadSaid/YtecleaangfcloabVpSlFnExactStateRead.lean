/- StateRead: the law. Lemmas alone, no statement. -/
import Derived.Test.YtecleaangfcloabVpSrFnExactStateRead
import Derived.Test.YtecleaangfcloabVpMkFnExactStateRead
import Derived.DataShut
namespace Go.Proofs.Ytecleaangfcloab.VtFnExactStateRead
set_option linter.unusedVariables false
set_option linter.unusedSimpArgs false
open Go Go.Vm
theorem both (k : Nat) (b : List Int) (hb : By b) (hm : b.length < big) : ∃ (x : D StateT) (ok : Bool), Lv big (k + 7) 30 [Bs b] = some [⟨StateT, x⟩, B ok] ∧ Lv big (k + 7) 21 [Bs b] = some [⟨StateT, x⟩, B ok] ∧ okD StateT x := by
  by_cases h : ∃ (j l : Int) (rs : List (D RowT)) (ts : List (D TombT)) (xs : List (D SessT)) (cs : List (D LastT)), Ent b j l rs ts xs cs
  · obtain ⟨j, l, rs, ts, xs, cs, h⟩ := h
    obtain ⟨o1, e1, q1⟩ := readS big k b j l rs ts xs cs hb hm (Nat.le_refl _)
    obtain ⟨o2, e2, q2⟩ := readI big k b j l rs ts xs cs hb hm (Nat.le_refl _)
    rcases q1 with ⟨_, q1⟩ | ⟨a1, a2, a3, a4, a5, a6, rfl, _, ho, q1⟩
    · exact absurd h q1
    rcases q2 with ⟨_, q2⟩ | ⟨b1, b2, b3, b4, b5, b6, rfl, _, _, q2⟩
    · exact absurd h q2
    obtain ⟨rfl, rfl, rfl, rfl, rfl, rfl⟩ := q1 h
    obtain ⟨rfl, rfl, rfl, rfl, rfl, rfl⟩ := q2 h
    exact ⟨_, true, e1, e2, ho⟩
  · obtain ⟨o1, e1, q1⟩ := readS big k b 0 0 [] [] [] [] hb hm (Nat.le_refl _)
    obtain ⟨o2, e2, q2⟩ := readI big k b 0 0 [] [] [] [] hb hm (Nat.le_refl _)
    rcases q1 with ⟨rfl, _⟩ | ⟨a1, a2, a3, a4, a5, a6, rfl, q1, _⟩
    · rcases q2 with ⟨rfl, _⟩ | ⟨b1, b2, b3, b4, b5, b6, rfl, q2, _⟩
      · exact ⟨_, false, e1, e2, ok_state (by decide) (by decide) (by decide) (by decide) all_nil all_nil⟩
      · exact absurd ⟨_, _, _, _, _, _, q2⟩ h
    · exact absurd ⟨_, _, _, _, _, _, q1⟩ h
theorem by_wf {b : List Int} (h : ∀ y ∈ b, WfD (.int .u8) y) : By b := by
  intro y hy
  have := h y hy
  unfold WfD at this
  have h2 := (Lit.wf_int_iff .u8 y).1 this
  have e1 : IntKind.u8.min = 0 := by decide
  have e2 : IntKind.u8.max = 255 := by decide
  rw [e1, e2] at h2
  omega
set_option maxHeartbeats 2000000 in
theorem law (k : Nat) (b : D (.sl (.int .u8))) (hw : WfD (.sl (.int .u8)) b) : Lv big (k + 8) 6 [⟨.sl (.int .u8), b⟩] = some [B true] := by
  have hby : By b := by_wf hw.2
  refine level_den rfl rfl ?_ rfl
  unfold ir6
  refine den_let rfl (den_let rfl (den_ite (b := decide ((List.length b : Int) > 1048576)) rfl (fun _ => den_ret rfl rfl) (fun h => ?_)))
  have h : ¬ (List.length b : Int) > 1048576 := of_decide_eq_false h
  have hlen : List.length b < big := by unfold big; omega
  have hx : okD (.sl (.int .u8)) b := ⟨hlen, fun _ _ => trivial⟩
  obtain ⟨x, ok, eS, eI, hox⟩ := both k b hby hlen
  obtain ⟨bm, kb', em, am, bbm, om, rm⟩ := markByteS (k + 6) b 1 hx (by omega) (by unfold top; omega)
  obtain ⟨pm, qm, em2, am2, bm2, om2, rm2⟩ := markState (k + 4) x 1 hox (by omega) (by unfold top; omega)
  have hheld := heldState (k + 4) pm 1 qm om2 (by omega) (by unfold top; omega) rm2
  have heq := eqState (k + 3) x hox
  obtain ⟨i0, rows, tombs, lost, ss, lasts, u⟩ := x
  obtain ⟨p0, p1, p2, p3, p4, p5, p6⟩ := pm
  have hbeq : (if true = true then !(ok == ok) else ok == ok) = false := by simp
  simp only [List.cons_append, List.nil_append]
  refine den_call rfl (toByteS (k + 6) b hx) rfl (den_call rfl eS rfl (den_let rfl ?_))
  simp only [List.cons_append, List.nil_append]
  refine den_call rfl (toByteS (k + 6) b hx) rfl (den_call rfl eI rfl (den_let rfl ?_))
  simp only [List.cons_append, List.nil_append]
  refine den_let rfl (den_let rfl (den_call rfl heq rfl (den_let rfl (den_ite rfl (fun h => by simp at h) (fun _ => ?_)))))
  simp only [List.cons_append, List.nil_append]
  refine den_let rfl (den_ite rfl (fun h => absurd h (by rw [hbeq]; simp)) (fun _ => ?_))
  simp only [List.cons_append, List.nil_append]
  refine den_call rfl (toByteS (k + 6) b hx) rfl (den_call rfl (eqByteS (k + 6) b hx) rfl (den_let rfl (den_ite rfl (fun h => by simp at h) (fun _ => ?_))))
  simp only [List.cons_append, List.nil_append]
  refine den_call rfl em rfl (den_let rfl (den_ite (b := decide (kb' < 0)) rfl (fun h => absurd (of_decide_eq_true h) (by omega)) (fun _ => ?_)))
  simp only [List.cons_append, List.nil_append]
  refine den_let rfl (den_let rfl (den_call rfl heq rfl (den_let rfl (den_ite rfl (fun h => by simp at h) (fun _ => ?_)))))
  simp only [List.cons_append, List.nil_append]
  refine den_let rfl (den_ite rfl (fun h => absurd h (by rw [hbeq]; simp)) (fun _ => ?_))
  simp only [List.cons_append, List.nil_append]
  refine den_let rfl (den_call rfl em2 rfl (den_let rfl (den_call rfl hheld rfl ?_)))
  simp only [List.cons_append, List.nil_append]
  refine den_let rfl (den_ite (b := decide (qm < 0)) rfl (fun h => absurd (of_decide_eq_true h) (by omega)) (fun _ => ?_))
  refine den_let rfl (den_ite rfl (fun h => by simp at h) (fun _ => ?_))
  simp only [List.cons_append, List.nil_append]
  refine den_call rfl (toByteS (k + 6) b hx) rfl (den_call rfl eI rfl (den_let rfl ?_))
  simp only [List.cons_append, List.nil_append]
  refine den_let rfl (den_let rfl (den_call rfl heq rfl (den_let rfl (den_ite rfl (fun h => by simp at h) (fun _ => ?_)))))
  simp only [List.cons_append, List.nil_append]
  refine den_let rfl (den_ite rfl (fun h => absurd h (by rw [hbeq]; simp)) (fun _ => ?_))
  simp only [List.cons_append, List.nil_append]
  refine den_let rfl (den_call rfl hheld rfl (den_let rfl (den_ite (b := decide (qm < 0)) rfl (fun h => absurd (of_decide_eq_true h) (by omega)) (fun _ => ?_))))
  simp only [List.cons_append, List.nil_append]
  exact den_let rfl (den_ite rfl (fun h => by simp at h) (fun _ => den_ret rfl rfl))
end Go.Proofs.Ytecleaangfcloab.VtFnExactStateRead
