/- Behind: the law. Lemmas alone, no statement. -/
import Derived.Test.YtecleaangfcloaaVpBeFnExactBehind
import Derived.Test.YtecleaangfcloaaVpMkFnExactBehind
namespace Go.Proofs.Ytecleaangfcloaa.VtFnExactBehind
set_option linter.unusedVariables false
set_option linter.unusedSimpArgs false
open Go Go.Vm
theorem okI_of {y : D ITy} (h : okD ITy y) : okI y := ⟨h.2.2.2.2.1.1, h.2.2.2.2.2.1.1⟩
set_option maxHeartbeats 4000000 in
theorem law (k : Nat) (x : D NTy) (s : Int) (hw : WfD NTy x) : Lv big (k + 9) 7 [⟨NTy, x⟩, I s] = some [B true] := by
  refine level_den rfl rfl ?_ rfl
  unfold ir7
  obtain ⟨r, e1, b1, c1⟩ := szNode (k + 2) x 1048576 (by omega) (by show (1048576 : Int) < 1048577; omega) hw
  refine den_let rfl (den_let rfl ?_)
  simp only [List.cons_append, List.nil_append]
  refine den_call rfl e1 rfl (den_let rfl (den_ite (b := decide (r < 0)) rfl (fun _ => den_ret rfl rfl) (fun h => ?_)))
  have h : ¬ r < 0 := of_decide_eq_false h
  rcases c1 with c1 | ⟨_, hx⟩
  · exact absurd c1 h
  have hto := toNode (k + 2) x hx
  have heqn := eqNode (k + 2) x hx
  obtain ⟨xm, km, em, am, bm, om, rm⟩ := markNode (k + 5) x 1 hx (by omega) (by unfold top; omega)
  obtain ⟨i0, i1, i2, l, i4, i5, i6, i7, v, n, m, u⟩ := x
  have hl : l.length < big := hx.2.2.2.1.1
  have hy : ∀ y ∈ l, okI y := fun y hy => okI_of (hx.2.2.2.1.2 y hy)
  have hv : v.length < big := hx.2.2.2.2.2.2.2.2.1.1
  have eS := behS big (k + 1) i0 i1 i2 l i4 i5 i6 i7 v n m s (Nat.le_refl _) hl hy hv
  have eI := behI big k i0 i1 i2 l i4 i5 i6 i7 v n m s (Nat.le_refl _) hl hy hv
  have hlen := behL_len i0 i1 i2 l i4 i5 i6 i7 v n m s
  generalize behL i0 i1 i2 l i4 i5 i6 i7 v n m s = w at eS eI hlen
  have hok : okD (.sl (.int .i64)) w := ⟨Nat.lt_of_le_of_lt hlen hv, fun _ _ => trivial⟩
  have heqw := eqIntS (k + 7) w hok
  obtain ⟨pm, qm, em2, am2, bm2, om2, rm2⟩ := markIntS (k + 7) w 1 hok (by omega) (by unfold top; omega)
  have hheld := heldIntS (k + 7) pm 1 qm om2 (by omega) (by unfold top; omega) rm2
  simp only [List.cons_append, List.nil_append]
  refine den_let rfl (den_call rfl hto rfl ?_)
  simp only [List.cons_append, List.nil_append]
  refine den_call rfl eS rfl (den_let rfl ?_)
  simp only [List.cons_append, List.nil_append]
  refine den_call rfl hto rfl (den_let rfl (den_let rfl ?_))
  simp only [List.cons_append, List.nil_append]
  refine den_call rfl eI rfl (den_call rfl heqw rfl (den_let rfl (den_ite rfl (fun h => by simp at h) (fun _ => ?_))))
  simp only [List.cons_append, List.nil_append]
  refine den_let rfl (den_call rfl hto rfl (den_let rfl ?_))
  simp only [List.cons_append, List.nil_append]
  refine den_call rfl heqn rfl (den_let rfl (den_ite rfl (fun h => by simp at h) (fun _ => ?_)))
  simp only [List.cons_append, List.nil_append]
  refine den_let rfl (den_call rfl em rfl ?_)
  simp only [List.cons_append, List.nil_append]
  refine den_let rfl (den_ite (b := decide (km < 0)) rfl (fun h => absurd (of_decide_eq_true h) (by omega)) (fun _ => ?_))
  simp only [List.cons_append, List.nil_append]
  refine den_call rfl heqw rfl (den_let rfl (den_ite rfl (fun h => by simp at h) (fun _ => ?_)))
  simp only [List.cons_append, List.nil_append]
  refine den_call rfl em2 rfl (den_call rfl hheld rfl (den_let rfl (den_ite (b := decide (qm < 0)) rfl (fun h => absurd (of_decide_eq_true h) (by omega)) (fun _ => ?_))))
  simp only [List.cons_append, List.nil_append]
  refine den_let rfl (den_ite rfl (fun h => by simp at h) (fun _ => ?_))
  simp only [List.cons_append, List.nil_append]
  refine den_let rfl (den_call rfl hto rfl ?_)
  simp only [List.cons_append, List.nil_append]
  refine den_call rfl eI rfl (den_call rfl heqw rfl (den_let rfl (den_ite rfl (fun h => by simp at h) (fun _ => ?_))))
  simp only [List.cons_append, List.nil_append]
  refine den_call rfl hheld rfl (den_let rfl (den_ite (b := decide (qm < 0)) rfl (fun h => absurd (of_decide_eq_true h) (by omega)) (fun _ => ?_)))
  simp only [List.cons_append, List.nil_append]
  exact den_let rfl (den_ite rfl (fun h => by simp at h) (fun _ => den_ret rfl rfl))
end Go.Proofs.Ytecleaangfcloaa.VtFnExactBehind
