/- Synced, by the program and by the reference, is one; the law. Lemmas alone, no statement. -/
import Derived.Test.YtecleaangfcloabGreatVpPlanFnExactSynced
namespace Go.Proofs.YtecleaangfcloabGreat.VtFnExactSynced
set_option linter.unusedVariables false
set_option linter.unusedSimpArgs false
open Go Go.Vm
theorem okServ_of {s : D ServT} (h : okD ServT s) : okServ s := ⟨h.1.1, h.2.1.1, fun c hc => (h.2.1.2 c hc).1.1⟩
def syncedB (x : D LocalT) (y : D StateT) : Bool := localOk x.1 x.2.1 && (stateOk y.1 y.2.2.2.1 y.2.1 y.2.2.1 y.2.2.2.2.1 y.2.2.2.2.2.1 && (((planOf x.1 (List.map (pairOf x.1) x.2.1) y.2.1).length : Int) == 0))
theorem syncedS (N k : Nat) (x : D LocalT) (y : D StateT) (hN : big ≤ N) (hx : okD LocalT x) (hy : okD StateT y) : Lv N (k + 7) 8 [⟨LocalT, x⟩, ⟨StateT, y⟩] = some [B (syncedB x y)] := by
  obtain ⟨node, ss, u⟩ := x
  obtain ⟨i0, rows, tombs, lost, sess, lasts, u2⟩ := y
  obtain ⟨⟨n1, _⟩, ⟨s1, s2⟩, _⟩ := hx
  obtain ⟨_, ⟨r1, r2⟩, ⟨t1, t2⟩, _, ⟨e1, _⟩, ⟨l1, _⟩, _⟩ := hy
  refine level_den rfl rfl ?_ rfl
  unfold ir8 syncedB
  refine den_let rfl (den_let rfl (den_let rfl (den_call rfl (localOkS N (k + 1) node ss hN n1 s1 (fun s h => okServ_of (s2 s h))) rfl (den_and rfl (fun _ => ?_)))))
  simp only [List.cons_append, List.nil_append]
  refine den_let rfl (den_call rfl (stateOkS N k i0 lost rows tombs sess lasts hN (fun y hy => ⟨(r2 y hy).1.1, trivial⟩) (fun y hy => ⟨(t2 y hy).1.1, trivial⟩) r1 t1 e1 l1) rfl (den_and rfl (fun _ => ?_)))
  simp only [List.cons_append, List.nil_append]
  refine den_let rfl (den_let rfl (den_call rfl (planS N k node ss i0 lost rows tombs sess lasts hN n1 s1 (fun s h => okServ_of (s2 s h)) r1 (fun y hy => (r2 y hy).1.1)) rfl ?_))
  exact den_let rfl (den_let rfl (den_ret rfl rfl))
theorem syncedI (N k : Nat) (x : D LocalT) (y : D StateT) (hN : big ≤ N) (hx : okD LocalT x) (hy : okD StateT y) : Lv N (k + 8) 11 [⟨LocalT, x⟩, ⟨StateT, y⟩] = some [B (syncedB x y)] := by
  obtain ⟨node, ss, u⟩ := x
  obtain ⟨i0, rows, tombs, lost, sess, lasts, u2⟩ := y
  obtain ⟨⟨n1, _⟩, ⟨s1, s2⟩, _⟩ := hx
  obtain ⟨_, ⟨r1, r2⟩, ⟨t1, t2⟩, _, ⟨e1, _⟩, ⟨l1, _⟩, _⟩ := hy
  have hp := planI N k node ss i0 lost rows tombs sess lasts hN n1 s1 (fun s h => okServ_of (s2 s h)) r1 (fun y hy => ⟨(r2 y hy).1.1, trivial⟩) (fun y hy => ⟨(t2 y hy).1.1, trivial⟩) t1 e1 l1
  refine level_den rfl rfl ?_ rfl
  unfold ir11 syncedB
  show _ = some [B (localOk node ss && (stateOk i0 lost rows tombs sess lasts && (((planOf node (ss.map (pairOf node)) rows).length : Int) == 0)))]
  rw [← Bool.and_assoc]
  by_cases hc : (localOk node ss && stateOk i0 lost rows tombs sess lasts) = true
  · rw [if_pos hc] at hp
    rw [hc, Bool.true_and]
    refine den_let rfl (den_let rfl (den_let rfl (den_let rfl (den_call rfl hp rfl (den_ite (b := true) rfl (fun _ => ?_) (fun h => by cases h))))))
    exact den_let rfl (den_let rfl (den_ret rfl rfl))
  · rw [if_neg hc] at hp
    rw [Bool.eq_false_iff.2 hc, Bool.false_and]
    exact den_let rfl (den_let rfl (den_let rfl (den_let rfl (den_call rfl hp rfl (den_ite (b := false) rfl (fun h => by cases h) (fun _ => den_ret rfl rfl))))))
set_option maxHeartbeats 2000000 in
theorem law (k : Nat) (x : D LocalT) (y : D StateT) (hw : WfD LocalT x) (hv : WfD StateT y) : Lv big (k + 9) 3 [⟨LocalT, x⟩, ⟨StateT, y⟩] = some [B true] := by
  refine level_den rfl rfl ?_ rfl
  unfold ir3
  obtain ⟨r, e1, b1, c1⟩ := szLocal (k + 2) x 1048576 (by omega) (by unfold big; omega) hw
  refine den_let rfl (den_let rfl (den_let rfl (den_call rfl e1 rfl (den_let rfl (den_ite rfl (fun _ => den_ret rfl rfl) (fun h => ?_))))))
  have h : 0 ≤ r := by simpa using h
  rcases c1 with c1 | ⟨_, hx⟩
  · omega
  simp only [List.cons_append, List.nil_append]
  obtain ⟨r2, e2, b2, c2⟩ := szState (k + 4) y r h (by unfold big; omega) hv
  refine den_let rfl (den_call rfl e2 rfl (den_let rfl (den_ite rfl (fun _ => den_ret rfl rfl) (fun h => ?_))))
  have h : 0 ≤ r2 := by simpa using h
  rcases c2 with c2 | ⟨_, hy⟩
  · omega
  simp only [List.cons_append, List.nil_append]
  refine den_let rfl (den_call rfl (toLocal (k + 2) x hx) rfl (den_let rfl (den_call rfl (toState (k + 4) y hy) rfl ?_)))
  simp only [List.cons_append, List.nil_append]
  refine den_call rfl (syncedS big (k + 1) x y (Nat.le_refl _) hx hy) rfl ?_
  simp only [List.cons_append, List.nil_append]
  refine den_let rfl (den_call rfl (toLocal (k + 2) x hx) rfl (den_let rfl (den_let rfl ?_)))
  simp only [List.cons_append, List.nil_append]
  refine den_call rfl (toState (k + 4) y hy) rfl (den_let rfl (den_let rfl (den_let rfl ?_)))
  simp only [List.cons_append, List.nil_append]
  refine den_call rfl (syncedI big k x y (Nat.le_refl _) hx hy) rfl (den_let rfl (den_ite rfl (fun h => ?_) (fun _ => ?_)))
  · simp at h
  simp only [List.cons_append, List.nil_append]
  refine den_let rfl (den_call rfl (toLocal (k + 2) x hx) rfl (den_let rfl (den_call rfl (eqLocal (k + 2) x hx) rfl (den_let rfl (den_ite rfl (fun h => ?_) (fun _ => ?_))))))
  · simp at h
  simp only [List.cons_append, List.nil_append]
  refine den_let rfl (den_call rfl (toState (k + 4) y hy) rfl (den_let rfl (den_call rfl (eqState (k + 4) y hy) rfl (den_let rfl (den_ite rfl (fun h => ?_) (fun _ => den_ret rfl rfl))))))
  simp at h
end Go.Proofs.YtecleaangfcloabGreat.VtFnExactSynced
