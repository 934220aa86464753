/- Want, by the program and by the reference, is one; the law. Lemmas alone, no statement. -/
import Derived.Test.YtecleaangfcloaaVpWantFnExactWant
import Derived.Test.YtecleaangfcloaaVpMkFnExactWant
namespace Go.Proofs.Ytecleaangfcloaa.VtFnExactWant
set_option linter.unusedVariables false
set_option linter.unusedSimpArgs false
open Go Go.Vm
theorem okServ_of {s : D ServT} (h : okD ServT s) : okServ s := ⟨h.1.1, h.2.1.1, fun c hc => (h.2.1.2 c hc).1.1⟩
theorem partOk_le {l : List Int} (h : partOk l = true) : l.length ≤ 20 := by
  unfold partOk keyOk at h
  simp only [Bool.and_eq_true, decide_eq_true_eq] at h
  omega
def wantP (x : D LocalT) : List (D PairT) := if localOk x.1 x.2.1 then List.map (pairOf x.1) x.2.1 else []
theorem upAll_mem {f : Nat → Bool} {n j : Nat} (h : upAll f 0 n = true) (hj : j < n) : f j = true := up_get h (Nat.zero_le _) (by omega)
theorem want_ok (x : D LocalT) (hx : okD LocalT x) : okD (.sl PairT) (wantP x) := by
  obtain ⟨node, ss, u⟩ := x
  obtain ⟨_, ⟨s1, s2⟩, _⟩ := hx
  unfold wantP
  dsimp only
  split
  · rename_i hl
    unfold localOk at hl
    simp only [Bool.and_eq_true, decide_eq_true_eq] at hl
    obtain ⟨h1, h2, h3⟩ := hl
    refine ⟨by show (List.map (pairOf node) ss).length < big; rw [List.length_map]; exact s1, fun y hy => ?_⟩
    obtain ⟨s, hs, rfl⟩ := List.mem_map.1 hy
    obtain ⟨j, hj, hjs⟩ := List.mem_iff_getElem.1 hs
    have h4 := upAll_mem h3 hj
    have hp : partOk s.1 = true := by
      unfold servAt at h4
      rw [List.getElem?_eq_getElem hj] at h4
      subst hjs
      simp only [Bool.and_eq_true] at h4
      exact h4.1
    have l1 := partOk_le h1
    have l2 := partOk_le hp
    refine ⟨⟨?_, fun _ _ => trivial⟩, ⟨?_, fun _ _ => trivial⟩, trivial⟩
    · show (svcKey node s.1).length < big
      rw [svcKey_length]
      unfold big
      omega
    · show (stText _).length < big
      unfold stText big
      split
      · simp
      · split
        · simp
        · split <;> simp
  · exact ⟨by show 0 < big; unfold big; omega, by simp⟩
theorem wantSS (N k : Nat) (x : D LocalT) (hN : big ≤ N) (hx : okD LocalT x) : Lv N (k + 6) 34 [⟨LocalT, x⟩] = some [S PairT (wantP x)] := by
  obtain ⟨node, ss, u⟩ := x
  obtain ⟨⟨n1, _⟩, ⟨s1, s2⟩, _⟩ := hx
  have hs : ∀ s ∈ ss, okServ s := fun s h => okServ_of (s2 s h)
  refine level_den rfl rfl ?_ rfl
  unfold ir34 wantP
  refine den_let rfl (den_let rfl (den_call rfl (localOkS N k node ss hN n1 s1 hs) rfl (den_let rfl (den_ite (b := !localOk node ss) rfl (fun h => ?_) (fun h => ?_)))))
  · rw [if_neg (by simpa using h)]
    exact den_ret rfl rfl
  · rw [if_pos (by simpa using h)]
    simp only [List.cons_append, List.nil_append]
    exact den_let rfl (den_call rfl (wantS N k node ss hN n1 s1 hs) rfl (den_ret rfl rfl))
theorem wantII (N k : Nat) (x : D LocalT) (hN : big ≤ N) (hx : okD LocalT x) : Lv N (k + 7) 36 [⟨LocalT, x⟩] = some [S PairT (wantP x)] := by
  obtain ⟨node, ss, u⟩ := x
  obtain ⟨⟨n1, _⟩, ⟨s1, s2⟩, _⟩ := hx
  have hs : ∀ s ∈ ss, okServ s := fun s h => okServ_of (s2 s h)
  refine level_den rfl rfl ?_ rfl
  unfold ir36 wantP
  refine den_let rfl (den_let rfl (den_call rfl (localOkI N (k + 1) node ss hN n1 s1 hs) rfl (den_let rfl (den_ite (b := !localOk node ss) rfl (fun h => ?_) (fun h => ?_)))))
  · rw [if_neg (by simpa using h)]
    exact den_ret rfl rfl
  · rw [if_pos (by simpa using h)]
    simp only [List.cons_append, List.nil_append]
    exact den_let rfl (den_call rfl (wantI N k node ss hN n1 s1 hs) rfl (den_ret rfl rfl))
set_option maxHeartbeats 2000000 in
theorem law (k : Nat) (x : D LocalT) (hw : WfD LocalT x) : Lv big (k + 8) 8 [⟨LocalT, x⟩] = some [B true] := by
  refine level_den rfl rfl ?_ rfl
  unfold ir8
  obtain ⟨r, e1, b1, c1⟩ := szLocal (k + 1) x 1048576 (by omega) (by unfold big; omega) hw
  refine den_let rfl (den_let rfl (den_call rfl e1 rfl (den_let rfl (den_ite rfl (fun _ => den_ret rfl rfl) (fun h => ?_)))))
  have h : 0 ≤ r := by simpa using h
  rcases c1 with c1 | ⟨_, hx⟩
  · omega
  have hok := want_ok x hx
  obtain ⟨xm, km, em, am, bm, om, rm⟩ := markLocal (k + 3) x 1 hx (by omega) (by unfold top; omega)
  obtain ⟨pm, qm, em2, am2, bm2, om2, rm2⟩ := markPairS (k + 5) (wantP x) 1 hok (by omega) (by unfold top; omega)
  have hheld := heldPairS (k + 5) pm 1 qm om2 (by omega) (by unfold top; omega) rm2
  simp only [List.cons_append, List.nil_append]
  refine den_let rfl (den_call rfl (toLocal (k + 1) x hx) rfl (den_call rfl (wantSS big (k + 1) x (Nat.le_refl _) hx) rfl ?_))
  simp only [List.cons_append, List.nil_append]
  refine den_let rfl (den_call rfl (toLocal (k + 1) x hx) rfl (den_let rfl (den_let rfl ?_)))
  simp only [List.cons_append, List.nil_append]
  refine den_call rfl (wantII big k x (Nat.le_refl _) hx) rfl (den_call rfl (eqPairS (k + 4) (wantP x) hok) rfl (den_let rfl (den_ite rfl (fun h => ?_) (fun _ => ?_))))
  · simp at h
  simp only [List.cons_append, List.nil_append]
  refine den_let rfl (den_call rfl (toLocal (k + 1) x hx) rfl (den_let rfl (den_call rfl (eqLocal (k + 1) x hx) rfl (den_let rfl (den_ite rfl (fun h => ?_) (fun _ => ?_))))))
  · simp at h
  simp only [List.cons_append, List.nil_append]
  refine den_let rfl (den_call rfl em rfl (den_let rfl (den_ite (b := decide (km < 0)) rfl (fun h => absurd (of_decide_eq_true h) (by omega)) (fun _ => ?_))))
  simp only [List.cons_append, List.nil_append]
  refine den_call rfl (eqPairS (k + 4) (wantP x) hok) rfl (den_let rfl (den_ite rfl (fun h => ?_) (fun _ => ?_)))
  · simp at h
  simp only [List.cons_append, List.nil_append]
  refine den_call rfl em2 rfl (den_call rfl hheld rfl (den_let rfl (den_ite (b := decide (qm < 0)) rfl (fun h => absurd (of_decide_eq_true h) (by omega)) (fun _ => ?_))))
  simp only [List.cons_append, List.nil_append]
  refine den_let rfl (den_ite rfl (fun h => by simp at h) (fun _ => ?_))
  simp only [List.cons_append, List.nil_append]
  refine den_let rfl (den_call rfl (toLocal (k + 1) x hx) rfl (den_call rfl (wantII big k x (Nat.le_refl _) hx) rfl ?_))
  simp only [List.cons_append, List.nil_append]
  refine den_call rfl (eqPairS (k + 4) (wantP x) hok) rfl (den_let rfl (den_ite rfl (fun h => ?_) (fun _ => ?_)))
  · simp at h
  simp only [List.cons_append, List.nil_append]
  refine den_call rfl hheld rfl (den_let rfl (den_ite (b := decide (qm < 0)) rfl (fun h => absurd (of_decide_eq_true h) (by omega)) (fun _ => ?_)))
  simp only [List.cons_append, List.nil_append]
  refine den_let rfl (den_ite rfl (fun h => by simp at h) (fun _ => den_ret rfl rfl))
end Go.Proofs.Ytecleaangfcloaa.VtFnExactWant
