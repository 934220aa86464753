/- What is asked of a Snap, by the program and by the reference, is one; the law. Lemmas alone, no statement. -/
import Derived.Test.YtecleaangfcloabVpStateFnExactSnapOk
namespace Go.Proofs.Ytecleaangfcloab.VtFnExactSnapOk
set_option linter.unusedVariables false
set_option linter.unusedSimpArgs false
open Go Go.Vm
abbrev SnapT : Ty := .pair (.int .i64) (.pair (.sl RowT) (.pair (.sl TombT) (.pair (.int .i64) (.pair (.sl SessT) (.pair (.sl LastT) (.pair (.sl CTy) .unit))))))
def cmdX (x : D CTy) : Bool := cmdOk x.1 x.2.1 x.2.2.1 x.2.2.2.1 x.2.2.2.2.1 x.2.2.2.2.2.1
theorem cmdS (N k : Nat) (x : D CTy) (hN : big ≤ N) (hx : okD CTy x) : Lv N (k + 3) 76 [⟨CTy, x⟩] = some [B (cmdX x)] := cmd18 N k x.1 x.2.1 x.2.2.1 x.2.2.2.1 x.2.2.2.2.1 x.2.2.2.2.2.1 hN hx.2.2.2.1.1
theorem cmdI (N k : Nat) (x : D CTy) (hN : big ≤ N) (hx : okD CTy x) : Lv N (k + 4) 81 [⟨CTy, x⟩] = some [B (cmdX x)] := cmd67 N k x.1 x.2.1 x.2.2.1 x.2.2.2.1 x.2.2.2.2.1 x.2.2.2.2.2.1 hN hx.2.2.2.1.1
theorem cmdI1 (N k : Nat) (x : D CTy) (hN : big ≤ N) (hx : okD CTy x) : Lv N (k + 5) 80 [⟨CTy, x⟩] = some [B (!cmdX x)] := by
  refine level_den rfl rfl ?_ rfl
  unfold ir80
  exact den_let rfl (den_let rfl (den_call rfl (cmdI N k x hN hx) rfl (den_let rfl (den_ret rfl rfl))))

theorem cmdI2 (N k : Nat) (l : List (D CTy)) (hx : ∀ y ∈ l, okD CTy y) (hN : big ≤ N) (hm : l.length < big) : Lv N (k + 6) 141 [S CTy l] = some [I (ixFrom (fun y => !cmdX y) l 0)] := by
  refine level_den rfl rfl ?_ rfl
  unfold ir141
  refine den_let rfl (den_loop (den_jump rfl rfl ?_))
  refine rounds_ind (α := Int) (enc := fun i => [I 0, I i]) (ans := fun i => some [I (ixFrom (fun y => !cmdX y) (l.drop i.toNat) i)]) (meas := fun i => l.length - i.toNat) (Q := fun i => 0 ≤ i ∧ i ≤ l.length) (fun J i hi hJ => ?_) N 0 (by omega) (by simp; omega)
  refine den_let rfl (den_ite rfl (fun h => ?_) (fun h => ?_))
  · have h : i < l.length := by simpa using h
    have hlt : i.toNat < l.length := by omega
    rw [ix_drop hi.1 hlt]
    refine den_idx rfl rfl rfl hi.1 (List.getElem?_eq_getElem hlt) (den_let rfl (den_call rfl (cmdI1 N k l[i.toNat] hN (hx _ (List.getElem_mem hlt))) rfl (den_ite rfl (fun h => ?_) (fun h => ?_))))
    · rw [if_pos h]; exact den_ret rfl rfl
    · rw [if_neg (by rw [h]; decide)]
      refine den_let rfl (den_jump rfl rfl ?_)
      rw [up hi.1 hi.2 hm]
      exact hJ (i + 1) (by omega) (by omega)
  · have h : ¬ i < l.length := by simpa using h
    rw [ix_end (by omega)]
    exact den_ret rfl rfl

theorem cmdI3 (N k : Nat) (l : List (D CTy)) (hN : big ≤ N) (hm : l.length < big) (hx : ∀ y ∈ l, okD CTy y) : Lv N (k + 7) 79 [S CTy l] = some [B (l.any (fun y => !cmdX y))] := by
  refine level_den rfl rfl ?_ rfl
  unfold ir79
  refine den_call rfl (cmdI2 N k l hx hN hm) rfl (den_let rfl (den_ret rfl (someB ?_)))
  show l.any (fun y => !cmdX y) = decide (ixFrom (fun y => !cmdX y) l 0 ≥ 0)
  rw [ge_not, ix_any (Int.le_refl _), Bool.not_not]
theorem drop_cmd {l : List (D CTy)} {i : Int} (h0 : 0 ≤ i) (h : i.toNat < l.length) : (l.drop i.toNat).all cmdX = (cmdX l[i.toNat] && (l.drop (i + 1).toNat).all cmdX) := by
  rw [show (i + 1).toNat = i.toNat + 1 by omega, List.drop_eq_getElem_cons h, List.all_cons]
theorem min_le (a b : Int) : decide (a ≤ if b < 400 then b else 400) = (decide (a ≤ 400) && decide (a ≤ b)) := by
  rw [Bool.eq_iff_iff]
  simp only [Bool.and_eq_true, decide_eq_true_eq]
  split <;> omega
def snapOk (x : D SnapT) : Bool := stateOk x.1 x.2.2.2.1 x.2.1 x.2.2.1 x.2.2.2.2.1 x.2.2.2.2.2.1 && (decide ((List.length x.2.2.2.2.2.2.1 : Int) ≤ 400) && (decide ((List.length x.2.2.2.2.2.2.1 : Int) ≤ 1000000 - x.1) && List.all x.2.2.2.2.2.2.1 cmdX))
theorem state_idx {i0 lost : Int} {rows : List (D RowT)} {tombs : List (D TombT)} {ss : List (D SessT)} {lasts : List (D LastT)} (h : stateOk i0 lost rows tombs ss lasts = true) : 0 ≤ i0 ∧ i0 ≤ 1000000 := by
  unfold stateOk at h
  simp only [Bool.and_eq_true, decide_eq_true_eq] at h
  exact ⟨h.1, h.2.1⟩
theorem snapS (N k : Nat) (x : D SnapT) (hN : big ≤ N) (hx : okD SnapT x) : Lv N (k + 7) 26 [⟨SnapT, x⟩] = some [B (snapOk x)] := by
  obtain ⟨i0, rows, tombs, lost, ss, lasts, rest, u⟩ := x
  obtain ⟨_, ⟨r1, r2⟩, ⟨t1, t2⟩, _, ⟨s1, _⟩, ⟨l1, _⟩, ⟨c1, c2⟩, _⟩ := hx
  have hm : rest.length < big := c1
  have hN' : 1048577 ≤ N := hN
  refine level_den rfl rfl ?_ rfl
  unfold ir26 snapOk
  refine den_let rfl (den_let rfl (den_call rfl (stateOkS N k i0 lost rows tombs ss lasts hN (fun y hy => ⟨(r2 y hy).1.1, trivial⟩) (fun y hy => ⟨(t2 y hy).1.1, trivial⟩) r1 t1 s1 l1) rfl (den_let rfl (den_chk rfl rfl (fun h => ?_)))))
  obtain ⟨g1, g2⟩ := state_idx h
  have hw : IntKind.i64.wrap (1000000 - i0) = 1000000 - i0 := wrap_id (by omega) (by omega)
  simp only [List.cons_append, List.nil_append]
  refine den_let rfl (den_let rfl (den_chk rfl (gt_not _ _) (fun h1 => den_let rfl (den_let rfl ?_))))
  rw [hw]
  simp only [List.cons_append, List.nil_append]
  refine den_let rfl (den_chk rfl (gt_not _ _) (fun h2 => den_loop (den_jump rfl rfl ?_)))
  simp only [List.cons_append, List.nil_append]
  refine rounds_ind (α := Int) (enc := fun i => [B false, I i]) (ans := fun i => some [B ((rest.drop i.toNat).all cmdX)]) (meas := fun i => rest.length - i.toNat) (Q := fun i => 0 ≤ i ∧ i ≤ rest.length) (fun J i hi hJ => ?_) N 0 (by omega) (by simp; omega)
  refine den_let rfl (den_let rfl (den_ite rfl (fun h => ?_) (fun h => ?_)))
  · have h : i < rest.length := by simpa using h
    have hlt : i.toNat < rest.length := by omega
    rw [drop_cmd hi.1 hlt]
    refine den_idx rfl rfl rfl hi.1 (List.getElem?_eq_getElem hlt) (den_let rfl (den_call rfl (cmdS N (k + 3) rest[i.toNat] hN (c2 _ (List.getElem_mem hlt))) rfl (den_let rfl (den_chk rfl rfl (fun h3 => ?_)))))
    refine den_let rfl (den_jump rfl rfl ?_)
    rw [up hi.1 hi.2 hm]
    exact hJ (i + 1) (by omega) (by omega)
  · have h : ¬ i < rest.length := by simpa using h
    rw [List.drop_of_length_le (by omega)]
    exact den_ret rfl rfl
theorem snapI (N k : Nat) (x : D SnapT) (hN : big ≤ N) (hx : okD SnapT x) : Lv N (k + 8) 28 [⟨SnapT, x⟩] = some [B (snapOk x)] := by
  obtain ⟨i0, rows, tombs, lost, ss, lasts, rest, u⟩ := x
  obtain ⟨_, ⟨r1, r2⟩, ⟨t1, t2⟩, _, ⟨s1, _⟩, ⟨l1, _⟩, ⟨c1, c2⟩, _⟩ := hx
  have hm : rest.length < big := c1
  refine level_den rfl rfl ?_ rfl
  unfold ir28 snapOk
  refine den_let rfl (den_let rfl (den_call rfl (stateOkI N (k + 1) i0 lost rows tombs ss lasts hN (fun y hy => ⟨(r2 y hy).1.1, trivial⟩) (fun y hy => ⟨(t2 y hy).1.1, trivial⟩) r1 t1 s1 l1) rfl (den_ite rfl (fun h => ?_) (fun h => den_ret rfl (someB (by rw [h]; rfl))))))
  obtain ⟨g1, g2⟩ := state_idx h
  have hw : IntKind.i64.wrap (1000000 - i0) = 1000000 - i0 := wrap_id (by omega) (by omega)
  rw [h, Bool.true_and]
  simp only [List.cons_append, List.nil_append]
  refine den_let rfl (den_let rfl ?_)
  rw [hw]
  simp only [List.cons_append, List.nil_append]
  refine den_let rfl (den_let rfl ?_)
  simp only [List.cons_append, List.nil_append]
  have hmin : decide ((rest.length : Int) ≤ if 1000000 - i0 < 400 then 1000000 - i0 else 400) = (decide ((rest.length : Int) ≤ 400) && decide ((rest.length : Int) ≤ 1000000 - i0)) := min_le _ _
  rw [← Bool.and_assoc, show (decide ((rest.length : Int) ≤ 400) && decide ((rest.length : Int) ≤ 1000000 - i0)) = _ from hmin.symm]
  refine den_ite rfl (fun h1 => ?_) (fun h1 => den_ret rfl (someB ?_))
  · refine den_call rfl (cmdI3 N k rest hN hm c2) rfl (den_let rfl (den_ret rfl (someB ?_)))
    have h1 : decide ((rest.length : Int) ≤ if 1000000 - i0 < 400 then 1000000 - i0 else 400) = true := h1
    rw [h1, Bool.true_and]
    show rest.all cmdX = (!rest.any fun y => !cmdX y)
    simp [List.any_eq_not_all_not]
  · have h1 : decide ((rest.length : Int) ≤ if 1000000 - i0 < 400 then 1000000 - i0 else 400) = false := h1
    rw [h1]; rfl
set_option maxHeartbeats 2000000 in
theorem law (k : Nat) (x : D SnapT) (hw : WfD SnapT x) : Lv big (k + 9) 5 [⟨SnapT, x⟩] = some [B true] := by
  refine level_den rfl rfl ?_ rfl
  unfold ir5
  obtain ⟨r, e1, b1, c1⟩ := szSnap (k + 3) x 1048576 (by omega) (by unfold big; omega) hw
  refine den_let rfl (den_let rfl (den_call rfl e1 rfl (den_let rfl (den_ite rfl (fun _ => den_ret rfl rfl) (fun h => ?_)))))
  have h : 0 ≤ r := by simpa using h
  rcases c1 with c1 | ⟨_, hx⟩
  · omega
  simp only [List.cons_append, List.nil_append]
  refine den_let rfl (den_call rfl (toSnap (k + 3) x hx) rfl (den_call rfl (snapS big (k + 1) x (Nat.le_refl _) hx) rfl ?_))
  simp only [List.cons_append, List.nil_append]
  refine den_let rfl (den_call rfl (toSnap (k + 3) x hx) rfl (den_let rfl (den_let rfl ?_)))
  simp only [List.cons_append, List.nil_append]
  refine den_call rfl (snapI big k x (Nat.le_refl _) hx) rfl (den_let rfl (den_ite rfl (fun h => ?_) (fun _ => ?_)))
  · simp at h
  simp only [List.cons_append, List.nil_append]
  refine den_let rfl (den_call rfl (toSnap (k + 3) x hx) rfl (den_let rfl (den_call rfl (eqSnap (k + 3) x hx) rfl (den_let rfl (den_ite rfl (fun h => ?_) (fun _ => den_ret rfl rfl))))))
  simp at h
end Go.Proofs.Ytecleaangfcloab.VtFnExactSnapOk
