/- What a Node's sizes, copies and comparisons answer. Lemmas alone, no statement. -/
import Derived.Test.YtecleaangfcloaaVtFnExactBacked
import Derived.Test.YtecleaangfcloaaVmPu
import Derived.Test.YtecleaangfcloaaVmOpen
namespace Go.Proofs.Ytecleaangfcloaa.Vp
set_option linter.unusedVariables false
set_option linter.unusedSimpArgs false
open Go Go.Vm Go.Proofs.Ytecleaangfcloaa.VtFnExactBacked
abbrev OTy : Ty := .pair (.int .i64) (.pair (.sl (.int .u8)) (.pair (.sl (.int .u8)) (.pair (.int .i64) .unit)))
abbrev CTy : Ty := .pair (.int .i64) (.pair (.int .i64) OTy)
abbrev ITy : Ty := .pair (.int .i64) CTy
abbrev NTy : Ty := .pair (.int .i64) (.pair (.int .i64) (.pair (.int .i64) (.pair (.sl ITy) (.pair (.int .i64) (.pair (.int .i64) (.pair (.int .i64) (.pair (.int .i64) (.pair (.sl .bool) (.pair (.sl (.int .i64)) (.pair (.sl (.int .i64)) .unit))))))))))
/-- How long a list may be. -/
def big : Nat := 1048577
/-- An item's rows are short. -/
def okI (x : D ITy) : Prop := List.length x.2.2.2.2.1 < big ∧ List.length x.2.2.2.2.2.1 < big
def okN (x : D NTy) : Prop := List.length x.2.2.2.1 < big ∧ (∀ y ∈ (show List (D ITy) from x.2.2.2.1), okI y) ∧ List.length x.2.2.2.2.2.2.2.2.1 < big ∧ List.length x.2.2.2.2.2.2.2.2.2.1 < big ∧ List.length x.2.2.2.2.2.2.2.2.2.2.1 < big
theorem up {i : Int} {n : Nat} (h0 : 0 ≤ i) (h : i ≤ n) (hn : n < big) : IntKind.i64.wrap (i + 1) = i + 1 := by
  unfold big at hn
  exact wrap_id (by omega) (by omega)
theorem eq29 (N k : Nat) (l : List Int) (hl : l.length < N) (hm : l.length < big) : level T N (k + 1) 29 [S (.int .i64) l, S (.int .i64) l] = some [B true] := by
  refine level_den rfl rfl ?_ rfl
  unfold ir29
  refine den_let rfl (den_let rfl (den_let rfl (den_ite rfl (fun h => ?_) (fun _ => ?_))))
  · simp at h
  · refine den_loop (den_jump rfl rfl ?_)
    refine rounds_ind (α := Int) (enc := fun i => [B false, I i]) (ans := fun _ => some [B true]) (meas := fun i => l.length - i.toNat) (Q := fun i => 0 ≤ i ∧ i ≤ l.length) (fun J i hi hJ => ?_) N 0 (by omega) (by simpa using hl)
    refine den_let rfl (den_let rfl (den_ite rfl (fun h => ?_) (fun h => ?_)))
    · have h : i < l.length := by simpa using h
      have hlt : i.toNat < l.length := by omega
      refine den_idx rfl rfl rfl hi.1 (List.getElem?_eq_getElem hlt) (den_let rfl (den_idx rfl rfl rfl hi.1 (List.getElem?_eq_getElem hlt) (den_let rfl (den_let rfl (den_ite rfl (fun h => ?_) (fun _ => ?_))))))
      · simp at h
      · refine den_let rfl (den_jump rfl rfl ?_)
        rw [up hi.1 hi.2 hm]
        exact hJ (i + 1) (by omega) (by omega)
    · exact den_ret rfl rfl
theorem eq96 (N k : Nat) (l : List Int) (hl : l.length < N) (hm : l.length < big) : level T N (k + 1) 96 [S (.int .u8) l, S (.int .u8) l] = some [B true] := by
  refine level_den rfl rfl ?_ rfl
  unfold ir96
  refine den_let rfl (den_let rfl (den_let rfl (den_ite rfl (fun h => ?_) (fun _ => ?_))))
  · simp at h
  · refine den_loop (den_jump rfl rfl ?_)
    refine rounds_ind (α := Int) (enc := fun i => [B false, I i]) (ans := fun _ => some [B true]) (meas := fun i => l.length - i.toNat) (Q := fun i => 0 ≤ i ∧ i ≤ l.length) (fun J i hi hJ => ?_) N 0 (by omega) (by simpa using hl)
    refine den_let rfl (den_let rfl (den_ite rfl (fun h => ?_) (fun h => ?_)))
    · have h : i < l.length := by simpa using h
      have hlt : i.toNat < l.length := by omega
      refine den_idx rfl rfl rfl hi.1 (List.getElem?_eq_getElem hlt) (den_let rfl (den_idx rfl rfl rfl hi.1 (List.getElem?_eq_getElem hlt) (den_let rfl (den_let rfl (den_ite rfl (fun h => ?_) (fun _ => ?_))))))
      · simp at h
      · refine den_let rfl (den_jump rfl rfl ?_)
        rw [up hi.1 hi.2 hm]
        exact hJ (i + 1) (by omega) (by omega)
    · exact den_ret rfl rfl
theorem eq82 (N k : Nat) (l : List Bool) (hl : l.length < N) (hm : l.length < big) : level T N (k + 1) 82 [S .bool l, S .bool l] = some [B true] := by
  refine level_den rfl rfl ?_ rfl
  unfold ir82
  refine den_let rfl (den_let rfl (den_let rfl (den_ite rfl (fun h => ?_) (fun _ => ?_))))
  · simp at h
  · refine den_loop (den_jump rfl rfl ?_)
    refine rounds_ind (α := Int) (enc := fun i => [B false, I i]) (ans := fun _ => some [B true]) (meas := fun i => l.length - i.toNat) (Q := fun i => 0 ≤ i ∧ i ≤ l.length) (fun J i hi hJ => ?_) N 0 (by omega) (by simpa using hl)
    refine den_let rfl (den_let rfl (den_ite rfl (fun h => ?_) (fun h => ?_)))
    · have h : i < l.length := by simpa using h
      have hlt : i.toNat < l.length := by omega
      refine den_idx rfl rfl rfl hi.1 (List.getElem?_eq_getElem hlt) (den_let rfl (den_idx rfl rfl rfl hi.1 (List.getElem?_eq_getElem hlt) (den_let rfl (den_let rfl (den_ite rfl (fun h => ?_) (fun _ => ?_))))))
      · simp at h
      · refine den_let rfl (den_jump rfl rfl ?_)
        rw [up hi.1 hi.2 hm]
        exact hJ (i + 1) (by omega) (by omega)
    · exact den_ret rfl rfl
theorem eq205 (N k : Nat) (x : D OTy) (hN : big ≤ N) (h1 : List.length x.2.1 < big) (h2 : List.length x.2.2.1 < big) : level T N (k + 2) 205 [⟨OTy, x⟩, ⟨OTy, x⟩] = some [B true] := by
  refine level_den rfl rfl ?_ rfl
  unfold ir205
  refine den_let rfl (den_let rfl (den_let rfl (den_ite rfl (fun h => ?_) (fun _ => ?_))))
  · simp at h
  refine den_call rfl (eq96 N k x.2.1 (by omega) h1) rfl (den_let rfl (den_ite rfl (fun h => ?_) (fun _ => ?_)))
  · simp at h
  refine den_call rfl (eq96 N k x.2.2.1 (by omega) h2) rfl (den_let rfl (den_ite rfl (fun h => ?_) (fun _ => ?_)))
  · simp at h
  refine den_let rfl (den_ite rfl (fun h => ?_) (fun _ => ?_))
  · simp at h
  exact den_ret rfl rfl
theorem eq187 (N k : Nat) (x : D CTy) (hN : big ≤ N) (h1 : List.length x.2.2.2.1 < big) (h2 : List.length x.2.2.2.2.1 < big) : level T N (k + 3) 187 [⟨CTy, x⟩, ⟨CTy, x⟩] = some [B true] := by
  refine level_den rfl rfl ?_ rfl
  unfold ir187
  refine den_let rfl (den_let rfl (den_let rfl (den_ite rfl (fun h => ?_) (fun _ => ?_))))
  · simp at h
  refine den_let rfl (den_ite rfl (fun h => ?_) (fun _ => ?_))
  · simp at h
  refine den_let rfl (den_let rfl (den_call rfl (eq205 N k x.2.2 hN h1 h2) rfl (den_let rfl (den_ite rfl (fun h => ?_) (fun _ => ?_)))))
  · simp at h
  exact den_ret rfl rfl
theorem eq142 (N k : Nat) (x : D ITy) (hN : big ≤ N) (hx : okI x) : level T N (k + 4) 142 [⟨ITy, x⟩, ⟨ITy, x⟩] = some [B true] := by
  refine level_den rfl rfl ?_ rfl
  unfold ir142
  refine den_let rfl (den_let rfl (den_let rfl (den_ite rfl (fun h => ?_) (fun _ => ?_))))
  · simp at h
  refine den_let rfl (den_let rfl (den_call rfl (eq187 N k x.2 hN hx.1 hx.2) rfl (den_let rfl (den_ite rfl (fun h => ?_) (fun _ => ?_)))))
  · simp at h
  exact den_ret rfl rfl
theorem eq81 (N k : Nat) (l : List (D ITy)) (hN : big ≤ N) (hm : l.length < big) (hx : ∀ y ∈ l, okI y) : level T N (k + 5) 81 [S ITy l, S ITy l] = some [B true] := by
  refine level_den rfl rfl ?_ rfl
  unfold ir81
  refine den_let rfl (den_let rfl (den_let rfl (den_ite rfl (fun h => ?_) (fun _ => ?_))))
  · simp at h
  · refine den_loop (den_jump rfl rfl ?_)
    refine rounds_ind (α := Int) (enc := fun i => [B false, I i]) (ans := fun _ => some [B true]) (meas := fun i => l.length - i.toNat) (Q := fun i => 0 ≤ i ∧ i ≤ l.length) (fun J i hi hJ => ?_) N 0 (by omega) (by simp; omega)
    refine den_let rfl (den_let rfl (den_ite rfl (fun h => ?_) (fun h => ?_)))
    · have h : i < l.length := by simpa using h
      have hlt : i.toNat < l.length := by omega
      refine den_idx rfl rfl rfl hi.1 (List.getElem?_eq_getElem hlt) (den_let rfl (den_idx rfl rfl rfl hi.1 (List.getElem?_eq_getElem hlt) (den_let rfl (den_call rfl (eq142 N k l[i.toNat] hN (hx _ (List.getElem_mem hlt))) rfl (den_let rfl (den_ite rfl (fun h => ?_) (fun _ => ?_)))))))
      · simp at h
      · refine den_let rfl (den_jump rfl rfl ?_)
        rw [up hi.1 hi.2 hm]
        exact hJ (i + 1) (by omega) (by omega)
    · exact den_ret rfl rfl
set_option maxHeartbeats 2000000 in
theorem eq26 (N k : Nat) (x : D NTy) (hN : big ≤ N) (hx : okN x) : level T N (k + 6) 26 [⟨NTy, x⟩, ⟨NTy, x⟩] = some [B true] := by
  obtain ⟨x1, x2, x3, x4, x5⟩ := hx
  refine level_den rfl rfl ?_ rfl
  unfold ir26
  refine den_let rfl (den_let rfl (den_let rfl (den_ite rfl (fun h => ?_) (fun _ => ?_))))
  · simp at h
  simp only [List.cons_append, List.nil_append]
  refine den_let rfl (den_ite rfl (fun h => ?_) (fun _ => ?_))
  · simp at h
  simp only [List.cons_append, List.nil_append]
  refine den_let rfl (den_ite rfl (fun h => ?_) (fun _ => ?_))
  · simp at h
  simp only [List.cons_append, List.nil_append]
  refine den_call rfl (eq81 N k x.2.2.2.1 hN x1 x2) rfl (den_let rfl (den_ite rfl (fun h => ?_) (fun _ => ?_)))
  · simp at h
  simp only [List.cons_append, List.nil_append]
  refine den_let rfl (den_ite rfl (fun h => ?_) (fun _ => ?_))
  · simp at h
  simp only [List.cons_append, List.nil_append]
  refine den_let rfl (den_ite rfl (fun h => ?_) (fun _ => ?_))
  · simp at h
  simp only [List.cons_append, List.nil_append]
  refine den_let rfl (den_ite rfl (fun h => ?_) (fun _ => ?_))
  · simp at h
  simp only [List.cons_append, List.nil_append]
  refine den_let rfl (den_ite rfl (fun h => ?_) (fun _ => ?_))
  · simp at h
  simp only [List.cons_append, List.nil_append]
  refine den_call rfl (eq82 N (k + 4) x.2.2.2.2.2.2.2.2.1 (by omega) x3) rfl (den_let rfl (den_ite rfl (fun h => ?_) (fun _ => ?_)))
  · simp at h
  simp only [List.cons_append, List.nil_append]
  refine den_call rfl (eq29 N (k + 4) x.2.2.2.2.2.2.2.2.2.1 (by omega) x4) rfl (den_let rfl (den_ite rfl (fun h => ?_) (fun _ => ?_)))
  · simp at h
  simp only [List.cons_append, List.nil_append]
  refine den_call rfl (eq29 N (k + 4) x.2.2.2.2.2.2.2.2.2.2.1 (by omega) x5) rfl (den_let rfl (den_ite rfl (fun h => ?_) (fun _ => ?_)))
  · simp at h
  exact den_ret rfl rfl
theorem sz75 (N k : Nat) (l : List Int) (a : Int) (h0 : 0 ≤ a) (h1 : a < big) (hl : l.length ≤ 9223372036854775807) :
    ∃ r, level T N (k + 1) 75 [S (.int .i64) l, I a] = some [I r] ∧ r ≤ a ∧ (r < 0 ∨ (0 ≤ r ∧ l.length < big)) := by
  unfold big at *
  have hw : IntKind.i64.wrap (a - l.length) = a - l.length := wrap_id (by omega) (by omega)
  by_cases h : a - (l.length : Int) < 0
  · refine ⟨-1, level_den rfl rfl ?_ rfl, by omega, .inl (by omega)⟩
    unfold ir75
    refine den_let rfl (den_let rfl (den_let rfl (den_ite rfl (fun _ => den_ret rfl rfl) (fun h' => ?_))))
    rw [hw] at h'
    exact absurd h (by simpa using h')
  · refine ⟨a - l.length, level_den rfl rfl ?_ rfl, by omega, .inr ⟨by omega, by omega⟩⟩
    unfold ir75
    refine den_let rfl (den_let rfl (den_let rfl (den_ite rfl (fun h' => ?_) (fun _ => den_ret rfl ?_))))
    · rw [hw] at h'
      exact absurd (by simpa using h') h
    · show some [I (a - l.length)] = some [I (IntKind.i64.wrap (a - l.length))]
      rw [hw]
theorem sz87 (N k : Nat) (l : List Int) (a : Int) (h0 : 0 ≤ a) (h1 : a < big) (hl : l.length ≤ 9223372036854775807) :
    ∃ r, level T N (k + 1) 87 [S (.int .u8) l, I a] = some [I r] ∧ r ≤ a ∧ (r < 0 ∨ (0 ≤ r ∧ l.length < big)) := by
  unfold big at *
  have hw : IntKind.i64.wrap (a - l.length) = a - l.length := wrap_id (by omega) (by omega)
  by_cases h : a - (l.length : Int) < 0
  · refine ⟨-1, level_den rfl rfl ?_ rfl, by omega, .inl (by omega)⟩
    unfold ir87
    refine den_let rfl (den_let rfl (den_let rfl (den_ite rfl (fun _ => den_ret rfl rfl) (fun h' => ?_))))
    rw [hw] at h'
    exact absurd h (by simpa using h')
  · refine ⟨a - l.length, level_den rfl rfl ?_ rfl, by omega, .inr ⟨by omega, by omega⟩⟩
    unfold ir87
    refine den_let rfl (den_let rfl (den_let rfl (den_ite rfl (fun h' => ?_) (fun _ => den_ret rfl ?_))))
    · rw [hw] at h'
      exact absurd (by simpa using h') h
    · show some [I (a - l.length)] = some [I (IntKind.i64.wrap (a - l.length))]
      rw [hw]
theorem sz74 (N k : Nat) (l : List Bool) (a : Int) (h0 : 0 ≤ a) (h1 : a < big) (hl : l.length ≤ 9223372036854775807) :
    ∃ r, level T N (k + 1) 74 [S .bool l, I a] = some [I r] ∧ r ≤ a ∧ (r < 0 ∨ (0 ≤ r ∧ l.length < big)) := by
  unfold big at *
  have hw : IntKind.i64.wrap (a - l.length) = a - l.length := wrap_id (by omega) (by omega)
  by_cases h : a - (l.length : Int) < 0
  · refine ⟨-1, level_den rfl rfl ?_ rfl, by omega, .inl (by omega)⟩
    unfold ir74
    refine den_let rfl (den_let rfl (den_let rfl (den_ite rfl (fun _ => den_ret rfl rfl) (fun h' => ?_))))
    rw [hw] at h'
    exact absurd h (by simpa using h')
  · refine ⟨a - l.length, level_den rfl rfl ?_ rfl, by omega, .inr ⟨by omega, by omega⟩⟩
    unfold ir74
    refine den_let rfl (den_let rfl (den_let rfl (den_ite rfl (fun h' => ?_) (fun _ => den_ret rfl ?_))))
    · rw [hw] at h'
      exact absurd (by simpa using h') h
    · show some [I (a - l.length)] = some [I (IntKind.i64.wrap (a - l.length))]
      rw [hw]
theorem sz203 (N k : Nat) (x : D OTy) (a : Int) (h0 : 0 ≤ a) (h1 : a < big) (hw : WfD OTy x) :
    ∃ r, level T N (k + 2) 203 [⟨OTy, x⟩, I a] = some [I r] ∧ r ≤ a ∧ (r < 0 ∨ (0 ≤ r ∧ List.length x.2.1 < big ∧ List.length x.2.2.1 < big)) := by
  obtain ⟨_, hk, hv, _⟩ := hw
  obtain ⟨r1, e1, b1, c1⟩ := sz87 N k x.2.1 a h0 h1 hk.1
  rcases c1 with c1 | ⟨c1, c2⟩
  · refine ⟨-1, level_den rfl rfl ?_ rfl, by omega, .inl (by omega)⟩
    unfold ir203
    refine den_let rfl (den_call rfl e1 rfl (den_let rfl (den_ite rfl (fun _ => den_ret rfl rfl) (fun h => ?_))))
    exact absurd c1 (by simpa using h)
  · obtain ⟨r2, e2, b2, d1⟩ := sz87 N k x.2.2.1 r1 c1 (by omega) hv.1
    rcases d1 with d1 | ⟨d1, d2⟩
    · refine ⟨-1, level_den rfl rfl ?_ rfl, by omega, .inl (by omega)⟩
      unfold ir203
      refine den_let rfl (den_call rfl e1 rfl (den_let rfl (den_ite rfl (fun _ => den_ret rfl rfl) (fun _ => ?_))))
      refine den_call rfl e2 rfl (den_let rfl (den_ite rfl (fun _ => den_ret rfl rfl) (fun h => ?_)))
      exact absurd d1 (by simpa using h)
    · refine ⟨r2, level_den rfl rfl ?_ rfl, by omega, .inr ⟨d1, c2, d2⟩⟩
      unfold ir203
      refine den_let rfl (den_call rfl e1 rfl (den_let rfl (den_ite rfl (fun h => ?_) (fun _ => ?_))))
      · exact absurd c1 (by simpa using h)
      refine den_call rfl e2 rfl (den_let rfl (den_ite rfl (fun h => ?_) (fun _ => den_ret rfl rfl)))
      exact absurd d1 (by simpa using h)
theorem sz185 (N k : Nat) (x : D CTy) (a : Int) (h0 : 0 ≤ a) (h1 : a < big) (hw : WfD CTy x) :
    ∃ r, level T N (k + 3) 185 [⟨CTy, x⟩, I a] = some [I r] ∧ r ≤ a ∧ (r < 0 ∨ (0 ≤ r ∧ List.length x.2.2.2.1 < big ∧ List.length x.2.2.2.2.1 < big)) := by
  obtain ⟨r1, e1, b1, c1⟩ := sz203 N k x.2.2 a h0 h1 hw.2.2
  rcases c1 with c1 | ⟨c1, c2⟩
  · refine ⟨-1, level_den rfl rfl ?_ rfl, by omega, .inl (by omega)⟩
    unfold ir185
    refine den_let rfl (den_let rfl (den_call rfl e1 rfl (den_let rfl (den_ite rfl (fun _ => den_ret rfl rfl) (fun h => ?_)))))
    exact absurd c1 (by simpa using h)
  · refine ⟨r1, level_den rfl rfl ?_ rfl, b1, .inr ⟨c1, c2⟩⟩
    unfold ir185
    refine den_let rfl (den_let rfl (den_call rfl e1 rfl (den_let rfl (den_ite rfl (fun h => ?_) (fun _ => den_ret rfl rfl)))))
    exact absurd c1 (by simpa using h)
theorem sz140 (N k : Nat) (x : D ITy) (a : Int) (h0 : 0 ≤ a) (h1 : a < big) (hw : WfD ITy x) :
    ∃ r, level T N (k + 4) 140 [⟨ITy, x⟩, I a] = some [I r] ∧ r ≤ a ∧ (r < 0 ∨ (0 ≤ r ∧ okI x)) := by
  obtain ⟨r1, e1, b1, c1⟩ := sz185 N k x.2 a h0 h1 hw.2
  rcases c1 with c1 | ⟨c1, c2⟩
  · refine ⟨-1, level_den rfl rfl ?_ rfl, by omega, .inl (by omega)⟩
    unfold ir140
    refine den_let rfl (den_let rfl (den_call rfl e1 rfl (den_let rfl (den_ite rfl (fun _ => den_ret rfl rfl) (fun h => ?_)))))
    exact absurd c1 (by simpa using h)
  · refine ⟨r1, level_den rfl rfl ?_ rfl, b1, .inr ⟨c1, c2⟩⟩
    unfold ir140
    refine den_let rfl (den_let rfl (den_call rfl e1 rfl (den_let rfl (den_ite rfl (fun h => ?_) (fun _ => den_ret rfl rfl)))))
    exact absurd c1 (by simpa using h)
def postS (l : List (D ITy)) (p : Int × Int) (rs : List Dy) : Prop := ∃ r, rs = [I r] ∧ r ≤ p.1 ∧ (r < 0 ∨ (0 ≤ r ∧ ∀ y ∈ l.drop p.2.toNat, okI y))
theorem sz73 (N k : Nat) (l : List (D ITy)) (a : Int) (hN : big ≤ N) (h0 : 0 ≤ a) (h1 : a < big) (hl : l.length ≤ 9223372036854775807) (hw : ∀ y ∈ l, WfD ITy y) :
    ∃ r, level T N (k + 5) 73 [S ITy l, I a] = some [I r] ∧ r ≤ a ∧ (r < 0 ∨ (0 ≤ r ∧ l.length < big ∧ ∀ y ∈ l, okI y)) := by
  have hwr : IntKind.i64.wrap (a - l.length) = a - l.length := by unfold big at h1; exact wrap_id (by omega) (by omega)
  have key : Ans (level T N (k + 5) 73 [S ITy l, I a]) (fun rs => ∃ r, rs = [I r] ∧ r ≤ a ∧ (r < 0 ∨ (0 ≤ r ∧ l.length < big ∧ ∀ y ∈ l, okI y))) := by
    refine ans_level rfl rfl ?_ (by rintro rs ⟨r, rfl, _⟩; rfl)
    unfold ir73
    refine ans_let rfl (ans_let rfl (ans_let rfl (ans_ite rfl (fun _ => ans_ret rfl ⟨-1, rfl, by omega, .inl (by omega)⟩) (fun h => ?_))))
    have hge : 0 ≤ a - (l.length : Int) := by
      rw [← hwr]
      simpa using h
    have hlb : l.length < big := by omega
    refine ans_loop (ans_jump rfl rfl ?_)
    refine Ans.imp (rounds_ans (α := Int × Int) (enc := fun p => [I p.1, I 0, I p.2]) (Post := postS l) (meas := fun p => l.length - p.2.toNat) (R := fun p => 0 ≤ p.1 ∧ p.1 ≤ a ∧ 0 ≤ p.2 ∧ p.2 ≤ l.length) ?_ N (IntKind.i64.wrap (a - l.length), 0) ?_ ?_) ?_
    · rintro J ⟨b, i⟩ ⟨hb0, hba, hi0, hi1⟩ hJ
      dsimp only at hb0 hba hi0 hi1
      refine ans_let rfl (ans_let rfl (ans_ite rfl (fun h => ?_) (fun h => ?_)))
      · have h : i < l.length := by simpa using h
        have hlt : i.toNat < l.length := by omega
        obtain ⟨r, e, c1, c2⟩ := sz140 N k l[i.toNat] b hb0 (by omega) (hw _ (List.getElem_mem hlt))
        refine ans_idx rfl rfl rfl hi0 (List.getElem?_eq_getElem hlt) (ans_let rfl (ans_call rfl e rfl (ans_let rfl (ans_ite rfl (fun _ => ans_ret rfl ⟨-1, rfl, by show (-1 : Int) ≤ b; omega, .inl (by omega)⟩) (fun h => ?_)))))
        have hr : 0 ≤ r := by simpa using h
        refine ans_let rfl (ans_jump rfl rfl ?_)
        rw [up hi0 hi1 hlb]
        refine Ans.imp (hJ (r, i + 1) ⟨hr, by show r ≤ a; omega, by show 0 ≤ i + 1; omega, by show i + 1 ≤ l.length; omega⟩ (by show l.length - (i + 1).toNat < l.length - i.toNat; omega)) ?_
        rintro rs ⟨r', rfl, d1, d2⟩
        refine ⟨r', rfl, by have : r' ≤ r := d1; show r' ≤ b; omega, d2.imp id (fun d2 => ⟨d2.1, fun y hy => ?_⟩)⟩
        rcases c2 with c2 | ⟨_, c2⟩
        · omega
        · have hd : l.drop i.toNat = l[i.toNat] :: l.drop (i + 1).toNat := by
            rw [show (i + 1).toNat = i.toNat + 1 by omega]
            exact List.drop_eq_getElem_cons hlt
          have hy : y ∈ l.drop i.toNat := hy
          rw [hd] at hy
          rcases List.mem_cons.1 hy with rfl | hy
          · exact c2
          · exact d2.2 y hy
      · have h : ¬ i < l.length := by simpa using h
        refine ans_ret rfl ⟨b, rfl, Int.le_refl _, .inr ⟨hb0, fun y hy => ?_⟩⟩
        have hy : y ∈ l.drop i.toNat := hy
        rw [List.drop_of_length_le (by omega)] at hy
        simp at hy
    · rw [hwr]
      exact ⟨hge, by show a - l.length ≤ a; omega, Int.le_refl _, by show (0 : Int) ≤ l.length; omega⟩
    · show l.length - 0 < N
      omega
    · rintro rs ⟨r, rfl, d1, d2⟩
      refine ⟨r, rfl, by have d1 : r ≤ IntKind.i64.wrap (a - l.length) := d1; rw [hwr] at d1; omega, d2.imp id (fun d2 => ⟨d2.1, hlb, fun y hy => d2.2 y (by simpa using hy)⟩)⟩
  obtain ⟨rs, e, r, rfl, c1, c2⟩ := key
  exact ⟨r, e, c1, c2⟩
set_option maxHeartbeats 2000000 in
theorem sz22 (N k : Nat) (x : D NTy) (a : Int) (hN : big ≤ N) (h0 : 0 ≤ a) (h1 : a < big) (hw : WfD NTy x) :
    ∃ r, level T N (k + 6) 22 [⟨NTy, x⟩, I a] = some [I r] ∧ (r < 0 ∨ (0 ≤ r ∧ okN x)) := by
  obtain ⟨_, _, _, w1, _, _, _, _, w2, w3, w4, _⟩ := hw
  obtain ⟨r1, e1, b1, c1⟩ := sz73 N k x.2.2.2.1 a hN h0 h1 w1.1 w1.2
  have key : Ans (level T N (k + 6) 22 [⟨NTy, x⟩, I a]) (fun rs => ∃ r, rs = [I r] ∧ (r < 0 ∨ (0 ≤ r ∧ okN x))) := by
    refine ans_level rfl rfl ?_ (by rintro rs ⟨r, rfl, _⟩; rfl)
    unfold ir22
    refine ans_let rfl (ans_call rfl e1 rfl (ans_let rfl (ans_ite rfl (fun _ => ans_ret rfl ⟨-1, rfl, .inl (by omega)⟩) (fun h => ?_))))
    have h : 0 ≤ r1 := by simpa using h
    rcases c1 with c1 | ⟨_, c1, c2⟩
    · omega
    obtain ⟨r2, e2, b2, d1⟩ := sz74 N (k + 4) x.2.2.2.2.2.2.2.2.1 r1 h (by omega) w2.1
    refine ans_call rfl e2 rfl (ans_let rfl (ans_ite rfl (fun _ => ans_ret rfl ⟨-1, rfl, .inl (by omega)⟩) (fun h => ?_)))
    have h : 0 ≤ r2 := by simpa using h
    rcases d1 with d1 | ⟨_, d1⟩
    · omega
    obtain ⟨r3, e3, b3, f1⟩ := sz75 N (k + 4) x.2.2.2.2.2.2.2.2.2.1 r2 h (by omega) w3.1
    refine ans_call rfl e3 rfl (ans_let rfl (ans_ite rfl (fun _ => ans_ret rfl ⟨-1, rfl, .inl (by omega)⟩) (fun h => ?_)))
    have h : 0 ≤ r3 := by simpa using h
    rcases f1 with f1 | ⟨_, f1⟩
    · omega
    obtain ⟨r4, e4, b4, g1⟩ := sz75 N (k + 4) x.2.2.2.2.2.2.2.2.2.2.1 r3 h (by omega) w4.1
    refine ans_call rfl e4 rfl (ans_let rfl (ans_ite rfl (fun _ => ans_ret rfl ⟨-1, rfl, .inl (by omega)⟩) (fun h => ?_)))
    have h : 0 ≤ r4 := by simpa using h
    rcases g1 with g1 | ⟨_, g1⟩
    · omega
    exact ans_ret rfl ⟨r4, rfl, .inr ⟨h, c1, c2, d1, f1, g1⟩⟩
  obtain ⟨rs, e, r, rfl, c⟩ := key
  exact ⟨r, e, c⟩
/-- The first i of l, then z's. -/
def mix {α : Type} (z : α) (l : List α) (i : Nat) : List α := l.take i ++ List.replicate (l.length - i) z
theorem mix_length {α : Type} (z : α) (l : List α) {i : Nat} (h : i ≤ l.length) : (mix z l i).length = l.length := by
  simp [mix]; omega
theorem mix_set {α : Type} (z : α) (l : List α) {i : Nat} (h : i < l.length) : (mix z l i).set i l[i] = mix z l (i + 1) := by
  apply List.ext_getElem?
  intro j
  unfold mix
  have ht : (l.take i).length = i := by simp; omega
  have ht1 : (l.take (i + 1)).length = i + 1 := by simp; omega
  rw [List.getElem?_set]
  by_cases hj : i = j
  · subst hj
    rw [if_pos rfl]
    rw [if_pos (by simp; omega)]
    rw [List.getElem?_append_left (by omega), List.getElem?_take, if_pos (by omega), List.getElem?_eq_getElem h]
  · rw [if_neg hj]
    rcases Nat.lt_or_ge j i with hji | hji
    · rw [List.getElem?_append_left (by omega), List.getElem?_append_left (by omega), List.getElem?_take, List.getElem?_take, if_pos hji, if_pos (by omega)]
    · rw [List.getElem?_append_right (by omega), List.getElem?_append_right (by omega), ht, ht1, List.getElem?_replicate, List.getElem?_replicate]
      by_cases hk : j < l.length
      · rw [if_pos (by omega), if_pos (by omega)]
      · rw [if_neg (by omega), if_neg (by omega)]
theorem mix_zero {α : Type} (z : α) (l : List α) : mix z l 0 = List.replicate l.length z := by simp [mix]
theorem mix_all {α : Type} (z : α) (l : List α) {i : Nat} (h : l.length ≤ i) : mix z l i = l := by
  unfold mix
  rw [List.take_of_length_le h, show l.length - i = 0 by omega]
  simp
theorem to78 (N k : Nat) (l : List Int) (hl : l.length < N) (hm : l.length < big) : level T N (k + 1) 78 [S (.int .i64) l] = some [S (.int .i64) l] := by
  refine level_den rfl rfl ?_ rfl
  unfold ir78
  refine den_let rfl (den_rep (n := (l.length : Int)) rfl rfl (by omega) (by unfold big at hm; show (l.length : Int) < 4294967296; omega) ?_)
  refine den_loop (den_jump rfl rfl ?_)
  rw [show (List.replicate (l.length : Int).toNat (0 : Int)) = mix (0 : Int) l 0 by rw [mix_zero, Int.toNat_natCast]]
  refine rounds_ind (α := Int) (enc := fun i => [I i, S (.int .i64) [], S (.int .i64) (mix (0 : Int) l i.toNat)]) (ans := fun _ => some [S (.int .i64) l]) (meas := fun i => l.length - i.toNat) (Q := fun i => 0 ≤ i ∧ i ≤ l.length) (fun J i hi hJ => ?_) N 0 (by omega) (by simpa using hl)
  refine den_let rfl (den_let rfl (den_ite rfl (fun h => ?_) (fun h => ?_)))
  · have h : i < l.length := by simpa using h
    have hlt : i.toNat < l.length := by omega
    have hml : i.toNat < (mix (0 : Int) l i.toNat).length := by rw [mix_length _ _ (by omega)]; exact hlt
    refine den_idx rfl rfl rfl hi.1 (List.getElem?_eq_getElem hlt) (den_let rfl (den_idx rfl rfl rfl hi.1 (List.getElem?_eq_getElem hml) (den_setE rfl rfl rfl rfl hi.1 hml (den_let rfl (den_jump rfl rfl ?_)))))
    rw [up hi.1 hi.2 hm, mix_set _ _ hlt, show i.toNat + 1 = (i + 1).toNat by omega]
    exact hJ (i + 1) (by omega) (by omega)
  · have h : ¬ i < l.length := by simpa using h
    refine den_ret rfl ?_
    show some [S (.int .i64) l] = some [S (.int .i64) (mix (0 : Int) l i.toNat)]
    rw [mix_all _ _ (by omega)]
theorem to91 (N k : Nat) (l : List Int) (hl : l.length < N) (hm : l.length < big) : level T N (k + 1) 91 [S (.int .u8) l] = some [S (.int .u8) l] := by
  refine level_den rfl rfl ?_ rfl
  unfold ir91
  refine den_let rfl (den_rep (n := (l.length : Int)) rfl rfl (by omega) (by unfold big at hm; show (l.length : Int) < 4294967296; omega) ?_)
  refine den_loop (den_jump rfl rfl ?_)
  rw [show (List.replicate (l.length : Int).toNat (0 : Int)) = mix (0 : Int) l 0 by rw [mix_zero, Int.toNat_natCast]]
  refine rounds_ind (α := Int) (enc := fun i => [I i, S (.int .u8) [], S (.int .u8) (mix (0 : Int) l i.toNat)]) (ans := fun _ => some [S (.int .u8) l]) (meas := fun i => l.length - i.toNat) (Q := fun i => 0 ≤ i ∧ i ≤ l.length) (fun J i hi hJ => ?_) N 0 (by omega) (by simpa using hl)
  refine den_let rfl (den_let rfl (den_ite rfl (fun h => ?_) (fun h => ?_)))
  · have h : i < l.length := by simpa using h
    have hlt : i.toNat < l.length := by omega
    have hml : i.toNat < (mix (0 : Int) l i.toNat).length := by rw [mix_length _ _ (by omega)]; exact hlt
    refine den_idx rfl rfl rfl hi.1 (List.getElem?_eq_getElem hlt) (den_let rfl (den_idx rfl rfl rfl hi.1 (List.getElem?_eq_getElem hml) (den_setE rfl rfl rfl rfl hi.1 hml (den_let rfl (den_jump rfl rfl ?_)))))
    rw [up hi.1 hi.2 hm, mix_set _ _ hlt, show i.toNat + 1 = (i + 1).toNat by omega]
    exact hJ (i + 1) (by omega) (by omega)
  · have h : ¬ i < l.length := by simpa using h
    refine den_ret rfl ?_
    show some [S (.int .u8) l] = some [S (.int .u8) (mix (0 : Int) l i.toNat)]
    rw [mix_all _ _ (by omega)]
theorem to77 (N k : Nat) (l : List Bool) (hl : l.length < N) (hm : l.length < big) : level T N (k + 1) 77 [S .bool l] = some [S .bool l] := by
  refine level_den rfl rfl ?_ rfl
  unfold ir77
  refine den_let rfl (den_rep (n := (l.length : Int)) rfl rfl (by omega) (by unfold big at hm; show (l.length : Int) < 4294967296; omega) ?_)
  refine den_loop (den_jump rfl rfl ?_)
  rw [show (List.replicate (l.length : Int).toNat false) = mix false l 0 by rw [mix_zero, Int.toNat_natCast]]
  refine rounds_ind (α := Int) (enc := fun i => [I i, S .bool [], S .bool (mix false l i.toNat)]) (ans := fun _ => some [S .bool l]) (meas := fun i => l.length - i.toNat) (Q := fun i => 0 ≤ i ∧ i ≤ l.length) (fun J i hi hJ => ?_) N 0 (by omega) (by simpa using hl)
  refine den_let rfl (den_let rfl (den_ite rfl (fun h => ?_) (fun h => ?_)))
  · have h : i < l.length := by simpa using h
    have hlt : i.toNat < l.length := by omega
    have hml : i.toNat < (mix false l i.toNat).length := by rw [mix_length _ _ (by omega)]; exact hlt
    refine den_idx rfl rfl rfl hi.1 (List.getElem?_eq_getElem hlt) (den_let rfl (den_idx rfl rfl rfl hi.1 (List.getElem?_eq_getElem hml) (den_setE rfl rfl rfl rfl hi.1 hml (den_let rfl (den_jump rfl rfl ?_)))))
    rw [up hi.1 hi.2 hm, mix_set _ _ hlt, show i.toNat + 1 = (i + 1).toNat by omega]
    exact hJ (i + 1) (by omega) (by omega)
  · have h : ¬ i < l.length := by simpa using h
    refine den_ret rfl ?_
    show some [S .bool l] = some [S .bool (mix false l i.toNat)]
    rw [mix_all _ _ (by omega)]
theorem to204 (N k : Nat) (x : D OTy) (hN : big ≤ N) (h1 : List.length x.2.1 < big) (h2 : List.length x.2.2.1 < big) : level T N (k + 2) 204 [⟨OTy, x⟩] = some [⟨OTy, x⟩] := by
  refine level_den rfl rfl ?_ rfl
  unfold ir204
  refine den_let rfl (den_let rfl (den_call rfl (to91 N k x.2.1 (by omega) h1) rfl (den_let rfl (den_call rfl (to91 N k x.2.2.1 (by omega) h2) rfl ?_))))
  exact den_let rfl (den_let rfl (den_let rfl (den_let rfl (den_let rfl (den_ret rfl rfl)))))
theorem to186 (N k : Nat) (x : D CTy) (hN : big ≤ N) (h1 : List.length x.2.2.2.1 < big) (h2 : List.length x.2.2.2.2.1 < big) : level T N (k + 3) 186 [⟨CTy, x⟩] = some [⟨CTy, x⟩] := by
  refine level_den rfl rfl ?_ rfl
  unfold ir186
  refine den_let rfl (den_let rfl (den_let rfl (den_let rfl (den_call rfl (to204 N k x.2.2 hN h1 h2) rfl ?_))))
  exact den_let rfl (den_let rfl (den_let rfl (den_let rfl (den_ret rfl rfl))))
theorem to141 (N k : Nat) (x : D ITy) (hN : big ≤ N) (hx : okI x) : level T N (k + 4) 141 [⟨ITy, x⟩] = some [⟨ITy, x⟩] := by
  refine level_den rfl rfl ?_ rfl
  unfold ir141
  refine den_let rfl (den_let rfl (den_let rfl (den_call rfl (to186 N k x.2 hN hx.1 hx.2) rfl ?_)))
  exact den_let rfl (den_let rfl (den_let rfl (den_let rfl (den_ret rfl rfl))))
def zI : D ITy := ((0 : Int), (0 : Int), (0 : Int), (0 : Int), ([] : List Int), ([] : List Int), (0 : Int), ())
theorem to76 (N k : Nat) (l : List (D ITy)) (hN : big ≤ N) (hm : l.length < big) (hx : ∀ y ∈ l, okI y) : level T N (k + 5) 76 [S ITy l] = some [S ITy l] := by
  refine level_den rfl rfl ?_ rfl
  unfold ir76
  refine den_let rfl (den_let rfl (den_rep (e := ITy) (y := zI) (n := (l.length : Int)) rfl rfl (by omega) (by unfold big at hm; show (l.length : Int) < 4294967296; omega) ?_))
  refine den_loop (den_jump rfl rfl ?_)
  rw [show (List.replicate (l.length : Int).toNat zI) = mix zI l 0 by rw [mix_zero, Int.toNat_natCast]]
  refine rounds_ind (α := Int) (enc := fun i => [I i, S ITy [], S ITy (mix zI l i.toNat)]) (ans := fun _ => some [S ITy l]) (meas := fun i => l.length - i.toNat) (Q := fun i => 0 ≤ i ∧ i ≤ l.length) (fun J i hi hJ => ?_) N 0 (by omega) (by simp; omega)
  refine den_let rfl (den_let rfl (den_ite rfl (fun h => ?_) (fun h => ?_)))
  · have h : i < l.length := by simpa using h
    have hlt : i.toNat < l.length := by omega
    have hml : i.toNat < (mix zI l i.toNat).length := by rw [mix_length _ _ (by omega)]; exact hlt
    refine den_idx rfl rfl rfl hi.1 (List.getElem?_eq_getElem hlt) (den_let rfl (den_call rfl (to141 N k l[i.toNat] hN (hx _ (List.getElem_mem hlt))) rfl (den_idx rfl rfl rfl hi.1 (List.getElem?_eq_getElem hml) (den_setE rfl rfl rfl rfl hi.1 hml (den_let rfl (den_jump rfl rfl ?_))))))
    rw [up hi.1 hi.2 hm, mix_set _ _ hlt, show i.toNat + 1 = (i + 1).toNat by omega]
    exact hJ (i + 1) (by omega) (by omega)
  · have h : ¬ i < l.length := by simpa using h
    refine den_ret rfl ?_
    show some [S ITy l] = some [S ITy (mix zI l i.toNat)]
    rw [mix_all _ _ (by omega)]
set_option maxHeartbeats 2000000 in
theorem to24 (N k : Nat) (x : D NTy) (hN : big ≤ N) (hx : okN x) : level T N (k + 6) 24 [⟨NTy, x⟩] = some [⟨NTy, x⟩] := by
  obtain ⟨x1, x2, x3, x4, x5⟩ := hx
  refine level_den rfl rfl ?_ rfl
  unfold ir24
  refine den_let rfl (den_let rfl (den_let rfl (den_let rfl (den_call rfl (to76 N k x.2.2.2.1 hN x1 x2) rfl ?_))))
  simp only [List.cons_append, List.nil_append]
  refine den_let rfl (den_let rfl (den_let rfl (den_let rfl (den_let rfl (den_call rfl (to77 N (k + 4) x.2.2.2.2.2.2.2.2.1 (by omega) x3) rfl ?_)))))
  simp only [List.cons_append, List.nil_append]
  refine den_let rfl (den_call rfl (to78 N (k + 4) x.2.2.2.2.2.2.2.2.2.1 (by omega) x4) rfl (den_let rfl (den_call rfl (to78 N (k + 4) x.2.2.2.2.2.2.2.2.2.2.1 (by omega) x5) rfl ?_)))
  simp only [List.cons_append, List.nil_append]
  exact den_let rfl (den_let rfl (den_let rfl (den_let rfl (den_ret rfl rfl))))

end Go.Proofs.Ytecleaangfcloaa.Vp
