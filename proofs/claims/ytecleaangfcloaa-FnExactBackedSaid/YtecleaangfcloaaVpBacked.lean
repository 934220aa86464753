/- Backed, by the program and by the reference, is one. Lemmas alone, no statement. -/
import Derived.Test.YtecleaangfcloaaVpSpec
namespace Go.Proofs.Ytecleaangfcloaa.Vp
set_option linter.unusedVariables false
set_option linter.unusedSimpArgs false
open Go Go.Vm Go.Proofs.Ytecleaangfcloaa.VtFnExactBacked
theorem node13 (N q : Nat) (i0 i1 i2 : Int) (l : List (D ITy)) (i4 i5 i6 i7 : Int) (v : List Bool) (n m : List Int) (s : Int) (hN : big ≤ N) (hl : l.length < big) (hx : ∀ y ∈ l, okI y) (hv : v.length < big) :
    level T N (q + 6) 13 [⟨NTy, (i0, i1, i2, l, i4, i5, i6, i7, v, n, m, ())⟩, I s] = some [B (nodeOk i0 i1 i2 l i4 i5 i6 i7 v n m s)] := by
  rw [node13' N q i0 i1 i2 l i4 i5 i6 i7 v n m s hN hl hx hv]
  refine someB ?_
  unfold nodeOk
  cases h2 : rng2 i4 i5 i7 s l.length v.length n.length m.length with
  | false => simp
  | true =>
    have hs : (v.length : Int) = s := by
      unfold rng2 at h2
      rw [decide_eq_true_eq] at h2
      omega
    have hu : upAll (perS i5 l.length n m v) 0 s.toNat = (upAll (perAt i5 l.length n m) 0 s.toNat && !(decide (i5 = 0) && anyB v)) := by
      have h1 := upAll_and (perAt i5 l.length n m) (vAt i5 v) s.toNat 0
      have h3 := upAll_v i5 v s.toNat 0 (by omega)
      rw [List.drop_zero] at h3
      rw [← h3, ← h1]; rfl
    rw [hu]
    unfold roleA leadA roleB
    generalize upAll (perAt i5 l.length n m) 0 s.toNat = U
    generalize logOk i1 1 l = L
    generalize rng1 i0 i1 i2 i6 s l.length = R
    generalize anyB v = A
    generalize decide (i5 = 0) = a
    generalize decide (i1 < 1) = b
    generalize decide (i2 = i0) = c
    generalize decide (i5 = 2) = d
    generalize decide (i6 = i0) = e
    cases U <;> cases L <;> cases R <;> cases A <;> cases a <;> cases b <;> cases c <;> cases d <;> cases e <;> rfl
theorem leader79 (N q : Nat) (i0 i1 i2 : Int) (l : List (D ITy)) (i4 i5 i6 i7 : Int) (v : List Bool) (n m : List Int) (s : Int) (hN : big ≤ N) (hl : l.length < big) (hx : ∀ y ∈ l, okI y) (hv : v.length < big) :
    level T N (q + 7) 79 [⟨NTy, (i0, i1, i2, l, i4, i5, i6, i7, v, n, m, ())⟩, I s] = some [B (nodeOk i0 i1 i2 l i4 i5 i6 i7 v n m s && decide (i5 = 2))] := by
  refine level_den rfl rfl ?_ rfl
  unfold ir79
  refine den_let rfl (den_let rfl (den_call rfl (node15 N q i0 i1 i2 l i4 i5 i6 i7 v n m s hN hl hx hv) rfl (den_ite rfl (fun h => den_let rfl (den_ret rfl (someB ?_))) (fun h => den_ret rfl (someB ?_)))))
  · rw [h, Bool.true_and]
    exact (beq_dec _ _).symm
  · rw [h]; rfl
/-- The other servers, from place i on. -/
def othL (i0 : Int) : Int → Nat → List Int
  | _, 0 => []
  | i, d + 1 => if i = i0 then othL i0 (i + 1) d else i :: othL i0 (i + 1) d
theorem othL_length (i0 : Int) : ∀ (d : Nat) (i : Int), (othL i0 i d).length ≤ d
  | 0, _ => by simp [othL]
  | d + 1, i => by
    have h := othL_length i0 d (i + 1)
    unfold othL
    split
    · omega
    · simp; omega
theorem othL_mem (i0 : Int) : ∀ (d : Nat) (i : Int) (x : Int), x ∈ othL i0 i d → i ≤ x ∧ x < i + d
  | 0, _, _, h => by simp [othL] at h
  | d + 1, i, x, h => by
    unfold othL at h
    split at h
    · have := othL_mem i0 d (i + 1) x h
      omega
    · rcases List.mem_cons.1 h with rfl | h
      · omega
      · have := othL_mem i0 d (i + 1) x h
        omega
set_option maxHeartbeats 4000000 in
theorem others80 (N q : Nat) (x : D NTy) (hN : big ≤ N) (hv : List.length x.2.2.2.2.2.2.2.2.1 < big) : level T N (q + 1) 80 [⟨NTy, x⟩] = some [S (.int .i64) (othL x.1 0 (List.length x.2.2.2.2.2.2.2.2.1))] := by
  obtain ⟨V, hV⟩ : ∃ V, V = List.length x.2.2.2.2.2.2.2.2.1 := ⟨_, rfl⟩
  rw [← hV] at hv ⊢
  refine level_den rfl rfl ?_ rfl
  unfold ir80
  refine den_let rfl (den_let rfl ?_)
  simp only [List.cons_append, List.nil_append]
  refine den_loop (den_jump rfl rfl ?_)
  rw [show (othL x.1 0 V) = [] ++ othL x.1 0 ((V : Int) - 0).toNat by rw [List.nil_append, Int.sub_zero, Int.toNat_natCast]]
  refine rounds_ind (α := List Int × Int) (enc := fun p => [S (.int .i64) p.1, I p.2, S (.int .i64) []]) (ans := fun p => some [S (.int .i64) (p.1 ++ othL x.1 p.2 ((V : Int) - p.2).toNat)]) (meas := fun p => ((V : Int) - p.2).toNat) (Q := fun p => 0 ≤ p.2 ∧ p.2 ≤ V ∧ (p.1.length : Int) ≤ p.2) ?_ N ([], 0) ⟨by show (0 : Int) ≤ 0; omega, by show (0 : Int) ≤ V; omega, by show ((0 : Nat) : Int) ≤ 0; omega⟩ (by show ((V : Int) - 0).toNat < N; omega)
  rintro J ⟨o, i⟩ ⟨h0, h1, h2⟩ hJ
  dsimp only at h0 h1 h2
  simp only [List.cons_append, List.nil_append]
  refine den_let rfl (den_ite rfl (fun h => ?_) (fun h => den_ret rfl ?_))
  · have h : i < (V : Int) := by rw [hV]; exact of_decide_eq_true h
    have hs : othL x.1 i ((V : Int) - i).toNat = if i = x.1 then othL x.1 (i + 1) ((V : Int) - (i + 1)).toNat else i :: othL x.1 (i + 1) ((V : Int) - (i + 1)).toNat := by
      rw [show ((V : Int) - i).toNat = ((V : Int) - (i + 1)).toNat + 1 by omega]
      rfl
    have hw : IntKind.i64.wrap (i + 1) = i + 1 := by unfold big at hv; exact wrap_id (by omega) (by omega)
    simp only [List.cons_append, List.nil_append]
    refine den_let rfl (den_ite rfl (fun h3 => ?_) (fun h3 => ?_))
    · have h3 : ¬ i = x.1 := bne_iff_ne.1 h3
      refine den_let rfl (den_app (m := [i]) rfl rfl (by unfold big at hv; show o.length + 1 < 4294967296; omega) (den_let rfl (den_jump rfl rfl ?_)))
      rw [hw]
      show J [S (.int .i64) (o ++ [i]), I (i + 1), S (.int .i64) []] = some [S (.int .i64) (o ++ othL x.1 i ((V : Int) - i).toNat)]
      rw [hs, if_neg h3]
      have := hJ (o ++ [i], i + 1) ⟨by show 0 ≤ i + 1; omega, by show i + 1 ≤ V; omega, by show ((o ++ [i]).length : Int) ≤ i + 1; simp; omega⟩ (by show ((V : Int) - (i + 1)).toNat < ((V : Int) - i).toNat; omega)
      rw [this]
      simp
    · have h3 : i = x.1 := by
        have h3 : (i != x.1) = false := h3
        simpa using h3
      refine den_let rfl (den_jump rfl rfl ?_)
      rw [hw]
      show J [S (.int .i64) o, I (i + 1), S (.int .i64) []] = some [S (.int .i64) (o ++ othL x.1 i ((V : Int) - i).toNat)]
      rw [hs, if_pos h3]
      exact hJ (o, i + 1) ⟨by show 0 ≤ i + 1; omega, by show i + 1 ≤ V; omega, by show (o.length : Int) ≤ i + 1; omega⟩ (by show ((V : Int) - (i + 1)).toNat < ((V : Int) - i).toNat; omega)
  · have h : ¬ i < (V : Int) := by rw [hV]; exact of_decide_eq_false h
    show some [S (.int .i64) (o ++ othL x.1 i ((V : Int) - i).toNat)] = some [S (.int .i64) o]
    rw [show ((V : Int) - i).toNat = 0 by omega]
    simp [othL]
def rd (m : List Int) (x : Int) : Int := (m[x.toNat]?).getD 0
/-- How many of them hold the place. -/
def cntB (m : List Int) (p : Int) : List Int → Int → Int
  | [], c => c
  | x :: xs, c => cntB m p xs (if rd m x ≥ p then IntKind.i64.wrap (c + 1) else c)
theorem rd_get {m : List Int} {x : Int} (h : x.toNat < m.length) : rd m x = m[x.toNat] := by
  unfold rd
  rw [List.getElem?_eq_getElem h]; rfl
theorem nodeOk_facts {i0 i1 i2 : Int} {l : List (D ITy)} {i4 i5 i6 i7 : Int} {v : List Bool} {n m : List Int} {s : Int} (h : nodeOk i0 i1 i2 l i4 i5 i6 i7 v n m s = true) :
    1 ≤ s ∧ s ≤ 5 ∧ (l.length : Int) ≤ 400 ∧ (v.length : Int) = s ∧ (m.length : Int) = s := by
  unfold nodeOk rng1 rng2 at h
  simp only [Bool.and_eq_true, decide_eq_true_eq] at h
  omega
def backedOf (i0 i1 i2 : Int) (l : List (D ITy)) (i4 i5 i6 i7 : Int) (v : List Bool) (n m : List Int) (s p : Int) : Int :=
  if nodeOk i0 i1 i2 l i4 i5 i6 i7 v n m s = true ∧ i5 = 2 ∧ 1 ≤ p ∧ p ≤ l.length then cntB m p (othL i0 0 s.toNat) 1 else 0
theorem someI {a b : Int} (h : a = b) : (some [I a] : Option (List Dy)) = some [⟨.int .i64, b⟩] := by rw [h]
set_option maxHeartbeats 4000000 in
theorem backed23 (N q : Nat) (i0 i1 i2 : Int) (l : List (D ITy)) (i4 i5 i6 i7 : Int) (v : List Bool) (n m : List Int) (s p : Int) (hN : big ≤ N) (hl : l.length < big) (hx : ∀ y ∈ l, okI y) (hv : v.length < big) :
    level T N (q + 7) 23 [⟨NTy, (i0, i1, i2, l, i4, i5, i6, i7, v, n, m, ())⟩, I s, I p] = some [I (backedOf i0 i1 i2 l i4 i5 i6 i7 v n m s p)] := by
  refine level_den rfl rfl ?_ rfl
  unfold ir23
  refine den_let rfl (den_let rfl (den_call rfl (node13 N q i0 i1 i2 l i4 i5 i6 i7 v n m s hN hl hx hv) rfl (den_let rfl (den_ite rfl (fun h => den_ret rfl (someI ?_)) (fun h1 => ?_)))))
  · unfold backedOf
    rw [if_neg (fun hh => by rw [hh.1] at h; cases h)]
  have h1 : nodeOk i0 i1 i2 l i4 i5 i6 i7 v n m s = true := by simpa using h1
  obtain ⟨f1, f2, f3, f4, f5⟩ := nodeOk_facts h1
  simp only [List.cons_append, List.nil_append]
  refine den_let rfl (den_ite rfl (fun h => den_ret rfl (someI ?_)) (fun h2 => ?_))
  · have h : ¬ i5 = 2 := bne_iff_ne.1 h
    unfold backedOf
    rw [if_neg (fun hh => h hh.2.1)]
  have h2 : i5 = 2 := by
    have h2 : (i5 != 2) = false := h2
    simpa using h2
  simp only [List.cons_append, List.nil_append]
  refine den_let rfl (den_ite rfl (fun h => den_ret rfl (someI ?_)) (fun h3 => ?_))
  · have h : p < 1 := of_decide_eq_true h
    unfold backedOf
    rw [if_neg (fun hh => by omega)]
  have h3 : ¬ p < 1 := of_decide_eq_false h3
  simp only [List.cons_append, List.nil_append]
  refine den_let rfl (den_let rfl (den_ite rfl (fun h => den_ret rfl (someI ?_)) (fun h4 => ?_)))
  · have h : p > (l.length : Int) := of_decide_eq_true h
    unfold backedOf
    rw [if_neg (fun hh => by omega)]
  have h4 : ¬ p > (l.length : Int) := of_decide_eq_false h4
  have hb : backedOf i0 i1 i2 l i4 i5 i6 i7 v n m s p = cntB m p (othL i0 0 (s - 0).toNat) 1 := by
    unfold backedOf
    rw [if_pos ⟨h1, h2, by omega, by omega⟩, Int.sub_zero]
  rw [hb]
  simp only [List.cons_append, List.nil_append]
  refine den_loop (den_jump rfl rfl ?_)
  refine rounds_ind (α := Int × Int) (enc := fun a => [I a.1, I a.2]) (ans := fun a => some [I (cntB m p (othL i0 a.2 (s - a.2).toNat) a.1)]) (meas := fun a => (s - a.2).toNat) (Q := fun a => 0 ≤ a.2 ∧ a.2 ≤ s) ?_ N (1, 0) ⟨by show (0 : Int) ≤ 0; omega, by show (0 : Int) ≤ s; omega⟩ (by show (s - 0).toNat < N; unfold big at hN; omega)
  rintro J ⟨c, i⟩ ⟨k0, k1⟩ hJ
  dsimp only at k0 k1
  simp only [List.cons_append, List.nil_append]
  refine den_let rfl (den_ite rfl (fun h => ?_) (fun h => den_ret rfl ?_))
  · have h : i < s := of_decide_eq_true h
    have him : i.toNat < m.length := by omega
    have hs : othL i0 i (s - i).toNat = if i = i0 then othL i0 (i + 1) (s - (i + 1)).toNat else i :: othL i0 (i + 1) (s - (i + 1)).toNat := by
      rw [show (s - i).toNat = (s - (i + 1)).toNat + 1 by omega]
      rfl
    have hw : IntKind.i64.wrap (i + 1) = i + 1 := wrap_id (by omega) (by omega)
    have hnext : ∀ c', J [I c', I (IntKind.i64.wrap (i + 1))] = some [I (cntB m p (othL i0 (i + 1) (s - (i + 1)).toNat) c')] := by
      intro c'
      rw [hw]
      exact hJ (c', i + 1) ⟨by show 0 ≤ i + 1; omega, by show i + 1 ≤ s; omega⟩ (by show (s - (i + 1)).toNat < (s - i).toNat; omega)
    simp only [List.cons_append, List.nil_append]
    refine den_let rfl (den_ite rfl (fun h5 => ?_) (fun h5 => ?_))
    · have h5 : ¬ i = i0 := bne_iff_ne.1 h5
      show _ = some [I (cntB m p (othL i0 i (s - i).toNat) c)]
      rw [hs, if_neg h5]
      simp only [List.cons_append, List.nil_append]
      refine den_idx rfl rfl rfl k0 (List.getElem?_eq_getElem him) (den_let rfl (den_let rfl (den_ite rfl (fun h6 => ?_) (fun h6 => ?_))))
      · have h6 : m[i.toNat] ≥ p := of_decide_eq_true h6
        simp only [List.cons_append, List.nil_append]
        refine den_let rfl (den_let rfl (den_jump rfl rfl ?_))
        show J [I (IntKind.i64.wrap (c + 1)), I (IntKind.i64.wrap (i + 1))] = some [I (cntB m p _ (if rd m i ≥ p then IntKind.i64.wrap (c + 1) else c))]
        rw [rd_get him, if_pos h6]
        exact hnext _
      · have h6 : ¬ m[i.toNat] ≥ p := of_decide_eq_false h6
        refine den_let rfl (den_jump rfl rfl ?_)
        show J [I c, I (IntKind.i64.wrap (i + 1))] = some [I (cntB m p _ (if rd m i ≥ p then IntKind.i64.wrap (c + 1) else c))]
        rw [rd_get him, if_neg h6]
        exact hnext _
    · have h5 : i = i0 := by
        have h5 : (i != i0) = false := h5
        simpa using h5
      show _ = some [I (cntB m p (othL i0 i (s - i).toNat) c)]
      rw [hs, if_pos h5]
      exact den_let rfl (den_jump rfl rfl (hnext c))
  · have h : ¬ i < s := of_decide_eq_false h
    show some [I (cntB m p (othL i0 i (s - i).toNat) c)] = some [I c]
    rw [show (s - i).toNat = 0 by omega]
    rfl
set_option maxHeartbeats 4000000 in
theorem backed25 (N q : Nat) (i0 i1 i2 : Int) (l : List (D ITy)) (i4 i5 i6 i7 : Int) (v : List Bool) (n m : List Int) (s p : Int) (hN : big ≤ N) (hl : l.length < big) (hx : ∀ y ∈ l, okI y) (hv : v.length < big) :
    level T N (q + 8) 25 [⟨NTy, (i0, i1, i2, l, i4, i5, i6, i7, v, n, m, ())⟩, I s, I p] = some [I (backedOf i0 i1 i2 l i4 i5 i6 i7 v n m s p)] := by
  refine level_den rfl rfl ?_ rfl
  unfold ir25
  refine den_let rfl (den_let rfl (den_call rfl (leader79 N q i0 i1 i2 l i4 i5 i6 i7 v n m s hN hl hx hv) rfl (den_let rfl (den_ite rfl (fun h => den_ret rfl (someI ?_)) (fun h1 => ?_)))))
  · have h : (nodeOk i0 i1 i2 l i4 i5 i6 i7 v n m s && decide (i5 = 2)) = false := by
      rw [Bool.not_eq_true'] at h
      exact h
    unfold backedOf
    rw [if_neg (fun hh => by rw [hh.1, decide_eq_true hh.2.1] at h; cases h)]
  have h1 : (nodeOk i0 i1 i2 l i4 i5 i6 i7 v n m s && decide (i5 = 2)) = true := by
    rw [Bool.not_eq_false'] at h1
    exact h1
  rw [Bool.and_eq_true, decide_eq_true_eq] at h1
  obtain ⟨f1, f2, f3, f4, f5⟩ := nodeOk_facts h1.1
  simp only [List.cons_append, List.nil_append]
  refine den_let rfl (den_call rfl (within60 N (q + 6) p 1 (l.length : Int)) rfl (den_let rfl (den_ite rfl (fun h => den_ret rfl (someI ?_)) (fun h3 => ?_))))
  · rw [Bool.not_eq_true', ← Bool.decide_and, decide_eq_false_iff_not] at h
    unfold backedOf
    rw [if_neg (fun hh => h hh.2.2)]
  rw [Bool.not_eq_false', ← Bool.decide_and, decide_eq_true_eq] at h3
  have hO : othL i0 0 v.length = othL i0 0 s.toNat := by rw [show v.length = s.toNat by omega]
  obtain ⟨O, hOd⟩ : ∃ O, O = othL i0 0 s.toNat := ⟨_, rfl⟩
  have hOl : O.length ≤ s.toNat := by rw [hOd]; exact othL_length _ _ _
  have hOm : ∀ x ∈ O, 0 ≤ x ∧ x < s := by
    intro x hx'
    rw [hOd] at hx'
    have := othL_mem _ _ _ _ hx'
    omega
  have hb : backedOf i0 i1 i2 l i4 i5 i6 i7 v n m s p = cntB m p (O.drop (0 : Int).toNat) 1 := by
    unfold backedOf
    rw [if_pos ⟨h1.1, h1.2, h3.1, h3.2⟩, hOd]; rfl
  rw [hb]
  simp only [List.cons_append, List.nil_append]
  have ho := others80 N (q + 6) (i0, i1, i2, l, i4, i5, i6, i7, v, n, m, ()) hN hv
  rw [show (othL _ 0 _ : List Int) = O from hO.trans hOd.symm] at ho
  refine den_let rfl (den_call rfl ho rfl (den_let rfl ?_))
  simp only [List.cons_append, List.nil_append]
  refine den_loop (den_jump rfl rfl ?_)
  refine rounds_ind (α := Int × Int) (enc := fun a => [I a.1, I a.2]) (ans := fun a => some [I (cntB m p (O.drop a.2.toNat) a.1)]) (meas := fun a => O.length - a.2.toNat) (Q := fun a => 0 ≤ a.2 ∧ a.2 ≤ O.length) ?_ N (1, 0) ⟨by show (0 : Int) ≤ 0; omega, by show (0 : Int) ≤ O.length; omega⟩ (by show O.length - 0 < N; unfold big at hN; omega)
  rintro J ⟨c, i⟩ ⟨k0, k1⟩ hJ
  dsimp only at k0 k1
  simp only [List.cons_append, List.nil_append]
  refine den_let rfl (den_ite rfl (fun h => ?_) (fun h => den_ret rfl ?_))
  · have h : i < (O.length : Int) := of_decide_eq_true h
    have hlt : i.toNat < O.length := by omega
    have hx0 := hOm _ (List.getElem_mem hlt)
    have him : (O[i.toNat]).toNat < m.length := by omega
    have hd : O.drop i.toNat = O[i.toNat] :: O.drop (i + 1).toNat := by
      rw [show (i + 1).toNat = i.toNat + 1 by omega]
      exact List.drop_eq_getElem_cons hlt
    have hw : IntKind.i64.wrap (i + 1) = i + 1 := wrap_id (by omega) (by omega)
    have hnext : ∀ c', J [I c', I (IntKind.i64.wrap (i + 1))] = some [I (cntB m p (O.drop (i + 1).toNat) c')] := by
      intro c'
      rw [hw]
      exact hJ (c', i + 1) ⟨by show 0 ≤ i + 1; omega, by show i + 1 ≤ O.length; omega⟩ (by show O.length - (i + 1).toNat < O.length - i.toNat; omega)
    show _ = some [I (cntB m p (O.drop i.toNat) c)]
    rw [hd]
    simp only [List.cons_append, List.nil_append]
    refine den_idx rfl rfl rfl k0 (List.getElem?_eq_getElem hlt) (den_let rfl ?_)
    simp only [List.cons_append, List.nil_append]
    refine den_idx (n := O[i.toNat]) rfl rfl rfl hx0.1 (List.getElem?_eq_getElem him) (den_let rfl (den_let rfl (den_ite rfl (fun h6 => ?_) (fun h6 => ?_))))
    · have h6 : m[(O[i.toNat]).toNat] ≥ p := of_decide_eq_true h6
      simp only [List.cons_append, List.nil_append]
      refine den_let rfl (den_let rfl (den_jump rfl rfl ?_))
      show J [I (IntKind.i64.wrap (c + 1)), I (IntKind.i64.wrap (i + 1))] = some [I (cntB m p _ (if rd m O[i.toNat] ≥ p then IntKind.i64.wrap (c + 1) else c))]
      rw [rd_get him, if_pos h6]
      exact hnext _
    · have h6 : ¬ m[(O[i.toNat]).toNat] ≥ p := of_decide_eq_false h6
      refine den_let rfl (den_jump rfl rfl ?_)
      show J [I c, I (IntKind.i64.wrap (i + 1))] = some [I (cntB m p _ (if rd m O[i.toNat] ≥ p then IntKind.i64.wrap (c + 1) else c))]
      rw [rd_get him, if_neg h6]
      exact hnext _
  · have h : ¬ i < (O.length : Int) := of_decide_eq_false h
    show some [I (cntB m p (O.drop i.toNat) c)] = some [I c]
    rw [show O.drop i.toNat = [] from List.drop_of_length_le (by omega)]
    rfl
set_option maxHeartbeats 4000000 in
/-- THE LAW, of numbers and lists. -/
theorem law6 (N q : Nat) (x : D NTy) (s p : Int) (hN : big ≤ N) (hw : WfD NTy x) : level T N (q + 9) 6 [⟨NTy, x⟩, I s, I p] = some [B true] := by
  obtain ⟨r, e, hr⟩ := sz22 N (q + 2) x 1048576 hN (by omega) (by unfold big; omega) hw
  refine level_den rfl rfl ?_ rfl
  unfold ir6
  refine den_let rfl (den_let rfl (den_call rfl e rfl (den_let rfl (den_ite rfl (fun _ => den_ret rfl rfl) (fun h => ?_)))))
  have h : ¬ r < 0 := of_decide_eq_false h
  rcases hr with hr | ⟨_, hx⟩
  · exact absurd hr h
  have ht := to24 N (q + 2) x hN hx
  have he := eq26 N (q + 2) x hN hx
  have h23 : level T N (q + 8) 23 [⟨NTy, x⟩, I s, I p] = some [I (backedOf x.1 x.2.1 x.2.2.1 x.2.2.2.1 x.2.2.2.2.1 x.2.2.2.2.2.1 x.2.2.2.2.2.2.1 x.2.2.2.2.2.2.2.1 x.2.2.2.2.2.2.2.2.1 x.2.2.2.2.2.2.2.2.2.1 x.2.2.2.2.2.2.2.2.2.2.1 s p)] :=
    backed23 N (q + 1) x.1 x.2.1 x.2.2.1 x.2.2.2.1 x.2.2.2.2.1 x.2.2.2.2.2.1 x.2.2.2.2.2.2.1 x.2.2.2.2.2.2.2.1 x.2.2.2.2.2.2.2.2.1 x.2.2.2.2.2.2.2.2.2.1 x.2.2.2.2.2.2.2.2.2.2.1 s p hN hx.1 hx.2.1 hx.2.2.1
  have h25 : level T N (q + 8) 25 [⟨NTy, x⟩, I s, I p] = some [I (backedOf x.1 x.2.1 x.2.2.1 x.2.2.2.1 x.2.2.2.2.1 x.2.2.2.2.2.1 x.2.2.2.2.2.2.1 x.2.2.2.2.2.2.2.1 x.2.2.2.2.2.2.2.2.1 x.2.2.2.2.2.2.2.2.2.1 x.2.2.2.2.2.2.2.2.2.2.1 s p)] :=
    backed25 N q x.1 x.2.1 x.2.2.1 x.2.2.2.1 x.2.2.2.2.1 x.2.2.2.2.2.1 x.2.2.2.2.2.2.1 x.2.2.2.2.2.2.2.1 x.2.2.2.2.2.2.2.2.1 x.2.2.2.2.2.2.2.2.2.1 x.2.2.2.2.2.2.2.2.2.2.1 s p hN hx.1 hx.2.1 hx.2.2.1
  simp only [List.cons_append, List.nil_append]
  refine den_let rfl (den_call rfl ht rfl (den_call rfl h23 rfl ?_))
  simp only [List.cons_append, List.nil_append]
  refine den_let rfl (den_call rfl ht rfl (den_let rfl (den_let rfl (den_call rfl h25 rfl ?_))))
  simp only [List.cons_append, List.nil_append]
  refine den_let rfl (den_ite rfl (fun h => ?_) (fun _ => ?_))
  · exact absurd h (by simp)
  simp only [List.cons_append, List.nil_append]
  refine den_let rfl (den_let rfl (den_call rfl ht rfl (den_call rfl he rfl ?_)))
  simp only [List.cons_append, List.nil_append]
  exact den_let rfl (den_ite rfl (fun h => by cases h) (fun _ => den_ret rfl rfl))

end Go.Proofs.Ytecleaangfcloaa.Vp
