/- A crash preserves term, vote and log: the plain law. Lemmas alone, no statement. -/
import Derived.Test.YtecleaangfcloaaVpDbFnFalls
namespace Go.Proofs.Ytecleaangfcloaa.VtFnFalls
set_option linter.unusedVariables false
set_option linter.unusedSimpArgs false
set_option linter.unnecessarySimpa false
open Go Go.Vm
theorem clone161 (N k : Nat) (l : List Int) (hl : l.length < big) : Lv N (k + 1) 161 [S (.int .u8) l] = some [S (.int .u8) l] := by
  refine level_den rfl rfl ?_ rfl
  unfold ir161
  have hm : ([] : List Int).length + l.length < maxRow := by show 0 + l.length < 4294967296; unfold big at hl; omega
  refine den_let rfl (den_amb rfl (fun h => ⟨den_ret rfl (by subst h; rfl), ?_⟩) (fun _ => ?_))
  · subst h
    exact den_let rfl (den_app rfl rfl hm (den_ret rfl rfl))
  · exact den_let rfl (den_app rfl rfl hm (den_ret rfl rfl))
theorem own175 (N k : Nat) (x : D OTy) (h1 : List.length x.2.1 < big) (h2 : List.length x.2.2.1 < big) : Lv N (k + 2) 175 [⟨OTy, x⟩] = some [⟨OTy, x⟩] := by
  refine level_den rfl rfl ?_ rfl
  unfold ir175
  refine den_let rfl (den_call rfl (clone161 N k x.2.1 h1) rfl (den_call rfl (clone161 N k x.2.2.1 h2) rfl ?_))
  exact den_let rfl (den_let rfl (den_let rfl (den_let rfl (den_let rfl (den_ret rfl rfl)))))
theorem own121 (N k : Nat) (x : D CTy) (h1 : List.length x.2.2.2.1 < big) (h2 : List.length x.2.2.2.2.1 < big) : Lv N (k + 3) 121 [⟨CTy, x⟩] = some [⟨CTy, x⟩] := by
  refine level_den rfl rfl ?_ rfl
  unfold ir121
  refine den_let rfl (den_let rfl (den_call rfl (own175 N k x.2.2 h1 h2) rfl ?_))
  exact den_let rfl (den_let rfl (den_let rfl (den_let rfl (den_ret rfl rfl))))
theorem own54 (N k : Nat) (l : List (D ITy)) (hl : (l.length : Int) ≤ 400) (hx : ∀ y ∈ l, okI y) (hN : big ≤ N) : Lv N (k + 4) 54 [S ITy l] = some [S ITy l] := by
  refine level_den rfl rfl ?_ rfl
  unfold ir54
  have hb' : 500 < big := by unfold big; omega
  refine den_let rfl (den_loop (den_jump rfl rfl ?_))
  refine rounds_ind (α := List (D ITy) × Int) (enc := fun a => [S ITy a.1, I a.2, S ITy []]) (ans := fun _ => some [S ITy l]) (meas := fun a => ((l.length : Int) - a.2).toNat) (Q := fun a => 0 ≤ a.2 ∧ a.2 ≤ l.length ∧ a.1 = l.take a.2.toNat) ?_ N ([], 0) ⟨by show (0 : Int) ≤ 0; omega, by show (0 : Int) ≤ (l.length : Int); omega, rfl⟩ (by show ((l.length : Int) - (0 : Int)).toNat < N; omega)
  rintro J ⟨o, j⟩ ⟨j0, j1, ho⟩ hJ
  dsimp only at j0 j1 ho
  simp only [List.cons_append, List.nil_append]
  refine den_let rfl (den_ite rfl (fun c => ?_) (fun c => den_ret rfl ?_))
  · have c : j < l.length := of_decide_eq_true c
    have hlt : j.toNat < l.length := by omega
    have hy := hx _ (List.getElem_mem hlt)
    have hw : IntKind.i64.wrap (j + 1) = j + 1 := wrap_id (by omega) (by omega)
    have hol : o.length = j.toNat := by rw [ho, List.length_take]; omega
    have htk : l.take (j.toNat + 1) = l.take j.toNat ++ [l[j.toNat]] := List.take_succ_eq_append_getElem hlt
    have hget : l[j.toNat]? = some l[j.toNat] := List.getElem?_eq_getElem hlt
    revert hy htk hget
    generalize l[j.toNat] = y
    obtain ⟨y0, y1, y2, y3, y4, y5, y6, yu⟩ := y
    intro hy htk hget
    simp only [List.cons_append, List.nil_append]
    refine den_idx rfl rfl rfl j0 hget (den_let rfl (den_let rfl (den_let rfl (den_call rfl (own121 N k (y1, y2, y3, y4, y5, y6, ()) hy.1 hy.2) rfl ?_))))
    simp only [List.cons_append, List.nil_append]
    refine den_let rfl (den_let rfl (den_let rfl (den_let rfl ?_)))
    refine den_app rfl rfl (show o.length + [((y0, y1, y2, y3, y4, y5, y6, ()) : D ITy)].length < maxRow by show o.length + 1 < 4294967296; omega) (den_let rfl (den_jump rfl rfl ?_))
    rw [hw]
    refine hJ (o ++ [((y0, y1, y2, y3, y4, y5, y6, ()) : D ITy)], j + 1) ⟨by show 0 ≤ j + 1; omega, by show j + 1 ≤ (l.length : Int); omega, ?_⟩ (by show ((l.length : Int) - (j + 1)).toNat < ((l.length : Int) - j).toNat; omega)
    show o ++ [_] = l.take (j + 1).toNat
    rw [show (j + 1).toNat = j.toNat + 1 by omega, htk, ho]
  · have c : ¬ j < l.length := of_decide_eq_false c
    rw [ho, show j.toNat = l.length by omega, List.take_length]
set_option maxHeartbeats 4000000 in
theorem new14 (N k : Nat) (a s : Int) (h : 1 ≤ s ∧ s ≤ 5 ∧ 0 ≤ a ∧ a < s) : Lv N (k + 3) 14 [I a, I s] = some [⟨NTy, (a, 0, -1, [], 0, 0, -1, 0, List.replicate s.toNat false, List.replicate s.toNat 0, List.replicate s.toNat 0, ())⟩, B true] := by
  refine level_den rfl rfl ?_ rfl
  unfold ir14
  have hm : s < maxRow := by show s < 4294967296; omega
  refine den_call rfl (server59 N k a s) rfl (den_let rfl (den_ite rfl (fun c => ?_) (fun _ => ?_)))
  · exfalso; revert c; simp; omega
  · refine den_rep rfl rfl (by omega) hm (den_rep rfl rfl (by omega) hm (den_rep rfl rfl (by omega) hm ?_))
    exact den_let rfl (den_let rfl (den_let rfl (den_let rfl (den_let rfl (den_let rfl (den_let rfl (den_let rfl (den_let rfl (den_ret rfl rfl)))))))))
/-- What a crash leaves. -/
def fell (i0 i1 i2 : Int) (l : List (D ITy)) (s : Int) : D NTy := (i0, i1, i2, l, 0, 0, -1, 0, List.replicate s.toNat false, List.replicate s.toNat 0, List.replicate s.toNat 0, ())
def zero : D NTy := (0, 0, 0, [], 0, 0, 0, 0, [], [], [], ())
theorem anyB_rep (n : Nat) : anyB (List.replicate n false) = false := by
  induction n with
  | zero => rfl
  | succ n ih => rw [List.replicate_succ]; simpa [anyB] using ih
theorem upAll_rep (len : Int) (n : Nat) : ∀ d i, upAll (perAt 0 len (List.replicate n 0) (List.replicate n 0)) i d = true
  | 0, i => rfl
  | d + 1, i => by
    unfold upAll
    rw [upAll_rep len n d (i + 1), Bool.and_true]
    unfold perAt
    by_cases h : i < n
    · simp [List.getElem?_replicate, h]
    · simp [List.getElem?_replicate, h]
theorem nodeOk_rng {i0 i1 i2 : Int} {l : List (D ITy)} {i4 i5 i6 i7 : Int} {v : List Bool} {n m : List Int} {s : Int} (c : nodeOk i0 i1 i2 l i4 i5 i6 i7 v n m s = true) :
    1 ≤ s ∧ s ≤ 5 ∧ 0 ≤ i0 ∧ i0 < s := by
  unfold nodeOk at c
  simp only [Bool.and_eq_true] at c
  have h1 := c.1
  unfold rng1 at h1
  simp only [decide_eq_true_eq] at h1
  omega
theorem fell_ok {i0 i1 i2 : Int} {l : List (D ITy)} {i4 i5 i6 i7 : Int} {v : List Bool} {n m : List Int} {s : Int} (h : nodeOk i0 i1 i2 l i4 i5 i6 i7 v n m s = true) :
    nodeOk i0 i1 i2 l 0 0 (-1) 0 (List.replicate s.toNat false) (List.replicate s.toNat 0) (List.replicate s.toNat 0) s = true := by
  unfold nodeOk at h ⊢
  simp only [Bool.and_eq_true] at h ⊢
  obtain ⟨h1, h2, h3, h4, h5⟩ := h
  unfold rng1 at h1
  unfold rng2 at h3
  simp only [decide_eq_true_eq] at h1 h3
  refine ⟨?_, h2, ?_, ?_, upAll_rep _ _ _ _⟩
  · unfold rng1; simp only [decide_eq_true_eq]; omega
  · unfold rng2; simp only [decide_eq_true_eq, List.length_replicate]; omega
  · unfold roleB; rw [anyB_rep]; rfl
set_option maxHeartbeats 2000000 in
theorem fall12 (N k : Nat) (i0 i1 i2 : Int) (l : List (D ITy)) (i4 i5 i6 i7 : Int) (v : List Bool) (n m : List Int) (s : Int) (hN : big ≤ N) (hl : (l.length : Int) ≤ 400) (hx : ∀ y ∈ l, okI y) (hv : v.length < big) :
    Lv N (k + 7) 12 [⟨NTy, (i0, i1, i2, l, i4, i5, i6, i7, v, n, m, ())⟩, I s] = some [⟨NTy, if nodeOk i0 i1 i2 l i4 i5 i6 i7 v n m s = true then fell i0 i1 i2 l s else zero⟩] := by
  refine level_den rfl rfl ?_ rfl
  unfold ir12
  have hl' : l.length < big := by unfold big; omega
  refine den_let rfl (den_let rfl (den_call rfl (node15 N k i0 i1 i2 l i4 i5 i6 i7 v n m s hN hl' hx hv) rfl (den_let rfl (den_ite rfl (fun c => ?_) (fun c => ?_)))))
  · have c : nodeOk i0 i1 i2 l i4 i5 i6 i7 v n m s = false := by simpa using c
    rw [if_neg (by rw [c]; exact Bool.false_ne_true)]
    exact den_let rfl (den_let rfl (den_let rfl (den_ret rfl rfl)))
  · have c : nodeOk i0 i1 i2 l i4 i5 i6 i7 v n m s = true := by simpa using c
    rw [if_pos c]
    have hr := nodeOk_rng c
    simp only [List.cons_append, List.nil_append]
    refine den_call rfl (new14 N (k + 3) i0 s hr) rfl (den_let rfl (den_call rfl (own54 N (k + 2) l hl hx hN) rfl ?_))
    simp only [List.cons_append, List.nil_append]
    exact den_let rfl (den_let rfl (den_let rfl (den_let rfl (den_let rfl (den_let rfl (den_ret rfl rfl))))))
theorem eqI {a b : Int} (h : a = b) : (decide (a = b)) = true := decide_eq_true h
theorem draw11 (N k : Nat) (b : List Int) (hb : b.length ≤ 9223372036854775807) (hN : big ≤ N) : Ans (Lv N (k + 10) 11 [S (.int .u8) b]) (fun rs => ∃ (x : D NTy) (s : Int), rs = [⟨NTy, x⟩, I s] ∧ Mb x) := by
  refine ans_level rfl rfl ?_ (fun rs hq => by obtain ⟨x, s, rfl, _⟩ := hq; rfl)
  unfold ir11
  refine ans_callA rfl (drawNode N k b hb hN) ?_
  rintro _ ⟨x, s, rfl, hx⟩
  refine ⟨rfl, ?_⟩
  simp only [List.cons_append, List.nil_append]; refine ans_let rfl ?_; refine ans_let rfl ?_
  exact ans_ret rfl ⟨x, s, rfl, hx⟩
set_option maxHeartbeats 4000000 in
theorem law (k : Nat) (b : D (.sl (.int .u8))) (hw : WfD (.sl (.int .u8)) b) : Lv big (k + 11) 3 [S (.int .u8) b] = some [⟨.bool, true⟩] := by
  refine level_den rfl rfl ?_ rfl
  unfold ir3
  have hb : List.length b ≤ 9223372036854775807 := hw.1
  obtain ⟨_, e, ⟨i0, i1, i2, l, i4, i5, i6, i7, v, n, m, u⟩, s, rfl, hl, hx, hv⟩ := draw11 big k b hb (Nat.le_refl _)
  have hl : (l.length : Int) ≤ 400 := hl
  have hx : ∀ y ∈ l, okI y := hx
  have hv : (v.length : Int) ≤ 6 := hv
  have hv' : v.length < big := by unfold big; omega
  have hl' : l.length < big := by unfold big; omega
  refine den_call rfl e rfl ?_
  simp only [List.cons_append, List.nil_append]
  refine den_let rfl (den_let rfl (den_call rfl (fall12 big (k + 3) i0 i1 i2 l i4 i5 i6 i7 v n m s (Nat.le_refl _) hl hx hv') rfl ?_))
  simp only [List.cons_append, List.nil_append]
  refine den_let rfl (den_let rfl (den_call rfl (node13 big (k + 4) i0 i1 i2 l i4 i5 i6 i7 v n m s (Nat.le_refl _) hl' hx hv') rfl (den_let rfl (den_ite rfl (fun c => ?_) (fun c => ?_)))))
  · have c : nodeOk i0 i1 i2 l i4 i5 i6 i7 v n m s = false := by simpa using c
    rw [if_neg (by rw [c]; exact Bool.false_ne_true)]
    simp only [List.cons_append, List.nil_append]
    exact den_let rfl (den_let rfl (den_ite rfl (fun _ => den_let rfl (den_ret rfl rfl)) (fun h => by cases h)))
  · have c : nodeOk i0 i1 i2 l i4 i5 i6 i7 v n m s = true := by simpa using c
    rw [if_pos c]
    have hr := nodeOk_rng c
    have c2 := fell_ok c
    have hrep : (List.replicate s.toNat false).length < big := by
      have hb5 : 10 < big := by unfold big; omega
      rw [List.length_replicate]; omega
    have e12 := fall12 big (k + 3) i0 i1 i2 l 0 0 (-1) 0 (List.replicate s.toNat false) (List.replicate s.toNat 0) (List.replicate s.toNat 0) s (Nat.le_refl _) hl hx hrep
    rw [if_pos c2] at e12
    have e15 := node15 big (k + 4) i0 i1 i2 l 0 0 (-1) 0 (List.replicate s.toNat false) (List.replicate s.toNat 0) (List.replicate s.toNat 0) s (Nat.le_refl _) hl' hx hrep
    rw [c2] at e15
    unfold fell at e12 ⊢
    simp only [List.cons_append, List.nil_append]
    refine den_let rfl (den_call rfl e12 rfl ?_)
    simp only [List.cons_append, List.nil_append]
    refine den_let rfl (den_call rfl (new14 big (k + 7) i0 s hr) rfl ?_)
    simp only [List.cons_append, List.nil_append]
    refine den_let rfl (den_ite rfl (fun _ => ?_) (fun h => by cases h))
    refine den_let rfl (den_call rfl e15 rfl ?_)
    simp only [List.cons_append, List.nil_append]
    refine den_ite rfl (fun _ => ?_) (fun h => by cases h)
    refine den_let rfl (den_ite rfl (fun _ => ?_) (fun h => absurd rfl (of_decide_eq_false h)))
    refine den_let rfl (den_ite rfl (fun _ => ?_) (fun h => absurd rfl (of_decide_eq_false h)))
    refine den_let rfl (den_let rfl (den_let rfl (den_ite rfl (fun _ => ?_) (fun h => absurd rfl (of_decide_eq_false h)))))
    refine den_let rfl (den_ite rfl (fun _ => ?_) (fun h => by cases h))
    refine den_let rfl (den_ite rfl (fun _ => ?_) (fun h => by cases h))
    refine den_let rfl (den_ite rfl (fun _ => ?_) (fun h => by cases h))
    refine den_let rfl (den_let rfl (den_let rfl (den_ite rfl (fun _ => ?_) (fun h => absurd rfl (of_decide_eq_false h)))))
    refine den_let rfl (den_ite rfl (fun _ => ?_) (fun h => by cases h))
    exact den_let rfl (den_ret rfl rfl)
end Go.Proofs.Ytecleaangfcloaa.VtFnFalls
