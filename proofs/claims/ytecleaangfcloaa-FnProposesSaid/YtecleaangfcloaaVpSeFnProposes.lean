/- What a working server does: sending, advancing. Lemmas alone, no statement. -/
import Derived.Test.YtecleaangfcloaaVpDnFnProposes
namespace Go.Proofs.Ytecleaangfcloaa.VtFnProposes
set_option linter.unusedVariables false
set_option linter.unusedSimpArgs false
set_option linter.unnecessarySimpa false
open Go Go.Vm
abbrev MTy : Ty := .pair (.int .i64) (.pair (.int .i64) (.pair (.int .i64) (.pair (.int .i64) (.pair (.int .i64) (.pair (.int .i64) (.pair (.sl ITy) (.pair (.int .i64) (.pair .bool .unit))))))))
abbrev STy : Ty := .pair (.int .i64) (.pair (.int .i64) (.pair (.int .i64) (.pair (.sl ITy) (.pair (.int .i64) (.pair (.int .i64) (.pair (.int .i64) (.pair (.int .i64) (.pair (.sl .bool) (.pair (.sl (.int .i64)) (.pair (.sl (.int .i64)) (.pair (.sl MTy) .unit)))))))))))
section
variable {F : Fns} {N : Nat} {ρ : List Dy} {Ls : List (List Dy → Option (List Dy))} {Q : List Dy → Prop}
theorem ans_sub {m : Nat} {a b c : A} {k : IR} {e : Ty} {l : List (D e)} {q q' : IntKind} {x y : Int} (ha : evA ρ a = some ⟨.sl e, l⟩) (hb : evA ρ b = some ⟨.int q, x⟩) (hc : evA ρ c = some ⟨.int q', y⟩) (hm : e.n = m) (hm0 : m ≠ 0) (h0 : 0 ≤ x) (h1 : x ≤ y) (h2 : y ≤ l.length)
    (hk : Ans (den F N k (ρ ++ [⟨.sl e, (l.take y.toNat).drop x.toNat⟩]) Ls) Q) : Ans (den F N (.letE ⟨.sub m true true, [a, b, c]⟩ k) ρ Ls) Q := by
  refine ans_let (d := ⟨.sl e, (l.take y.toNat).drop x.toNat⟩) ?_ hk
  have h2' : y ≤ (List.length l : Int) := h2
  simp only [ev, evAs, ha, hb, hc, evX, bounds, hm, hm0, h0, h1, h2', ne_eq, not_false_eq_true, and_self, if_true]
theorem ans_clr {a b : A} {k : IR} {e : Ty} {l : List (D e)} {y : D e} (ha : evA ρ a = some ⟨e, y⟩) (hb : evA ρ b = some ⟨.sl e, l⟩) (hl : l.length ≠ 0)
    (hk : Ans (den F N k (ρ ++ [⟨.sl e, List.replicate l.length y⟩]) Ls) Q) : Ans (den F N (.letE ⟨.clr, [a, b]⟩ k) ρ Ls) Q := by
  refine ans_let (d := ⟨.sl e, List.replicate l.length y⟩) ?_ hk
  have hl' : ¬ (List.length l = 0) := hl
  simp only [ev, evAs, ha, hb, evX, Dy.as, dif_pos, hl', if_false]
end
theorem clone161 (N k : Nat) (l : List Int) (hl : l.length < big) : Lv N (k + 1) 161 [S (.int .u8) l] = some [S (.int .u8) l] := by
  refine level_den rfl rfl ?_ rfl
  unfold ir161
  have hm : ([] : List Int).length + l.length < maxRow := by show 0 + l.length < 4294967296; unfold big at hl; omega
  refine den_let rfl (den_amb rfl (fun h => ⟨den_ret rfl (by subst h; rfl), ?_⟩) (fun _ => ?_))
  · subst h
    exact den_let rfl (den_app rfl rfl hm (den_ret rfl rfl))
  · exact den_let rfl (den_app rfl rfl hm (den_ret rfl rfl))
theorem cloneInt (N k : Nat) (l : List Int) (hl : l.length < big) : Lv N (k + 1) 131 [S (.int .i64) l] = some [S (.int .i64) l] := by
  refine level_den rfl rfl ?_ rfl
  unfold ir131
  have hm : ([] : List Int).length + l.length < maxRow := by show 0 + l.length < 4294967296; unfold big at hl; omega
  refine den_let rfl (den_amb rfl (fun h => ⟨den_ret rfl (by subst h; rfl), ?_⟩) (fun _ => ?_))
  · subst h
    exact den_let rfl (den_app rfl rfl hm (den_ret rfl rfl))
  · exact den_let rfl (den_app rfl rfl hm (den_ret rfl rfl))
theorem cloneBool (N k : Nat) (l : List Bool) (hl : l.length < big) : Lv N (k + 1) 130 [S .bool l] = some [S .bool l] := by
  refine level_den rfl rfl ?_ rfl
  unfold ir130
  have hm : ([] : List Bool).length + l.length < maxRow := by show 0 + l.length < 4294967296; unfold big at hl; omega
  refine den_let rfl (den_amb rfl (fun h => ⟨den_ret rfl (by subst h; rfl), ?_⟩) (fun _ => ?_))
  · subst h
    exact den_let rfl (den_app rfl rfl hm (den_ret rfl rfl))
  · exact den_let rfl (den_app rfl rfl hm (den_ret rfl rfl))
theorem own175 (N k : Nat) (x : D OTy) (h1 : List.length x.2.1 < big) (h2 : List.length x.2.2.1 < big) : Lv N (k + 2) 175 [⟨OTy, x⟩] = some [⟨OTy, x⟩] := by
  refine level_den rfl rfl ?_ rfl
  unfold ir175
  refine den_let rfl (den_call rfl (clone161 N k x.2.1 h1) rfl (den_call rfl (clone161 N k x.2.2.1 h2) rfl ?_))
  exact den_let rfl (den_let rfl (den_let rfl (den_let rfl (den_let rfl (den_ret rfl rfl)))))
theorem own121 (N k : Nat) (x : D CTy) (h1 : List.length x.2.2.2.1 < big) (h2 : List.length x.2.2.2.2.1 < big) : Lv N (k + 3) 121 [⟨CTy, x⟩] = some [⟨CTy, x⟩] := by
  refine level_den rfl rfl ?_ rfl
  unfold ir121
  refine den_let rfl (den_let rfl (den_call rfl (own175 N k x.2.2 h1 h2) rfl ?_))
  exact den_let rfl (den_let rfl (den_let rfl (den_let rfl (den_ret rfl rfl))))
theorem own54 (N k : Nat) (l : List (D ITy)) (hl : (l.length : Int) ≤ 400) (hx : ∀ y ∈ l, okI y) (hN : big ≤ N) : Lv N (k + 4) 54 [S ITy l] = some [S ITy l] := by
  refine level_den rfl rfl ?_ rfl
  unfold ir54
  have hb' : 500 < big := by unfold big; omega
  refine den_let rfl (den_loop (den_jump rfl rfl ?_))
  refine rounds_ind (α := List (D ITy) × Int) (enc := fun a => [S ITy a.1, I a.2, S ITy []]) (ans := fun _ => some [S ITy l]) (meas := fun a => ((l.length : Int) - a.2).toNat) (Q := fun a => 0 ≤ a.2 ∧ a.2 ≤ l.length ∧ a.1 = l.take a.2.toNat) ?_ N ([], 0) ⟨by show (0 : Int) ≤ 0; omega, by show (0 : Int) ≤ (l.length : Int); omega, rfl⟩ (by show ((l.length : Int) - (0 : Int)).toNat < N; omega)
  rintro J ⟨o, j⟩ ⟨j0, j1, ho⟩ hJ
  dsimp only at j0 j1 ho
  simp only [List.cons_append, List.nil_append]
  refine den_let rfl (den_ite rfl (fun c => ?_) (fun c => den_ret rfl ?_))
  · have c : j < l.length := of_decide_eq_true c
    have hlt : j.toNat < l.length := by omega
    have hy := hx _ (List.getElem_mem hlt)
    have hw : IntKind.i64.wrap (j + 1) = j + 1 := wrap_id (by omega) (by omega)
    have hol : o.length = j.toNat := by rw [ho, List.length_take]; omega
    have htk : l.take (j.toNat + 1) = l.take j.toNat ++ [l[j.toNat]] := List.take_succ_eq_append_getElem hlt
    have hget : l[j.toNat]? = some l[j.toNat] := List.getElem?_eq_getElem hlt
    revert hy htk hget
    generalize l[j.toNat] = y
    obtain ⟨y0, y1, y2, y3, y4, y5, y6, yu⟩ := y
    intro hy htk hget
    simp only [List.cons_append, List.nil_append]
    refine den_idx rfl rfl rfl j0 hget (den_let rfl (den_let rfl (den_let rfl (den_call rfl (own121 N k (y1, y2, y3, y4, y5, y6, ()) hy.1 hy.2) rfl ?_))))
    simp only [List.cons_append, List.nil_append]
    refine den_let rfl (den_let rfl (den_let rfl (den_let rfl ?_)))
    refine den_app rfl rfl (show o.length + [((y0, y1, y2, y3, y4, y5, y6, ()) : D ITy)].length < maxRow by show o.length + 1 < 4294967296; omega) (den_let rfl (den_jump rfl rfl ?_))
    rw [hw]
    refine hJ (o ++ [((y0, y1, y2, y3, y4, y5, y6, ()) : D ITy)], j + 1) ⟨by show 0 ≤ j + 1; omega, by show j + 1 ≤ (l.length : Int); omega, ?_⟩ (by show ((l.length : Int) - (j + 1)).toNat < ((l.length : Int) - j).toNat; omega)
    show o ++ [_] = l.take (j + 1).toNat
    rw [show (j + 1).toNat = j.toNat + 1 by omega, htk, ho]
  · have c : ¬ j < l.length := of_decide_eq_false c
    rw [ho, show j.toNat = l.length by omega, List.take_length]
set_option maxHeartbeats 2000000 in
theorem own68 (N k : Nat) (i0 i1 i2 : Int) (l : List (D ITy)) (i4 i5 i6 i7 : Int) (v : List Bool) (n m : List Int) (hN : big ≤ N) (hl : (l.length : Int) ≤ 400) (hx : ∀ y ∈ l, okI y) (hv : v.length < big) (hn : n.length < big) (hm : m.length < big) :
    Lv N (k + 5) 68 [⟨NTy, (i0, i1, i2, l, i4, i5, i6, i7, v, n, m, ())⟩] = some [⟨NTy, (i0, i1, i2, l, i4, i5, i6, i7, v, n, m, ())⟩] := by
  refine level_den rfl rfl ?_ rfl
  unfold ir68
  refine den_let rfl (den_call rfl (own54 N k l hl hx hN) rfl (den_call rfl (cloneBool N (k + 3) v hv) rfl (den_call rfl (cloneInt N (k + 3) n hn) rfl (den_call rfl (cloneInt N (k + 3) m hm) rfl ?_))))
  simp only [List.cons_append, List.nil_append]
  exact den_let rfl (den_let rfl (den_let rfl (den_let rfl (den_let rfl (den_let rfl (den_let rfl (den_ret rfl rfl)))))))
/-- The other servers. -/
theorem others80 (N k : Nat) (i0 i1 i2 : Int) (l : List (D ITy)) (i4 i5 i6 i7 : Int) (v : List Bool) (n m : List Int) (hN : big ≤ N) (hv : (v.length : Int) ≤ 6) (h0 : 0 ≤ i0) (h1 : i0 < v.length) :
    Ans (Lv N (k + 1) 80 [⟨NTy, (i0, i1, i2, l, i4, i5, i6, i7, v, n, m, ())⟩]) (fun rs => ∃ o : List Int, rs = [S (.int .i64) o] ∧ (o.length : Int) + 1 = v.length ∧ ∀ y ∈ o, 0 ≤ y ∧ y < v.length) := by
  refine ans_level rfl rfl ?_ (fun rs hq => by obtain ⟨v, rfl, _⟩ := hq; rfl)
  unfold ir80
  have hb' : 10 < big := by unfold big; omega
  refine ans_let rfl (ans_let rfl (ans_loop (ans_jump rfl rfl ?_)))
  refine rounds_ans (α := List Int × Int) (enc := fun a => [S (.int .i64) a.1, I a.2, S (.int .i64) []]) (Post := fun _ rs => ∃ o : List Int, rs = [S (.int .i64) o] ∧ (o.length : Int) + 1 = v.length ∧ ∀ y ∈ o, 0 ≤ y ∧ y < v.length) (meas := fun a => ((v.length : Int) - a.2).toNat)
    (R := fun a => 0 ≤ a.2 ∧ a.2 ≤ v.length ∧ (a.1.length : Int) = (if i0 < a.2 then a.2 - 1 else a.2) ∧ ∀ y ∈ a.1, 0 ≤ y ∧ y < v.length) ?_ N ([], 0) ⟨by show (0 : Int) ≤ 0; omega, by show (0 : Int) ≤ (v.length : Int); omega, by show (0 : Int) = if i0 < 0 then (0 : Int) - 1 else 0; rw [if_neg (by omega)], by intro y hy; simp at hy⟩ (by show ((v.length : Int) - (0 : Int)).toNat < N; omega)
  rintro J ⟨o, j⟩ ⟨j0, j1, ho, hy⟩ hJ
  dsimp only at j0 j1 ho hy
  simp only [List.cons_append, List.nil_append]
  have hol : o.length ≤ 6 := by split at ho <;> omega
  refine ans_let rfl (ans_ite rfl (fun c => ?_) (fun c => ?_))
  · have c : j < v.length := of_decide_eq_true c
    have hw : IntKind.i64.wrap (j + 1) = j + 1 := wrap_id (by omega) (by omega)
    refine ans_let rfl (ans_ite rfl (fun c2 => ?_) (fun c2 => ?_))
    · have c2 : j ≠ i0 := by simpa using c2
      refine ans_let rfl (ans_app rfl rfl (show o.length + [j].length < maxRow by show o.length + 1 < 4294967296; omega) (ans_let rfl (ans_jump rfl rfl ?_)))
      rw [hw]
      refine hJ (o ++ [j], j + 1) ⟨by show 0 ≤ j + 1; omega, by show j + 1 ≤ (v.length : Int); omega, ?_, ?_⟩ (by show ((v.length : Int) - (j + 1)).toNat < ((v.length : Int) - j).toNat; omega)
      · show (((o ++ [j]).length : Nat) : Int) = if i0 < j + 1 then j + 1 - 1 else j + 1
        rw [List.length_append, List.length_singleton]
        split at ho <;> split <;> omega
      · intro y hm
        rcases List.mem_append.1 hm with hm | hm
        · exact hy y hm
        · rw [List.mem_singleton.1 hm]; exact ⟨j0, c⟩
    · have c2 : j = i0 := by simpa using c2
      refine ans_let rfl (ans_jump rfl rfl ?_)
      rw [hw]
      refine hJ (o, j + 1) ⟨by show 0 ≤ j + 1; omega, by show j + 1 ≤ (v.length : Int); omega, ?_, hy⟩ (by show ((v.length : Int) - (j + 1)).toNat < ((v.length : Int) - j).toNat; omega)
      show (o.length : Int) = if i0 < j + 1 then j + 1 - 1 else j + 1
      rw [if_pos (by omega)]
      rw [if_neg (by omega)] at ho
      omega
  · have c : ¬ j < v.length := of_decide_eq_false c
    refine ans_ret rfl ⟨o, rfl, ?_, hy⟩
    rw [if_pos (by omega)] at ho
    omega
theorem most183 (N k : Nat) (x : D NTy) (c : Int) : Lv N (k + 1) 183 [⟨NTy, x⟩, I c] = some [B (decide (IntKind.i64.wrap (2 * c) > (List.length x.2.2.2.2.2.2.2.2.1 : Int)))] := by
  refine level_den rfl rfl ?_ rfl
  unfold ir183
  exact den_let rfl (den_let rfl (den_let rfl (den_let rfl (den_ret rfl rfl))))
theorem termAt182 (N k : Nat) (x : D NTy) (p : Int) (hl : (List.length x.2.2.2.1 : Int) ≤ 500) : Ans (Lv N (k + 2) 182 [⟨NTy, x⟩, I p]) (fun rs => ∃ t : Int, rs = [I t]) := by
  refine ans_level rfl rfl ?_ (fun rs hq => by obtain ⟨v, rfl⟩ := hq; rfl)
  unfold ir182
  refine ans_let rfl (ans_let rfl (ans_call rfl (within60 N k p 1 _) rfl ?_))
  refine ans_let rfl (ans_ite rfl (fun _ => ans_ret rfl ⟨_, rfl⟩) (fun c => ?_))
  have c : 1 ≤ p ∧ p ≤ (List.length x.2.2.2.1 : Int) := by simpa using c
  have hw : IntKind.i64.wrap (p - 1) = p - 1 := wrap_id (by omega) (by omega)
  have hlt : (IntKind.i64.wrap (p - 1)).toNat < List.length x.2.2.2.1 := by rw [hw]; omega
  refine ans_let rfl ?_
  refine ans_idx rfl rfl rfl (by rw [hw]; omega) (List.getElem?_eq_getElem hlt) ?_
  exact ans_let rfl (ans_ret rfl ⟨_, rfl⟩)
set_option maxHeartbeats 2000000 in
theorem entries202 (N k : Nat) (i0 i1 i2 : Int) (l : List (D ITy)) (i4 i5 i6 i7 : Int) (v : List Bool) (n m : List Int) (to q : Int) (hN : big ≤ N) (hl : (l.length : Int) ≤ 400) (hx : ∀ y ∈ l, okI y) (h0 : 0 ≤ to) (hq : n[to.toNat]? = some q) (q0 : 1 ≤ q) (q1 : q ≤ l.length + 1) :
    Ans (Lv N (k + 5) 202 [⟨NTy, (i0, i1, i2, l, i4, i5, i6, i7, v, n, m, ())⟩, I to]) (fun rs => ∃ z : D MTy, rs = [⟨MTy, z⟩]) := by
  refine ans_level rfl rfl ?_ (fun rs hq => by obtain ⟨v, rfl⟩ := hq; rfl)
  unfold ir202
  refine ans_let rfl (ans_idx rfl rfl rfl h0 hq ?_)
  simp only [List.cons_append, List.nil_append]
  refine ans_let rfl (ans_let rfl (ans_let rfl (ans_let rfl (ans_let rfl ?_))))
  have hw : IntKind.i64.wrap (q - 1) = q - 1 := wrap_id (by omega) (by omega)
  have hw2 : IntKind.i64.wrap (IntKind.i64.wrap (q - 1) + 4) = q + 3 := by rw [hw, wrap_id (by omega) (by omega)]; omega
  simp only [List.cons_append, List.nil_append]
  refine ans_sub (x := IntKind.i64.wrap (q - 1)) (y := if IntKind.i64.wrap (IntKind.i64.wrap (q - 1) + 4) < (l.length : Int) then IntKind.i64.wrap (IntKind.i64.wrap (q - 1) + 4) else (l.length : Int)) rfl rfl rfl rfl (by decide) (by rw [hw]; omega) (by rw [hw2, hw]; split <;> omega) (by rw [hw2]; show (if q + 3 < (l.length : Int) then q + 3 else (l.length : Int)) ≤ (l.length : Int); split <;> omega) ?_
  simp only [List.cons_append, List.nil_append]
  refine ans_let rfl (ans_callA rfl (termAt182 N (k + 2) (i0, i1, i2, l, i4, i5, i6, i7, v, n, m, ()) _ (by show (l.length : Int) ≤ 500; omega)) ?_)
  rintro _ ⟨t, rfl⟩
  refine ⟨rfl, ?_⟩
  simp only [List.cons_append, List.nil_append]
  generalize hL : (l.take (if IntKind.i64.wrap (IntKind.i64.wrap (q - 1) + 4) < (l.length : Int) then IntKind.i64.wrap (IntKind.i64.wrap (q - 1) + 4) else (l.length : Int)).toNat).drop (IntKind.i64.wrap (q - 1)).toNat = L
  have hLl : (L.length : Int) ≤ 400 := by
    have : L.length ≤ l.length := by rw [← hL, List.length_drop, List.length_take]; omega
    omega
  have hLx : ∀ y ∈ L, okI y := fun y hy => hx y (by rw [← hL] at hy; exact List.mem_of_mem_take (List.mem_of_mem_drop hy))
  refine ans_call rfl (own54 N k L hLl hLx hN) rfl ?_
  simp only [List.cons_append, List.nil_append]
  refine ans_let rfl (ans_let rfl (ans_let rfl (ans_let rfl (ans_let rfl (ans_let rfl (ans_let rfl (ans_let rfl (ans_let rfl (ans_let rfl (ans_let rfl (ans_ret rfl ⟨_, rfl⟩)))))))))))
set_option maxHeartbeats 2000000 in
theorem send184 (N k : Nat) (i0 i1 i2 : Int) (l : List (D ITy)) (i4 i5 i6 i7 : Int) (v : List Bool) (n m : List Int) (o : List (D MTy)) (to q : Int) (hN : big ≤ N) (hl : (l.length : Int) ≤ 400) (hx : ∀ y ∈ l, okI y) (h0 : 0 ≤ to) (hq : n[to.toNat]? = some q) (q0 : 1 ≤ q) (q1 : q ≤ l.length + 1) (ho : o.length ≤ 20) :
    Ans (Lv N (k + 6) 184 [I to, ⟨STy, (i0, i1, i2, l, i4, i5, i6, i7, v, n, m, o, ())⟩]) (fun rs => ∃ p : List (D MTy), rs = [⟨STy, (i0, i1, i2, l, i4, i5, i6, i7, v, n, m, p, ())⟩] ∧ p.length = o.length + 1) := by
  refine ans_level rfl rfl ?_ (fun rs hq => by obtain ⟨v, rfl, _⟩ := hq; rfl)
  unfold ir184
  refine ans_let rfl (ans_let rfl (ans_callA rfl (entries202 N k i0 i1 i2 l i4 i5 i6 i7 v n m to q hN hl hx h0 hq q0 q1) ?_))
  rintro _ ⟨z, rfl⟩
  refine ⟨rfl, ?_⟩
  simp only [List.cons_append, List.nil_append]
  refine ans_let rfl (ans_app rfl rfl (show o.length + [z].length < maxRow by show o.length + 1 < 4294967296; omega) ?_)
  refine ans_let rfl (ans_let rfl (ans_ret rfl ⟨_, rfl, ?_⟩))
  rw [List.length_append]; rfl
/-- The next places of all servers lie within the log. -/
def nexts (n : List Int) (len : Int) : Prop := ∀ (i : Nat) (q : Int), n[i]? = some q → 1 ≤ q ∧ q ≤ len + 1
set_option maxHeartbeats 4000000 in
theorem sendAll133 (N k : Nat) (i0 i1 i2 : Int) (l : List (D ITy)) (i4 i5 i6 i7 : Int) (v : List Bool) (n m : List Int) (o : List (D MTy)) (hN : big ≤ N) (hl : (l.length : Int) ≤ 400) (hx : ∀ y ∈ l, okI y) (h0 : 0 ≤ i0) (h1 : i0 < v.length) (hv : (v.length : Int) ≤ 6) (hn : n.length = v.length) (hq : nexts n l.length) (ho : o.length ≤ 10) :
    Ans (Lv N (k + 7) 133 [⟨STy, (i0, i1, i2, l, i4, i5, i6, i7, v, n, m, o, ())⟩]) (fun rs => ∃ p : List (D MTy), rs = [⟨STy, (i0, i1, i2, l, i4, i5, i6, i7, v, n, m, p, ())⟩] ∧ p.length + 1 = o.length + v.length) := by
  refine ans_level rfl rfl ?_ (fun rs hq => by obtain ⟨v, rfl, _⟩ := hq; rfl)
  unfold ir133
  have hb' : 10 < big := by unfold big; omega
  refine ans_let rfl (ans_callA rfl (others80 N (k + 5) i0 i1 i2 l i4 i5 i6 i7 v n m hN hv h0 h1) ?_)
  rintro _ ⟨ot, rfl, hot, hoy⟩
  refine ⟨rfl, ?_⟩
  simp only [List.cons_append, List.nil_append]
  refine ans_let rfl (ans_loop (ans_jump rfl rfl ?_))
  refine rounds_ans (α := Int × List (D MTy)) (enc := fun a => [I a.1, S (.int .i64) ot, I i0, I i1, I i2, S ITy l, I i4, I i5, I i6, I i7, S .bool v, S (.int .i64) n, S (.int .i64) m, S MTy a.2]) (Post := fun _ rs => ∃ p : List (D MTy), rs = [⟨STy, (i0, i1, i2, l, i4, i5, i6, i7, v, n, m, p, ())⟩] ∧ p.length + 1 = o.length + v.length) (meas := fun a => ((ot.length : Int) - a.1).toNat)
    (R := fun a => 0 ≤ a.1 ∧ a.1 ≤ ot.length ∧ (a.2.length : Int) = o.length + a.1) ?_ N (0, o) ⟨by show (0 : Int) ≤ 0; omega, by show (0 : Int) ≤ (ot.length : Int); omega, by show (o.length : Int) = o.length + (0 : Int); omega⟩ (by show ((ot.length : Int) - (0 : Int)).toNat < N; omega)
  rintro J ⟨j, p⟩ ⟨j0, j1, hp⟩ hJ
  dsimp only at j0 j1 hp
  simp only [List.cons_append, List.nil_append]
  refine ans_let rfl (ans_ite rfl (fun c => ?_) (fun c => ?_))
  · have c : j < ot.length := of_decide_eq_true c
    have hlt : j.toNat < ot.length := by omega
    have hw : IntKind.i64.wrap (j + 1) = j + 1 := wrap_id (by omega) (by omega)
    obtain ⟨t0, t1⟩ := hoy _ (List.getElem_mem hlt)
    have hget : ot[j.toNat]? = some ot[j.toNat] := List.getElem?_eq_getElem hlt
    revert t0 t1 hget
    generalize ot[j.toNat] = to
    intro t0 t1 hget
    have htn : to.toNat < n.length := by omega
    obtain ⟨q0, q1⟩ := hq to.toNat _ (List.getElem?_eq_getElem htn)
    simp only [List.cons_append, List.nil_append]
    refine ans_idx rfl rfl rfl j0 hget ?_
    simp only [List.cons_append, List.nil_append]
    refine ans_idx rfl rfl rfl j0 hget ?_
    simp only [List.cons_append, List.nil_append]
    refine ans_let rfl (ans_let rfl ?_)
    refine ans_callA rfl (send184 N k i0 i1 i2 l i4 i5 i6 i7 v n m p to _ hN hl hx t0 (List.getElem?_eq_getElem htn) q0 q1 (by omega)) ?_
    rintro _ ⟨p2, rfl, hp2⟩
    refine ⟨rfl, ?_⟩
    simp only [List.cons_append, List.nil_append]
    refine ans_let rfl (ans_jump rfl rfl ?_)
    rw [hw]
    exact hJ (j + 1, p2) ⟨by show 0 ≤ j + 1; omega, by show j + 1 ≤ (ot.length : Int); omega, by show (p2.length : Int) = o.length + (j + 1); omega⟩ (by show ((ot.length : Int) - (j + 1)).toNat < ((ot.length : Int) - j).toNat; omega)
  · have c : ¬ j < ot.length := of_decide_eq_false c
    refine ans_let rfl (ans_ret rfl ⟨p, rfl, by omega⟩)
set_option maxHeartbeats 4000000 in
theorem advance132 (N k : Nat) (i0 i1 i2 : Int) (l : List (D ITy)) (i4 i5 i6 i7 : Int) (v : List Bool) (n m : List Int) (o : List (D MTy)) (hN : big ≤ N) (hl : (l.length : Int) ≤ 400) (h0 : 0 ≤ i0) (hn : i0 < n.length) (hm : i0 < m.length) (hm6 : (m.length : Int) ≤ 6) (c0 : 0 ≤ i4) (c1 : i4 ≤ l.length) :
    Ans (Lv N (k + 3) 132 [⟨STy, (i0, i1, i2, l, i4, i5, i6, i7, v, n, m, o, ())⟩]) (fun rs => ∃ c : Int, rs = [⟨STy, (i0, i1, i2, l, c, i5, i6, i7, v, n.set i0.toNat (l.length + 1), m.set i0.toNat l.length, o, ())⟩] ∧ i4 ≤ c ∧ c ≤ l.length) := by
  refine ans_level rfl rfl ?_ (fun rs hq => by obtain ⟨v, rfl, _⟩ := hq; rfl)
  unfold ir132
  have hb' : 500 < big := by unfold big; omega
  refine ans_let rfl (ans_let rfl (ans_let rfl (ans_let rfl (ans_let rfl ?_))))
  have hw : IntKind.i64.wrap ((l.length : Int) + 1) = (l.length : Int) + 1 := wrap_id (by omega) (by omega)
  have hmi : i0.toNat < m.length := by omega
  have hni : i0.toNat < n.length := by omega
  simp only [List.cons_append, List.nil_append]
  refine ans_idx rfl rfl rfl h0 (List.getElem?_eq_getElem hmi) ?_
  simp only [List.cons_append, List.nil_append]
  refine ans_setE rfl rfl rfl rfl h0 hmi ?_
  simp only [List.cons_append, List.nil_append]
  refine ans_idx rfl rfl rfl h0 (List.getElem?_eq_getElem hni) ?_
  simp only [List.cons_append, List.nil_append]
  refine ans_setE rfl rfl rfl rfl h0 hni ?_
  rw [hw]
  have hml : (m.set i0.toNat (l.length : Int)).length = m.length := List.length_set ..
  generalize hM : m.set i0.toNat (l.length : Int) = M at hml
  generalize hNx : n.set i0.toNat ((l.length : Int) + 1) = Nx
  simp only [List.cons_append, List.nil_append]
  refine ans_let rfl (ans_loop (ans_jump rfl rfl ?_))
  refine rounds_ans (α := Int) (enc := fun a => [I a]) (Post := fun _ rs => ∃ c : Int, rs = [⟨STy, (i0, i1, i2, l, c, i5, i6, i7, v, Nx, M, o, ())⟩] ∧ i4 ≤ c ∧ c ≤ l.length) (meas := fun a => (a - i4).toNat)
    (R := fun a => i4 ≤ a ∧ a ≤ l.length) ?_ N (l.length : Int) ⟨c1, Int.le_refl _⟩ (by show ((l.length : Int) - i4).toNat < N; omega)
  rintro J pl ⟨p0, p1⟩ hJ
  simp only [List.cons_append, List.nil_append]
  refine ans_let rfl (ans_ite rfl (fun c => ?_) (fun c => ?_))
  · have c : pl > i4 := of_decide_eq_true c
    have hwp : IntKind.i64.wrap (pl - 1) = pl - 1 := wrap_id (by omega) (by omega)
    have hnext := hJ (pl - 1) ⟨by omega, by omega⟩ (by omega)
    simp only [List.cons_append, List.nil_append]
    refine ans_let rfl (ans_loop (ans_jump rfl rfl ?_))
    refine rounds_ans (α := Int × Int) (enc := fun a => [I a.1, I a.2]) (Post := fun _ rs => ∃ c : Int, rs = [⟨STy, (i0, i1, i2, l, c, i5, i6, i7, v, Nx, M, o, ())⟩] ∧ i4 ≤ c ∧ c ≤ l.length) (meas := fun a => ((M.length : Int) - a.2).toNat)
      (R := fun a => 0 ≤ a.2 ∧ a.2 ≤ M.length) ?_ N (0, 0) ⟨by show (0 : Int) ≤ 0; omega, by show (0 : Int) ≤ (M.length : Int); omega⟩ (by show ((M.length : Int) - 0).toNat < N; omega)
    rintro J2 ⟨ct, j⟩ ⟨j0, j1⟩ hJ2
    dsimp only at j0 j1
    simp only [List.cons_append, List.nil_append]
    refine ans_let rfl (ans_ite rfl (fun c2 => ?_) (fun c2 => ?_))
    · have c2 : j < M.length := of_decide_eq_true c2
      have hlt : j.toNat < M.length := by omega
      have hwj : IntKind.i64.wrap (j + 1) = j + 1 := wrap_id (by omega) (by omega)
      simp only [List.cons_append, List.nil_append]
      refine ans_idx rfl rfl rfl j0 (List.getElem?_eq_getElem hlt) ?_
      simp only [List.cons_append, List.nil_append]
      refine ans_idx rfl rfl rfl j0 (List.getElem?_eq_getElem hlt) ?_
      simp only [List.cons_append, List.nil_append]
      refine ans_let rfl (ans_let rfl (ans_ite rfl (fun _ => ?_) (fun _ => ?_)))
      · refine ans_let rfl (ans_let rfl (ans_jump rfl rfl ?_))
        rw [hwj]
        exact hJ2 (_, j + 1) ⟨by show 0 ≤ j + 1; omega, by show j + 1 ≤ (M.length : Int); omega⟩ (by show ((M.length : Int) - (j + 1)).toNat < ((M.length : Int) - j).toNat; omega)
      · refine ans_let rfl (ans_jump rfl rfl ?_)
        rw [hwj]
        exact hJ2 (_, j + 1) ⟨by show 0 ≤ j + 1; omega, by show j + 1 ≤ (M.length : Int); omega⟩ (by show ((M.length : Int) - (j + 1)).toNat < ((M.length : Int) - j).toNat; omega)
    · refine ans_let rfl (ans_callA rfl (termAt182 N k (i0, i1, i2, l, i4, i5, i6, i7, v, Nx, M, ()) pl (by show (l.length : Int) ≤ 500; omega)) ?_)
      rintro _ ⟨t, rfl⟩
      refine ⟨rfl, ?_⟩
      simp only [List.cons_append, List.nil_append]
      refine ans_let rfl (ans_ite rfl (fun _ => ?_) (fun _ => ?_))
      · refine ans_let rfl (ans_call rfl (most183 N (k + 1) (i0, i1, i2, l, i4, i5, i6, i7, v, Nx, M, ()) ct) rfl ?_)
        simp only [List.cons_append, List.nil_append]
        refine ans_ite rfl (fun _ => ?_) (fun _ => ?_)
        · exact ans_let rfl (ans_let rfl (ans_ret rfl ⟨pl, rfl, by omega, p1⟩))
        · refine ans_let rfl (ans_jump rfl rfl ?_)
          rw [hwp]
          exact hnext
      · refine ans_let rfl (ans_jump rfl rfl ?_)
        rw [hwp]
        exact hnext
  · have c : ¬ pl > i4 := of_decide_eq_false c
    exact ans_let rfl (ans_ret rfl ⟨i4, rfl, Int.le_refl _, c1⟩)
end Go.Proofs.Ytecleaangfcloaa.VtFnProposes
