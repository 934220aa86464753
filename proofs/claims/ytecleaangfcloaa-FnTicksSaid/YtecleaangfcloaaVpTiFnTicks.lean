/- A tick of a valid server leaves one: the plain law. Lemmas alone, no statement. -/
import Derived.Test.YtecleaangfcloaaVpDbFnTicks
import Derived.Test.YtecleaangfcloaaVpSeFnTicks
namespace Go.Proofs.Ytecleaangfcloaa.VtFnTicks
set_option linter.unusedVariables false
set_option linter.unusedSimpArgs false
set_option linter.unnecessarySimpa false
open Go Go.Vm
theorem upAll_get {f : Nat → Bool} : ∀ {d i : Nat}, upAll f i d = true → ∀ j, i ≤ j → j < i + d → f j = true
  | 0, i, _, j, h1, h2 => by omega
  | d + 1, i, h, j, h1, h2 => by
    unfold upAll at h
    simp only [Bool.and_eq_true] at h
    by_cases hj : i = j
    · subst hj; exact h.1
    · exact upAll_get h.2 j (by omega) (by omega)
theorem upAll_of {f : Nat → Bool} : ∀ {d i : Nat}, (∀ j, i ≤ j → j < i + d → f j = true) → upAll f i d = true
  | 0, i, _ => rfl
  | d + 1, i, h => by
    unfold upAll
    simp only [Bool.and_eq_true]
    exact ⟨h i (Nat.le_refl _) (by omega), upAll_of fun j h1 h2 => h j (by omega) (by omega)⟩
theorem logOk_mono {a b : Int} (h : a ≤ b) : ∀ {l : List (D ITy)} {t : Int}, logOk a t l = true → logOk b t l = true
  | [], _, _ => rfl
  | x :: l, t, hl => by
    unfold logOk at hl ⊢
    simp only [Bool.and_eq_true, decide_eq_true_eq] at hl ⊢
    exact ⟨hl.1, hl.2.1, Int.le_trans hl.2.2.1 h, logOk_mono h hl.2.2.2⟩
theorem logOk_snoc {a b : Int} (h : a ≤ b) {y : D ITy} (hy : itemOk y = true) (hb : y.1 = b) : ∀ {l : List (D ITy)} {t : Int}, t ≤ b → logOk a t l = true → logOk b t (l ++ [y]) = true
  | [], t, ht, _ => by
    show logOk b t [y] = true
    unfold logOk
    simp only [Bool.and_eq_true, decide_eq_true_eq]
    exact ⟨hy, Int.le_trans ht (Int.le_of_eq hb.symm), Int.le_of_eq hb, rfl⟩
  | x :: l, t, ht, hl => by
    unfold logOk at hl
    simp only [Bool.and_eq_true, decide_eq_true_eq] at hl
    show logOk b t (x :: (l ++ [y])) = true
    unfold logOk
    simp only [Bool.and_eq_true, decide_eq_true_eq]
    exact ⟨hl.1, hl.2.1, Int.le_trans hl.2.2.1 h, logOk_snoc h hy hb (Int.le_trans hl.2.2.1 h) hl.2.2.2⟩
/-- What is asked of a node, written out. -/
theorem nodeOk_iff {i0 i1 i2 : Int} {l : List (D ITy)} {i4 i5 i6 i7 : Int} {v : List Bool} {n m : List Int} {s : Int} : nodeOk i0 i1 i2 l i4 i5 i6 i7 v n m s = true ↔
    (1 ≤ s ∧ s ≤ 5 ∧ 0 ≤ i0 ∧ i0 < s ∧ 0 ≤ i1 ∧ i1 ≤ 100000 ∧ -1 ≤ i2 ∧ i2 ≤ s - 1 ∧ -1 ≤ i6 ∧ i6 ≤ s - 1 ∧ (l.length : Int) ≤ 400) ∧ logOk i1 1 l = true ∧
    (0 ≤ i4 ∧ i4 ≤ (l.length : Int) ∧ 0 ≤ i5 ∧ i5 ≤ 2 ∧ 0 ≤ i7 ∧ i7 ≤ 20 ∧ (v.length : Int) = s ∧ (n.length : Int) = s ∧ (m.length : Int) = s) ∧
    roleB i0 i1 i2 i5 i6 v = true ∧ upAll (perAt i5 l.length n m) 0 s.toNat = true := by
  unfold nodeOk rng1 rng2
  simp only [Bool.and_eq_true, decide_eq_true_eq]
theorem nexts_of {l : List (D ITy)} {n m : List Int} {s : Int} (hn : (n.length : Int) = s) (hm : (m.length : Int) = s) (h : upAll (perAt 2 l.length n m) 0 s.toNat = true) : nexts n l.length := by
  intro i q hq
  have hi : i < n.length := (List.getElem?_eq_some_iff.1 hq).1
  have him : i < m.length := by omega
  have := upAll_get h i (Nat.zero_le _) (by omega)
  unfold perAt at this
  rw [hq, List.getElem?_eq_getElem him] at this
  simp only [if_true, Bool.and_eq_true, decide_eq_true_eq] at this
  exact this.1
theorem follow (N k : Nat) (t i0 i1 i2 : Int) (l : List (D ITy)) (i4 i5 i6 i7 : Int) (v : List Bool) (n m : List Int) (o : List (D MTy)) (ht : t > i1) (hv : v.length ≠ 0) (hn : n.length ≠ 0) (hm : m.length ≠ 0) :
    Ans (Lv N (k + 1) 137 [I t, ⟨STy, (i0, i1, i2, l, i4, i5, i6, i7, v, n, m, o, ())⟩]) (fun rs => rs = [⟨STy, (i0, t, -1, l, i4, 0, -1, i7, List.replicate v.length false, List.replicate n.length 0, List.replicate m.length 0, o, ())⟩]) := by
  refine ans_level rfl rfl ?_ (fun rs hq => by rw [hq]; rfl)
  unfold ir137
  refine ans_let rfl (ans_ite rfl (fun c => ?_) (fun c => absurd ht (of_decide_eq_false c)))
  refine ans_let rfl (ans_let rfl (ans_let rfl (ans_let rfl (ans_let rfl ?_))))
  simp only [List.cons_append, List.nil_append]
  refine ans_clr rfl rfl hv (ans_let rfl ?_)
  simp only [List.cons_append, List.nil_append]
  refine ans_clr rfl rfl hn (ans_let rfl ?_)
  simp only [List.cons_append, List.nil_append]
  refine ans_clr rfl rfl hm (ans_let rfl (ans_ret rfl rfl))
theorem lastTerm (N k : Nat) (x : D NTy) (hl : (List.length x.2.2.2.1 : Int) ≤ 500) : Ans (Lv N (k + 3) 139 [⟨NTy, x⟩]) (fun rs => ∃ t : Int, rs = [I t]) := by
  refine ans_level rfl rfl ?_ (fun rs hq => by obtain ⟨v, rfl⟩ := hq; rfl)
  unfold ir139
  obtain ⟨x0, x1, x2, xl, x4, x5, x6, x7, xv, xn, xm, xu⟩ := x
  refine ans_let rfl (ans_let rfl (ans_let rfl (ans_callA rfl (termAt182 N k (x0, x1, x2, xl, x4, x5, x6, x7, xv, xn, xm, ()) _ hl) ?_)))
  rintro _ ⟨t, rfl⟩
  exact ⟨rfl, ans_ret rfl ⟨t, rfl⟩⟩
/-- An item that does nothing. -/
def noop (t : Int) : D ITy := (t, -1, 0, 0, [], [], 0, ())
theorem noop_ok {t : Int} (h1 : 1 ≤ t) (h2 : t ≤ 100000) : itemOk (noop t) = true := by
  have h : cmdOk (-1) 0 0 [] [] 0 = true := by decide
  unfold itemOk noop
  simp only [Bool.and_eq_true, decide_eq_true_eq]
  exact ⟨⟨h1, h2⟩, h⟩
theorem noop_short (t : Int) : okI (noop t) := ⟨by show (0 : Nat) < big; decide, by show (0 : Nat) < big; decide⟩
set_option maxHeartbeats 8000000 in
/-- Who is alone leads at once. -/
theorem lead (N k : Nat) (i1 i2 : Int) (l : List (D ITy)) (i4 i5 i6 i7 n0 m0 : Int) (o : List (D MTy)) (hN : big ≤ N) (hl : (l.length : Int) ≤ 400) (hx : ∀ y ∈ l, okI y) (c0 : 0 ≤ i4) (c1 : i4 ≤ l.length) (ho : o.length ≤ 10) :
    Ans (Lv N (k + 8) 138 [⟨STy, (0, i1, i2, l, i4, i5, i6, i7, [true], [n0], [m0], o, ())⟩]) (fun rs => ∃ (q : List (D ITy)) (c : Int) (p : List (D MTy)), rs = [⟨STy, (0, i1, i2, q, c, 2, 0, 0, [true], [(q.length : Int) + 1], [(q.length : Int)], p, ())⟩] ∧
      (q = l ∨ ((l.length : Int) < 400 ∧ q = l ++ [noop i1])) ∧ i4 ≤ c ∧ c ≤ q.length ∧ p.length = o.length) := by
  refine ans_level rfl rfl ?_ (fun rs hq => by obtain ⟨q, c, p, rfl, _⟩ := hq; rfl)
  unfold ir138
  have hb' : 500 < big := by unfold big; omega
  refine ans_let rfl (ans_loop (ans_jump rfl rfl ?_))
  refine rounds_ans (α := Int × Int) (enc := fun a => [I a.1, I a.2]) (Post := fun _ rs => ∃ (q : List (D ITy)) (c : Int) (p : List (D MTy)), rs = [⟨STy, (0, i1, i2, q, c, 2, 0, 0, [true], [(q.length : Int) + 1], [(q.length : Int)], p, ())⟩] ∧
      (q = l ∨ ((l.length : Int) < 400 ∧ q = l ++ [noop i1])) ∧ i4 ≤ c ∧ c ≤ q.length ∧ p.length = o.length) (meas := fun a => (2 - a.2).toNat)
    (R := fun a => (a.1 = 0 ∧ a.2 = 0) ∨ (a.1 = 1 ∧ a.2 = 1)) ?_ N (0, 0) (.inl ⟨rfl, rfl⟩) (by show (2 - (0 : Int)).toNat < N; omega)
  rintro J ⟨ct, j⟩ hR hJ
  dsimp only at hR
  simp only [List.cons_append, List.nil_append]
  rcases hR with ⟨rfl, rfl⟩ | ⟨rfl, rfl⟩
  · refine ans_let rfl (ans_ite (b := true) rfl (fun _ => ?_) (fun h => by cases h))
    refine ans_joinP (α := Int) (fun a => [I a]) (fun a => a = 1) (fun a ha => ?_) (fun K hK => ?_)
    · subst ha
      simp only [List.cons_append, List.nil_append]
      refine ans_let rfl (ans_jump rfl rfl ?_)
      exact hJ (1, 1) (.inr ⟨rfl, rfl⟩) (by show (2 - (1 : Int)).toNat < (2 - (0 : Int)).toNat; decide)
    · refine ans_idx rfl rfl rfl (Int.le_refl 0) rfl ?_
      refine ans_idx rfl rfl rfl (Int.le_refl 0) rfl ?_
      refine ans_let rfl (ans_ite (b := true) rfl (fun _ => ?_) (fun h => by cases h))
      refine ans_let rfl (ans_jump rfl rfl (hK 1 rfl))
  · refine ans_let rfl (ans_ite (b := false) rfl (fun h => by cases h) (fun _ => ?_))
    refine ans_let rfl (ans_call rfl (most183 N (k + 6) (0, i1, i2, l, i4, i5, i6, i7, [true], [n0], [m0], ()) 1) rfl ?_)
    simp only [List.cons_append, List.nil_append]
    refine ans_let rfl (ans_ite (b := false) rfl (fun h => by cases h) (fun _ => ?_))
    refine ans_let rfl (ans_let rfl (ans_let rfl (ans_let rfl (ans_loop (ans_jump rfl rfl ?_)))))
    simp only [List.cons_append, List.nil_append]
    refine rounds_ans (α := Int × Int × Int) (enc := fun a => [I a.1, I 0, I i1, I i2, S ITy l, I i4, I 2, I 0, I 0, S .bool [true], S (.int .i64) [a.2.1], S (.int .i64) [a.2.2], S MTy o]) (Post := fun _ rs => ∃ (q : List (D ITy)) (c : Int) (p : List (D MTy)), rs = [⟨STy, (0, i1, i2, q, c, 2, 0, 0, [true], [(q.length : Int) + 1], [(q.length : Int)], p, ())⟩] ∧
        (q = l ∨ ((l.length : Int) < 400 ∧ q = l ++ [noop i1])) ∧ i4 ≤ c ∧ c ≤ q.length ∧ p.length = o.length) (meas := fun a => (2 - a.1).toNat)
      (R := fun a => a.1 = 0 ∨ a.1 = 1) ?_ N (0, n0, m0) (.inl rfl) (by show (2 - (0 : Int)).toNat < N; omega)
    rintro K ⟨j, nn, mm⟩ hR hK
    dsimp only at hR
    simp only [List.cons_append, List.nil_append]
    rcases hR with rfl | rfl
    · refine ans_let rfl (ans_ite (b := true) rfl (fun _ => ?_) (fun h => by cases h))
      refine ans_let rfl (ans_let rfl (ans_let rfl (ans_let rfl ?_)))
      simp only [List.cons_append, List.nil_append]
      refine ans_idx rfl rfl rfl (Int.le_refl 0) rfl ?_
      simp only [List.cons_append, List.nil_append]
      refine ans_setE rfl rfl rfl rfl (Int.le_refl 0) (by show 0 < 1; decide) ?_
      simp only [List.cons_append, List.nil_append]
      refine ans_idx rfl rfl rfl (Int.le_refl 0) rfl ?_
      simp only [List.cons_append, List.nil_append]
      refine ans_setE rfl rfl rfl rfl (Int.le_refl 0) (by show 0 < 1; decide) ?_
      simp only [List.cons_append, List.nil_append]
      refine ans_let rfl (ans_jump rfl rfl ?_)
      exact hK (1, _, _) (.inr rfl) (by show (2 - (1 : Int)).toNat < (2 - (0 : Int)).toNat; decide)
    · refine ans_let rfl (ans_ite (b := false) rfl (fun h => by cases h) (fun _ => ?_))
      refine ans_joinP (α := List (D ITy)) (fun a => [S ITy a]) (fun q => q = l ∨ ((l.length : Int) < 400 ∧ q = l ++ [noop i1])) (fun q hq => ?_) (fun L hL => ?_)
      · have hql : (q.length : Int) ≤ 400 ∧ l.length ≤ q.length := by
          rcases hq with rfl | ⟨h, rfl⟩
          · exact ⟨hl, Nat.le_refl _⟩
          · rw [List.length_append, List.length_singleton]; omega
        have hqx : ∀ y ∈ q, okI y := by
          rcases hq with rfl | ⟨_, rfl⟩
          · exact hx
          · intro y hy
            rcases List.mem_append.1 hy with hy | hy
            · exact hx y hy
            · rw [List.mem_singleton.1 hy]; exact noop_short i1
        simp only [List.cons_append, List.nil_append]
        refine ans_let rfl (ans_callA rfl (advance132 N (k + 4) 0 i1 i2 q i4 2 0 0 [true] [nn] [mm] o hN hql.1 (Int.le_refl 0) (by show (0 : Int) < 1; decide) (by show (0 : Int) < 1; decide) (by show (1 : Int) ≤ 6; decide) c0 (by omega)) ?_)
        rintro _ ⟨c, rfl, c2, c3⟩
        refine ⟨rfl, ?_⟩
        simp only [List.cons_append, List.nil_append]
        refine ans_let rfl (ans_callA rfl (sendAll133 N k 0 i1 i2 q c 2 0 0 [true] [(q.length : Int) + 1] [(q.length : Int)] o hN hql.1 hqx (Int.le_refl 0) (by show (0 : Int) < 1; decide) (by show (1 : Int) ≤ 6; decide) rfl ?_ ho) ?_)
        · intro i z hz
          match i, hz with
          | 0, hz =>
            simp only [List.getElem?_cons_zero, Option.some.injEq] at hz
            omega
          | i + 1, hz => simp at hz
        · rintro _ ⟨p, rfl, hp⟩
          refine ⟨rfl, ?_⟩
          simp only [List.cons_append, List.nil_append]
          refine ans_let rfl (ans_ret rfl ⟨q, c, p, rfl, hq, c2, c3, ?_⟩)
          have : p.length + 1 = o.length + 1 := hp
          omega
      · refine ans_let rfl (ans_let rfl (ans_ite rfl (fun c => ?_) (fun _ => ans_jump rfl rfl (hL l (.inl rfl)))))
        have c : (l.length : Int) < 400 := of_decide_eq_true c
        refine ans_let rfl (ans_call rfl (no128 N (k + 6)) rfl ?_)
        simp only [List.cons_append, List.nil_append]
        refine ans_let rfl (ans_let rfl (ans_let rfl (ans_let rfl ?_)))
        simp only [List.cons_append, List.nil_append]
        refine ans_app rfl rfl (show l.length + [noop i1].length < maxRow by show l.length + 1 < 4294967296; omega) ?_
        refine ans_let rfl (ans_jump rfl rfl (hL (l ++ [noop i1]) (.inr ⟨c, rfl⟩)))
/-- What a tick makes of a valid server. -/
def Ticked (i0 i1 : Int) (i4 i5 i7 s : Int) (rs : List Dy) : Prop := ∃ (j1 j2 : Int) (l : List (D ITy)) (c j5 j6 j7 : Int) (v : List Bool) (n m : List Int) (p : List (D MTy)), rs = [⟨STy, (i0, j1, j2, l, c, j5, j6, j7, v, n, m, p, ())⟩] ∧
  nodeOk i0 j1 j2 l c j5 j6 j7 v n m s = true ∧ (∀ y ∈ l, okI y) ∧ i4 ≤ c ∧ (i5 = 2 → (p.length : Int) = s - 1 ∧ j1 = i1 ∧ j5 = 2) ∧
  (i5 ≠ 2 → (i7 + 1 ≥ 3 + 2 * i0 ∧ i1 < 100000) → j1 = i1 + 1 ∧ j2 = i0 ∧ (p.length : Int) = s - 1 ∧ j5 ≠ 0) ∧ (i5 ≠ 2 → ¬(i7 + 1 ≥ 3 + 2 * i0 ∧ i1 < 100000) → j1 = i1 ∧ p.length = 0 ∧ j5 = i5)
theorem ticked_tys {i0 i1 i4 i5 i7 s : Int} {rs : List Dy} (h : Ticked i0 i1 i4 i5 i7 s rs) : rs.map (·.1) = [STy] := by
  obtain ⟨j1, j2, l, c, j5, j6, j7, v, n, m, p, rfl, _⟩ := h; rfl
theorem perAt_zero {i5 len : Int} (h : i5 ≠ 2) (a b d i : Nat) : upAll (perAt i5 len (List.replicate a 0) (List.replicate b 0)) i d = true := by
  refine upAll_of fun j _ _ => ?_
  unfold perAt
  split
  · rename_i x y hx hy
    rw [List.getElem?_replicate] at hx hy
    rw [if_neg h]
    split at hx <;> split at hy <;> simp_all
  · rfl
set_option maxHeartbeats 8000000 in
theorem tick (N k : Nat) (i0 i1 i2 : Int) (l : List (D ITy)) (i4 i5 i6 i7 : Int) (v : List Bool) (n m : List Int) (s : Int) (hN : big ≤ N) (hx : ∀ y ∈ l, okI y) (hk : nodeOk i0 i1 i2 l i4 i5 i6 i7 v n m s = true) :
    Ans (Lv N (k + 9) 72 [⟨STy, (i0, i1, i2, l, i4, i5, i6, i7, v, n, m, [], ())⟩]) (Ticked i0 i1 i4 i5 i7 s) := by
  refine ans_level rfl rfl ?_ (fun rs hq => ticked_tys hq)
  unfold ir72
  have hb' : 500 < big := by unfold big; omega
  obtain ⟨⟨s1, s5, a0, a1, t0, t1, vo0, vo1, le0, le1, hl⟩, hlog, ⟨c0, c1, r0, r1, w0, w1, hv, hn, hm⟩, hrole, hup⟩ := nodeOk_iff.1 hk
  refine ans_let rfl (ans_ite rfl (fun c => ?_) (fun c => ?_))
  · -- who leads
    have c : i5 = 2 := of_decide_eq_true c
    subst c
    refine ans_let rfl (ans_callA rfl (sendAll133 N (k + 1) i0 i1 i2 l i4 2 i6 i7 v n m [] hN hl hx a0 (by omega) (by omega) (by omega) (nexts_of hn hm hup) (by show 0 ≤ 10; decide)) ?_)
    rintro _ ⟨p, rfl, hp⟩
    refine ⟨rfl, ?_⟩
    simp only [List.cons_append, List.nil_append]
    have hp : p.length + 1 = 0 + v.length := hp
    refine ans_let rfl (ans_ret rfl ⟨i1, i2, l, i4, 2, i6, i7, v, n, m, p, rfl, hk, hx, Int.le_refl _, fun _ => ⟨by omega, rfl, rfl⟩, fun h => absurd rfl h, fun h => absurd rfl h⟩)
  have ne5 : i5 ≠ 2 := of_decide_eq_false c
  clear c
  have hw : IntKind.i64.wrap (i7 + 1) = i7 + 1 := wrap_id (by omega) (by omega)
  have hid : IntKind.i64.wrap (2 * i0) = 2 * i0 := wrap_id (by omega) (by omega)
  have hid2 : IntKind.i64.wrap (3 + IntKind.i64.wrap (2 * i0)) = 3 + 2 * i0 := by rw [hid, wrap_id (by omega) (by omega)]
  have ht : IntKind.i64.wrap (i1 + 1) = i1 + 1 := wrap_id (by omega) (by omega)
  refine ans_let rfl (ans_let rfl ?_)
  rw [hw]
  simp only [List.cons_append, List.nil_append]
  refine ans_joinP (α := Bool) (fun b => [B b]) (fun b => b = !decide (i7 + 1 ≥ 3 + 2 * i0 ∧ i1 < 100000)) (fun b hb => ?_) (fun J hJ => ?_)
  · simp only [List.cons_append, List.nil_append]
    refine ans_ite rfl (fun d => ?_) (fun d => ?_)
    · -- who waits
      have hd : ¬(i7 + 1 ≥ 3 + 2 * i0 ∧ i1 < 100000) := by
        intro hh
        rw [hb, decide_eq_true hh] at d; cases d
      refine ans_let rfl (ans_let rfl (ans_let rfl (ans_ret rfl ⟨i1, i2, l, i4, i5, i6, if i7 + 1 < 20 then i7 + 1 else 20, v, n, m, [], rfl, ?_, hx, Int.le_refl _, fun h => absurd h ne5, fun _ h => absurd h hd, fun _ _ => ⟨rfl, rfl, rfl⟩⟩)))
      refine nodeOk_iff.2 ⟨⟨s1, s5, a0, a1, t0, t1, vo0, vo1, le0, le1, hl⟩, hlog, ⟨c0, c1, r0, r1, ?_, ?_, hv, hn, hm⟩, hrole, hup⟩ <;> split <;> omega
    · -- who stands
      have hd : i7 + 1 ≥ 3 + 2 * i0 ∧ i1 < 100000 := Decidable.byContradiction fun hh => by rw [hb, decide_eq_false hh] at d; cases d
      refine ans_let rfl (ans_let rfl ?_)
      rw [ht]
      simp only [List.cons_append, List.nil_append]
      refine ans_callA rfl (follow N (k + 7) (i1 + 1) i0 i1 i2 l i4 i5 i6 (i7 + 1) v n m [] (by omega) (by omega) (by omega) (by omega)) ?_
      rintro _ rfl
      refine ⟨rfl, ?_⟩
      have hV0l : (List.replicate v.length false).length = v.length := List.length_replicate ..
      have hN0l : (List.replicate n.length (0 : Int)).length = n.length := List.length_replicate ..
      have hM0l : (List.replicate m.length (0 : Int)).length = m.length := List.length_replicate ..
      generalize hV0 : List.replicate v.length false = V0 at hV0l
      generalize hN0 : List.replicate n.length (0 : Int) = N0 at hN0l
      generalize hM0 : List.replicate m.length (0 : Int) = M0 at hM0l
      simp only [List.cons_append, List.nil_append]
      refine ans_let rfl (ans_let rfl (ans_let rfl (ans_let rfl ?_)))
      simp only [List.cons_append, List.nil_append]
      have hlt : i0.toNat < V0.length := by omega
      refine ans_idx rfl rfl rfl a0 (List.getElem?_eq_getElem hlt) ?_
      simp only [List.cons_append, List.nil_append]
      refine ans_setE rfl rfl rfl rfl a0 hlt ?_
      simp only [List.cons_append, List.nil_append]
      have hvl : (V0.set i0.toNat true).length = v.length := by rw [List.length_set, hV0l]
      refine ans_let rfl (ans_let rfl (ans_ite rfl (fun e => ?_) (fun e => ?_)))
      · -- alone
        have e : ((V0.set i0.toNat true).length : Int) = 1 := of_decide_eq_true e
        rw [hvl] at e
        have hs1 : s = 1 := by omega
        have hi0 : i0 = 0 := by omega
        subst hi0
        have hv1 : v.length = 1 := by omega
        have hn1 : n.length = 1 := by omega
        have hm1 : m.length = 1 := by omega
        have hV1 : V0 = [false] := by rw [← hV0, hv1]; rfl
        have hN1 : N0 = [0] := by rw [← hN0, hn1]; rfl
        have hM1 : M0 = [0] := by rw [← hM0, hm1]; rfl
        clear hV0 hN0 hM0 hV0l hN0l hM0l hvl e
        subst hV1 hN1 hM1
        simp only [List.cons_append, List.nil_append]
        refine ans_let rfl (ans_callA rfl (lead N k (i1 + 1) 0 l i4 1 (-1) 0 0 0 [] hN hl hx c0 c1 (by show 0 ≤ 10; decide)) ?_)
        rintro _ ⟨q, cc, p, rfl, hq, c2, c3, hp⟩
        refine ⟨rfl, ?_⟩
        simp only [List.cons_append, List.nil_append]
        have hp : p.length = 0 := hp
        refine ans_let rfl (ans_ret rfl ⟨i1 + 1, 0, q, cc, 2, 0, 0, [true], [(q.length : Int) + 1], [(q.length : Int)], p, rfl, ?_, ?_, c2, fun h => absurd h ne5, fun _ _ => ⟨rfl, rfl, by omega, by decide⟩, fun _ h => absurd hd h⟩)
        · have hql : (q.length : Int) ≤ 400 := by
            rcases hq with rfl | ⟨h, rfl⟩
            · exact hl
            · rw [List.length_append, List.length_singleton]; omega
          have hqlog : logOk (i1 + 1) 1 q = true := by
            rcases hq with rfl | ⟨h, rfl⟩
            · exact logOk_mono (by omega) hlog
            · exact logOk_snoc (b := i1 + 1) (by omega) (noop_ok (by omega) (by omega)) rfl (by omega) hlog
          refine nodeOk_iff.2 ⟨⟨s1, s5, by omega, a1, by omega, by omega, by omega, by omega, by omega, by omega, hql⟩, hqlog, ⟨by omega, c3, by omega, by omega, by omega, by omega, ?_, ?_, ?_⟩, ?_, ?_⟩
          · show (1 : Int) = s; omega
          · show (1 : Int) = s; omega
          · show (1 : Int) = s; omega
          · unfold roleB
            have h1 : decide (i1 + 1 < 1) = false := decide_eq_false (by omega)
            rw [h1]; rfl
          · rw [hs1]
            refine upAll_of fun j _ hj => ?_
            have : j = 0 := by omega
            subst this
            unfold perAt
            simp only [List.getElem?_cons_zero, if_true, Bool.and_eq_true, decide_eq_true_eq]
            omega
        · rcases hq with rfl | ⟨h, rfl⟩
          · exact hx
          · intro y hy
            rcases List.mem_append.1 hy with hy | hy
            · exact hx y hy
            · rw [List.mem_singleton.1 hy]; exact noop_short (i1 + 1)
      · -- with others
        have e : ¬ ((V0.set i0.toNat true).length : Int) = 1 := of_decide_eq_false e
        generalize hV : V0.set i0.toNat true = V at hvl e
        refine ans_let rfl (ans_callA rfl (others80 N (k + 7) i0 (i1 + 1) i0 l i4 1 (-1) 0 V N0 M0 hN (by omega) a0 (by omega)) ?_)
        rintro _ ⟨ot, rfl, hot, hoy⟩
        refine ⟨rfl, ?_⟩
        simp only [List.cons_append, List.nil_append]
        refine ans_let rfl (ans_loop (ans_jump rfl rfl ?_))
        simp only [List.cons_append, List.nil_append]
        have hok : nodeOk i0 (i1 + 1) i0 l i4 1 (-1) 0 V N0 M0 s = true := by
          refine nodeOk_iff.2 ⟨⟨s1, s5, a0, a1, by omega, by omega, by omega, by omega, by omega, by omega, hl⟩, logOk_mono (by omega) hlog, ⟨c0, c1, by omega, by omega, by omega, by omega, by omega, by omega, by omega⟩, ?_, by rw [← hN0, ← hM0]; exact perAt_zero (by decide) _ _ _ _⟩
          unfold roleB
          have h1 : decide (i1 + 1 < 1) = false := decide_eq_false (by omega)
          have h2 : decide (i0 = i0) = true := decide_eq_true rfl
          rw [h1, h2]; rfl
        refine rounds_ans (α := Int × List (D MTy)) (enc := fun a => [I a.1, S (.int .i64) ot, I i0, I (i1 + 1), I i0, S ITy l, I i4, I 1, I (-1), I 0, S .bool V, S (.int .i64) N0, S (.int .i64) M0, S MTy a.2]) (Post := fun _ => Ticked i0 i1 i4 i5 i7 s) (meas := fun a => ((ot.length : Int) - a.1).toNat)
          (R := fun a => 0 ≤ a.1 ∧ a.1 ≤ ot.length ∧ (a.2.length : Int) = a.1) ?_ N (0, []) ⟨by show (0 : Int) ≤ 0; omega, by show (0 : Int) ≤ (ot.length : Int); omega, rfl⟩ (by show ((ot.length : Int) - (0 : Int)).toNat < N; omega)
        rintro K ⟨j, p⟩ ⟨j0, j1, hp⟩ hK
        dsimp only at j0 j1 hp
        simp only [List.cons_append, List.nil_append]
        refine ans_let rfl (ans_ite rfl (fun e2 => ?_) (fun e2 => ?_))
        · have e2 : j < ot.length := of_decide_eq_true e2
          have hlt2 : j.toNat < ot.length := by omega
          have hwj : IntKind.i64.wrap (j + 1) = j + 1 := wrap_id (by omega) (by omega)
          simp only [List.cons_append, List.nil_append]
          refine ans_idx rfl rfl rfl j0 (List.getElem?_eq_getElem hlt2) ?_
          simp only [List.cons_append, List.nil_append]
          refine ans_idx rfl rfl rfl j0 (List.getElem?_eq_getElem hlt2) ?_
          simp only [List.cons_append, List.nil_append]
          refine ans_let rfl (ans_let rfl (ans_let rfl (ans_let rfl ?_)))
          refine ans_callA rfl (lastTerm N (k + 5) (i0, i1 + 1, i0, l, i4, 1, -1, 0, V, N0, M0, ()) (by show (l.length : Int) ≤ 500; omega)) ?_
          rintro _ ⟨lt, rfl⟩
          refine ⟨rfl, ?_⟩
          simp only [List.cons_append, List.nil_append]
          refine ans_let rfl (ans_let rfl (ans_let rfl (ans_let rfl (ans_let rfl (ans_let rfl (ans_let rfl (ans_let rfl ?_)))))))
          simp only [List.cons_append, List.nil_append]
          refine ans_app (m := [_]) rfl rfl (show p.length + 1 < 4294967296 by omega) ?_
          refine ans_let rfl (ans_let rfl (ans_jump rfl rfl ?_))
          rw [hwj]
          refine hK (j + 1, _ ++ [_]) ⟨by show 0 ≤ j + 1; omega, by show j + 1 ≤ (ot.length : Int); omega, ?_⟩ (by show ((ot.length : Int) - (j + 1)).toNat < ((ot.length : Int) - j).toNat; omega)
          show (((p ++ [_]).length : Nat) : Int) = j + 1
          rw [List.length_append, List.length_singleton]; omega
        · have e2 : ¬ j < ot.length := of_decide_eq_false e2
          refine ans_let rfl (ans_ret rfl ⟨i1 + 1, i0, l, i4, 1, -1, 0, V, N0, M0, p, rfl, hok, hx, Int.le_refl _, fun h => absurd h ne5, fun _ _ => ⟨rfl, rfl, by omega, by decide⟩, fun _ h => absurd hd h⟩)
  · -- does its time run out?
    refine ans_let rfl (ans_let rfl (ans_let rfl ?_))
    rw [hid2]
    refine ans_ite rfl (fun d => ?_) (fun d => ?_)
    · have d : i7 + 1 < 3 + 2 * i0 := of_decide_eq_true d
      exact ans_jump rfl rfl (hJ true (by simp; omega))
    · have d : ¬ i7 + 1 < 3 + 2 * i0 := of_decide_eq_false d
      refine ans_let rfl (ans_jump rfl rfl (hJ _ ?_))
      show (i1 == 100000) = !decide (i7 + 1 ≥ 3 + 2 * i0 ∧ i1 < 100000)
      by_cases h : i1 = 100000
      · rw [decide_eq_false (by omega : ¬ (i7 + 1 ≥ 3 + 2 * i0 ∧ i1 < 100000)), h]; rfl
      · rw [decide_eq_true (by omega : i7 + 1 ≥ 3 + 2 * i0 ∧ i1 < 100000)]; simpa using h
def zero : D NTy := (0, 0, 0, [], 0, 0, 0, 0, [], [], [], ())
set_option maxHeartbeats 4000000 in
theorem tick21 (N k : Nat) (i0 i1 i2 : Int) (l : List (D ITy)) (i4 i5 i6 i7 : Int) (v : List Bool) (n m : List Int) (s : Int) (hN : big ≤ N) (hl : (l.length : Int) ≤ 400) (hx : ∀ y ∈ l, okI y) (hv : v.length < big) :
    Ans (Lv N (k + 10) 21 [⟨NTy, (i0, i1, i2, l, i4, i5, i6, i7, v, n, m, ())⟩, I s]) (fun rs => (nodeOk i0 i1 i2 l i4 i5 i6 i7 v n m s = false ∧ rs = [⟨NTy, zero⟩, S MTy []]) ∨
      (nodeOk i0 i1 i2 l i4 i5 i6 i7 v n m s = true ∧ ∃ (j1 j2 : Int) (l : List (D ITy)) (c j5 j6 j7 : Int) (v : List Bool) (n m : List Int) (p : List (D MTy)), rs = [⟨NTy, (i0, j1, j2, l, c, j5, j6, j7, v, n, m, ())⟩, S MTy p] ∧ Ticked i0 i1 i4 i5 i7 s [⟨STy, (i0, j1, j2, l, c, j5, j6, j7, v, n, m, p, ())⟩])) := by
  refine ans_level rfl rfl ?_ (fun rs hq => by rcases hq with ⟨_, rfl⟩ | ⟨_, j1, j2, l, c, j5, j6, j7, v, n, m, p, rfl, _⟩ <;> rfl)
  unfold ir21
  have hl' : l.length < big := by unfold big; omega
  refine ans_let rfl (ans_let rfl (ans_call rfl (node15 N (k + 3) i0 i1 i2 l i4 i5 i6 i7 v n m s hN hl' hx hv) rfl (ans_let rfl (ans_ite rfl (fun c => ?_) (fun c => ?_)))))
  · have c : nodeOk i0 i1 i2 l i4 i5 i6 i7 v n m s = false := by simpa using c
    exact ans_let rfl (ans_let rfl (ans_let rfl (ans_ret rfl (.inl ⟨c, rfl⟩))))
  · have c : nodeOk i0 i1 i2 l i4 i5 i6 i7 v n m s = true := by simpa using c
    have hf := nodeOk_iff.1 c
    have hnb : n.length < big := by have := hf.2.2.1; have := hf.1; unfold big; omega
    have hmb : m.length < big := by have := hf.2.2.1; have := hf.1; unfold big; omega
    simp only [List.cons_append, List.nil_append]
    refine ans_let rfl (ans_call rfl (own68 N (k + 4) i0 i1 i2 l i4 i5 i6 i7 v n m hN hl hx hv hnb hmb) rfl ?_)
    simp only [List.cons_append, List.nil_append]
    refine ans_let rfl (ans_let rfl (ans_let rfl (ans_let rfl ?_)))
    simp only [List.cons_append, List.nil_append]
    refine ans_callA rfl (tick N k i0 i1 i2 l i4 i5 i6 i7 v n m s hN hx c) ?_
    rintro _ ⟨j1, j2, l2, c2, j5, j6, j7, v2, n2, m2, p, rfl, hrest⟩
    refine ⟨rfl, ?_⟩
    simp only [List.cons_append, List.nil_append]
    refine ans_let rfl (ans_let rfl (ans_let rfl (ans_let rfl (ans_ret rfl (.inr ⟨c, j1, j2, l2, c2, j5, j6, j7, v2, n2, m2, p, rfl, ⟨j1, j2, l2, c2, j5, j6, j7, v2, n2, m2, p, rfl, hrest⟩⟩)))))
theorem drawTick (N k : Nat) (b : List Int) (hb : b.length ≤ 9223372036854775807) (hN : big ≤ N) : Ans (Lv N (k + 10) 20 [S (.int .u8) b]) (fun rs => ∃ (x : D NTy) (s : Int), rs = [⟨NTy, x⟩, I s] ∧ Mb x) := by
  refine ans_level rfl rfl ?_ (fun rs hq => by obtain ⟨x, s, rfl, _⟩ := hq; rfl)
  unfold ir20
  refine ans_callA rfl (drawNode N k b hb hN) ?_
  rintro _ ⟨x, s, rfl, hx⟩
  refine ⟨rfl, ?_⟩
  simp only [List.cons_append, List.nil_append]; refine ans_let rfl ?_; refine ans_let rfl ?_
  exact ans_ret rfl ⟨x, s, rfl, hx⟩
set_option maxHeartbeats 8000000 in
theorem law' (k : Nat) (b : List Int) (hb : b.length ≤ 9223372036854775807) : Ans (Lv big (k + 11) 5 [S (.int .u8) b]) (fun rs => rs = [B true]) := by
  refine ans_level rfl rfl ?_ (fun rs hq => by rw [hq]; rfl)
  unfold ir5
  refine ans_callA rfl (drawTick big k b hb (Nat.le_refl _)) ?_
  rintro _ ⟨⟨i0, i1, i2, l, i4, i5, i6, i7, v, n, m, u⟩, s, rfl, hl, hx, hv⟩
  refine ⟨rfl, ?_⟩
  have hl : (l.length : Int) ≤ 400 := hl
  have hx : ∀ y ∈ l, okI y := hx
  have hv : (v.length : Int) ≤ 6 := hv
  have hv' : v.length < big := by unfold big; omega
  have hl' : l.length < big := by unfold big; omega
  simp only [List.cons_append, List.nil_append]
  refine ans_let rfl (ans_let rfl (ans_callA rfl (tick21 big k i0 i1 i2 l i4 i5 i6 i7 v n m s (Nat.le_refl _) hl hx hv') ?_))
  rintro _ (⟨hno, rfl⟩ | ⟨hok, j1, j2, l2, c2, j5, j6, j7, v2, n2, m2, p, rfl, h⟩)
  · refine ⟨rfl, ?_⟩
    have e13 := node13 big (k + 4) i0 i1 i2 l i4 i5 i6 i7 v n m s (Nat.le_refl _) hl' hx hv'
    rw [hno] at e13
    unfold zero
    simp only [List.cons_append, List.nil_append]
    refine ans_let rfl (ans_let rfl (ans_call rfl e13 rfl (ans_let rfl (ans_ite (b := true) rfl (fun _ => ?_) (fun h => by cases h)))))
    refine ans_let rfl (ans_let rfl (ans_ite (b := true) rfl (fun _ => ?_) (fun h => by cases h)))
    exact ans_let rfl (ans_let rfl (ans_ret rfl rfl))
  · refine ⟨rfl, ?_⟩
    have e13 := node13 big (k + 4) i0 i1 i2 l i4 i5 i6 i7 v n m s (Nat.le_refl _) hl' hx hv'
    rw [hok] at e13
    obtain ⟨g1, g2, g3, g4, g5, g6, g7, g8, g9, g10, g11, heq, h1, h2, h3, h4, h5, h6⟩ := h
    simp only [List.cons.injEq, Sigma.mk.injEq, heq_eq_eq, Prod.mk.injEq, true_and, and_true] at heq
    obtain ⟨rfl, rfl, rfl, rfl, rfl, rfl, rfl, rfl, rfl, rfl, rfl⟩ := heq
    have hf := nodeOk_iff.1 hok
    have hf2 := nodeOk_iff.1 h1
    have e15 := node15 big (k + 4) i0 j1 j2 l2 c2 j5 j6 j7 v2 n2 m2 s (Nat.le_refl _) (by have := hf2.1; unfold big; omega) h2 (by have := hf2.2.2.1; have := hf2.1; unfold big; omega)
    rw [h1] at e15
    simp only [List.cons_append, List.nil_append]
    refine ans_let rfl (ans_let rfl (ans_call rfl e13 rfl (ans_let rfl (ans_ite (b := false) rfl (fun h => by cases h) (fun _ => ?_)))))
    simp only [List.cons_append, List.nil_append]
    have hw : IntKind.i64.wrap (i7 + 1) = i7 + 1 := wrap_id (by omega) (by omega)
    have hid : IntKind.i64.wrap (2 * i0) = 2 * i0 := wrap_id (by omega) (by omega)
    have hid2 : IntKind.i64.wrap (3 + IntKind.i64.wrap (2 * i0)) = 3 + 2 * i0 := by rw [hid, wrap_id (by omega) (by omega)]
    have ht : IntKind.i64.wrap (i1 + 1) = i1 + 1 := wrap_id (by omega) (by omega)
    have hs : IntKind.i64.wrap (s - 1) = s - 1 := wrap_id (by omega) (by omega)
    refine ans_joinP (α := Bool) (fun b => [B b]) (fun b => b = false) (fun b hb => ?_) (fun J hJ => ?_)
    · subst hb
      simp only [List.cons_append, List.nil_append]
      refine ans_ite (b := false) rfl (fun h => by cases h) (fun _ => ?_)
      refine ans_let rfl (ans_ite rfl (fun c => ?_) (fun c => ?_))
      · have c : i5 = 2 := of_decide_eq_true c
        obtain ⟨q1, q2, q3⟩ := h4 c
        refine ans_let rfl (ans_let rfl (ans_let rfl ?_))
        rw [hs]
        refine ans_ite rfl (fun _ => ?_) (fun h => absurd q1 (of_decide_eq_false h))
        refine ans_let rfl (ans_ite rfl (fun _ => ?_) (fun h => absurd q2 (of_decide_eq_false h)))
        refine ans_let rfl (ans_ret rfl ?_)
        rw [q3]; rfl
      · have c : i5 ≠ 2 := of_decide_eq_false c
        simp only [List.cons_append, List.nil_append]
        refine ans_joinP (α := Bool) (fun b => [B b]) (fun b => b = decide (i7 + 1 ≥ 3 + 2 * i0 ∧ i1 < 100000)) (fun b hb => ?_) (fun K hK => ?_)
        · simp only [List.cons_append, List.nil_append]
          refine ans_ite rfl (fun d => ?_) (fun d => ?_)
          · have hd : i7 + 1 ≥ 3 + 2 * i0 ∧ i1 < 100000 := by rw [hb] at d; exact of_decide_eq_true d
            obtain ⟨q1, q2, q3, q4⟩ := h5 c hd
            refine ans_let rfl (ans_let rfl ?_)
            rw [ht]
            refine ans_ite rfl (fun _ => ?_) (fun h => absurd q1 (of_decide_eq_false h))
            refine ans_let rfl (ans_ite rfl (fun _ => ?_) (fun h => absurd q2 (of_decide_eq_false h)))
            refine ans_let rfl (ans_let rfl (ans_let rfl ?_))
            rw [hs]
            refine ans_ite rfl (fun _ => ?_) (fun h => absurd q3 (of_decide_eq_false h))
            refine ans_let rfl (ans_ret rfl ?_)
            have : (decide (j5 ≠ 0)) = true := decide_eq_true q4
            show [B (!decide (j5 = 0))] = [B true]
            rw [show decide (j5 = 0) = false from decide_eq_false q4]; rfl
          · have hd : ¬(i7 + 1 ≥ 3 + 2 * i0 ∧ i1 < 100000) := by rw [hb] at d; exact of_decide_eq_false d
            obtain ⟨q1, q2, q3⟩ := h6 c hd
            refine ans_let rfl (ans_ite rfl (fun _ => ?_) (fun h => absurd q1 (of_decide_eq_false h)))
            refine ans_let rfl (ans_let rfl (ans_ite rfl (fun _ => ?_) (fun h => ?_)))
            · refine ans_let rfl (ans_ret rfl ?_)
              show [B (decide (j5 = i5))] = [B true]
              rw [show decide (j5 = i5) = true from decide_eq_true q3]
            · have h : ¬ (p.length : Int) = 0 := of_decide_eq_false h
              omega
        · refine ans_let rfl (ans_let rfl (ans_let rfl (ans_let rfl ?_)))
          rw [hw, hid2]
          refine ans_ite rfl (fun d => ?_) (fun d => ?_)
          · have d : i7 + 1 ≥ 3 + 2 * i0 := of_decide_eq_true d
            refine ans_let rfl (ans_jump rfl rfl (hK _ ?_))
            show decide (i1 < 100000) = decide (i7 + 1 ≥ 3 + 2 * i0 ∧ i1 < 100000)
            by_cases h : i1 < 100000
            · rw [decide_eq_true h, decide_eq_true (⟨d, h⟩ : i7 + 1 ≥ 3 + 2 * i0 ∧ i1 < 100000)]
            · rw [decide_eq_false h, decide_eq_false (fun hh => h hh.2 : ¬ (i7 + 1 ≥ 3 + 2 * i0 ∧ i1 < 100000))]
          · have d : ¬ i7 + 1 ≥ 3 + 2 * i0 := of_decide_eq_false d
            refine ans_jump rfl rfl (hK false ?_)
            exact (decide_eq_false (fun hh => d hh.1 : ¬ (i7 + 1 ≥ 3 + 2 * i0 ∧ i1 < 100000))).symm
    · refine ans_let rfl (ans_call rfl e15 rfl (ans_let rfl (ans_ite (b := false) rfl (fun h => by cases h) (fun _ => ?_))))
      refine ans_let rfl (ans_jump rfl rfl (hJ _ ?_))
      show decide (c2 < i4) = false
      exact decide_eq_false (by omega)
theorem law (k : Nat) (b : D (.sl (.int .u8))) (hw : WfD (.sl (.int .u8)) b) : Lv big (k + 11) 5 [S (.int .u8) b] = some [⟨.bool, true⟩] := by
  obtain ⟨rs, h1, rfl⟩ := law' k b hw.1
  exact h1
end Go.Proofs.Ytecleaangfcloaa.VtFnTicks
