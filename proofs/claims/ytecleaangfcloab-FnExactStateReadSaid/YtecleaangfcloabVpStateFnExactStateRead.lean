/- What is asked of a State, by the program and by the reference, is one. Lemmas alone, no statement. -/
import Derived.Test.YtecleaangfcloabVpGenFnExactStateRead
import Derived.Test.YtecleaangfcloabVpTseFnExactStateRead
import Derived.Test.YtecleaangfcloabVmOrd
namespace Go.Proofs.Ytecleaangfcloab.VtFnExactStateRead
set_option linter.unusedVariables false
set_option linter.unusedSimpArgs false
open Go Go.Vm
abbrev RowT : Ty := .pair (.sl (.int .u8)) (.pair (.sl (.int .u8)) (.pair (.int .i64) (.pair (.int .i64) .unit)))
abbrev TombT : Ty := .pair (.sl (.int .u8)) (.pair (.int .i64) .unit)
abbrev SessT : Ty := .pair (.int .i64) (.pair .bool .unit)
abbrev LastT : Ty := .pair (.int .i64) (.pair (.int .i64) (.pair (.int .i64) (.pair (.int .i64) .unit)))
abbrev StateT : Ty := .pair (.int .i64) (.pair (.sl RowT) (.pair (.sl TombT) (.pair (.int .i64) (.pair (.sl SessT) (.pair (.sl LastT) .unit)))))
/-- The first that p holds of, or -1. -/
def sessIx (ss : List (D SessT)) (id : Int) : Int := ixFrom (fun y => decide (y.1 = id)) ss 0
def keyP (k : List Int) (l : List Int) : Bool := kb l == kb k
def rowIx (l : List (D RowT)) (k : List Int) : Int := ixFrom (fun y => keyP k y.1) l 0
def tombIx (l : List (D TombT)) (k : List Int) : Int := ixFrom (fun y => keyP k y.1) l 0
theorem sessS (N k : Nat) (i0 lost : Int) (rows : List (D RowT)) (tombs : List (D TombT)) (ss : List (D SessT)) (lasts : List (D LastT)) (id : Int) (hN : big ≤ N) (hm : ss.length < big) :
    Lv N (k + 1) 57 [⟨StateT, (i0, rows, tombs, lost, ss, lasts, ())⟩, I id] = some [I (sessIx ss id)] := by
  refine level_den rfl rfl ?_ rfl
  unfold ir57
  refine den_let rfl (den_loop (den_jump rfl rfl ?_))
  refine rounds_ind (α := Int) (enc := fun i => [I 0, I i]) (ans := fun i => some [I (ixFrom (fun y => decide (y.1 = id)) (ss.drop i.toNat) i)]) (meas := fun i => ss.length - i.toNat) (Q := fun i => 0 ≤ i ∧ i ≤ ss.length) (fun J i hi hJ => ?_) N 0 (by omega) (by simp; omega)
  refine den_let rfl (den_let rfl (den_ite rfl (fun h => ?_) (fun h => ?_)))
  · have h : i < ss.length := by simpa using h
    have hlt : i.toNat < ss.length := by omega
    rw [ix_drop hi.1 hlt]
    refine den_idx rfl rfl rfl hi.1 (List.getElem?_eq_getElem hlt) (den_let rfl ?_)
    simp only [List.cons_append, List.nil_append]
    refine den_let rfl (den_ite rfl (fun h => ?_) (fun h => ?_))
    · rw [if_pos (by simpa using h)]; exact den_ret rfl rfl
    · rw [if_neg (by simpa using h)]
      refine den_let rfl (den_jump rfl rfl ?_)
      rw [up hi.1 hi.2 hm]
      exact hJ (i + 1) (by omega) (by omega)
  · have h : ¬ i < ss.length := by simpa using h
    rw [ix_end (by omega)]
    exact den_ret rfl rfl

theorem rowS (N k : Nat) (i0 lost : Int) (rows : List (D RowT)) (tombs : List (D TombT)) (ss : List (D SessT)) (lasts : List (D LastT)) (key : List Int) (hN : big ≤ N) (hm : rows.length < big) :
    Lv N (k + 1) 58 [⟨StateT, (i0, rows, tombs, lost, ss, lasts, ())⟩, S (.int .u8) key] = some [I (rowIx rows key)] := by
  refine level_den rfl rfl ?_ rfl
  unfold ir58
  refine den_let rfl (den_loop (den_jump rfl rfl ?_))
  refine rounds_ind (α := Int) (enc := fun i => [I 0, I i]) (ans := fun i => some [I (ixFrom (fun y => keyP key y.1) (rows.drop i.toNat) i)]) (meas := fun i => rows.length - i.toNat) (Q := fun i => 0 ≤ i ∧ i ≤ rows.length) (fun J i hi hJ => ?_) N 0 (by omega) (by simp; omega)
  refine den_let rfl (den_let rfl (den_ite rfl (fun h => ?_) (fun h => ?_)))
  · have h : i < rows.length := by simpa using h
    have hlt : i.toNat < rows.length := by omega
    rw [ix_drop hi.1 hlt]
    refine den_idx rfl rfl rfl hi.1 (List.getElem?_eq_getElem hlt) (den_let rfl ?_)
    simp only [List.cons_append, List.nil_append]
    refine den_let rfl (den_let rfl (den_let (ev_eql 9 _ _) (den_ite rfl (fun h => ?_) (fun h => ?_))))
    · rw [if_pos (by simpa [keyP] using h)]; exact den_ret rfl rfl
    · rw [if_neg (by simpa [keyP] using h)]
      refine den_let rfl (den_jump rfl rfl ?_)
      rw [up hi.1 hi.2 hm]
      exact hJ (i + 1) (by omega) (by omega)
  · have h : ¬ i < rows.length := by simpa using h
    rw [ix_end (by omega)]
    exact den_ret rfl rfl

theorem tombS (N k : Nat) (i0 lost : Int) (rows : List (D RowT)) (tombs : List (D TombT)) (ss : List (D SessT)) (lasts : List (D LastT)) (key : List Int) (hN : big ≤ N) (hm : tombs.length < big) :
    Lv N (k + 1) 59 [⟨StateT, (i0, rows, tombs, lost, ss, lasts, ())⟩, S (.int .u8) key] = some [I (tombIx tombs key)] := by
  refine level_den rfl rfl ?_ rfl
  unfold ir59
  refine den_let rfl (den_loop (den_jump rfl rfl ?_))
  refine rounds_ind (α := Int) (enc := fun i => [I 0, I i]) (ans := fun i => some [I (ixFrom (fun y => keyP key y.1) (tombs.drop i.toNat) i)]) (meas := fun i => tombs.length - i.toNat) (Q := fun i => 0 ≤ i ∧ i ≤ tombs.length) (fun J i hi hJ => ?_) N 0 (by omega) (by simp; omega)
  refine den_let rfl (den_let rfl (den_ite rfl (fun h => ?_) (fun h => ?_)))
  · have h : i < tombs.length := by simpa using h
    have hlt : i.toNat < tombs.length := by omega
    rw [ix_drop hi.1 hlt]
    refine den_idx rfl rfl rfl hi.1 (List.getElem?_eq_getElem hlt) (den_let rfl ?_)
    simp only [List.cons_append, List.nil_append]
    refine den_let rfl (den_let rfl (den_let (ev_eql 9 _ _) (den_ite rfl (fun h => ?_) (fun h => ?_))))
    · rw [if_pos (by simpa [keyP] using h)]; exact den_ret rfl rfl
    · rw [if_neg (by simpa [keyP] using h)]
      refine den_let rfl (den_jump rfl rfl ?_)
      rw [up hi.1 hi.2 hm]
      exact hJ (i + 1) (by omega) (by omega)
  · have h : ¬ i < tombs.length := by simpa using h
    rw [ix_end (by omega)]
    exact den_ret rfl rfl

theorem equalI (N k : Nat) (a b : List Int) : Lv N (k + 1) 69 [S (.int .u8) a, S (.int .u8) b] = some [B (kb a == kb b)] := by
  refine level_den rfl rfl ?_ rfl
  unfold ir69
  exact den_let rfl (den_let rfl (den_let (ev_eql 9 _ _) (den_ret rfl rfl)))
theorem sessI1 (N k : Nat) (y : D SessT) (id : Int) : Lv N (k + 1) 116 [⟨SessT, y⟩, I id] = some [B (decide (y.1 = id))] := by
  refine level_den rfl rfl ?_ rfl
  unfold ir116
  refine den_let rfl (den_let rfl (den_let rfl (den_ret rfl (someB ?_))))
  exact (beq_dec _ _).symm
theorem tombI1 (N k : Nat) (y : D TombT) (key : List Int) : Lv N (k + 2) 121 [⟨TombT, y⟩, S (.int .u8) key] = some [B (keyP key y.1)] := by
  refine level_den rfl rfl ?_ rfl
  unfold ir121
  exact den_let rfl (den_let rfl (den_call rfl (equalI N k y.1 key) rfl (den_ret rfl rfl)))
theorem rowI1 (N k : Nat) (y : D RowT) (key : List Int) : Lv N (k + 1) 119 [⟨RowT, y⟩, S (.int .u8) key] = some [I (cmpI y.1 key)] := by
  refine level_den rfl rfl ?_ rfl
  unfold ir119
  exact den_let rfl (den_call rfl (by cases k <;> rfl) rfl (den_ret rfl rfl))

theorem sessI2 (N k : Nat) (l : List (D SessT)) (id : Int) (hN : big ≤ N) (hm : l.length < big) : Lv N (k + 2) 115 [S SessT l, I id] = some [I (ixFrom (fun y => decide (y.1 = id)) l 0)] := by
  refine level_den rfl rfl ?_ rfl
  unfold ir115
  refine den_let rfl (den_loop (den_jump rfl rfl ?_))
  refine rounds_ind (α := Int) (enc := fun i => [I 0, I i]) (ans := fun i => some [I (ixFrom (fun y => decide (y.1 = id)) (l.drop i.toNat) i)]) (meas := fun i => l.length - i.toNat) (Q := fun i => 0 ≤ i ∧ i ≤ l.length) (fun J i hi hJ => ?_) N 0 (by omega) (by simp; omega)
  refine den_let rfl (den_ite rfl (fun h => ?_) (fun h => ?_))
  · have h : i < l.length := by simpa using h
    have hlt : i.toNat < l.length := by omega
    rw [ix_drop hi.1 hlt]
    refine den_idx rfl rfl rfl hi.1 (List.getElem?_eq_getElem hlt) (den_let rfl (den_call rfl (sessI1 N k l[i.toNat] id) rfl (den_ite rfl (fun h => ?_) (fun h => ?_))))
    · rw [if_pos h]; exact den_ret rfl rfl
    · rw [if_neg (by rw [h]; decide)]
      refine den_let rfl (den_jump rfl rfl ?_)
      rw [up hi.1 hi.2 hm]
      exact hJ (i + 1) (by omega) (by omega)
  · have h : ¬ i < l.length := by simpa using h
    rw [ix_end (by omega)]
    exact den_ret rfl rfl

theorem tombI2 (N k : Nat) (l : List (D TombT)) (key : List Int) (hN : big ≤ N) (hm : l.length < big) : Lv N (k + 3) 120 [S TombT l, S (.int .u8) key] = some [I (ixFrom (fun y => keyP key y.1) l 0)] := by
  refine level_den rfl rfl ?_ rfl
  unfold ir120
  refine den_let rfl (den_loop (den_jump rfl rfl ?_))
  refine rounds_ind (α := Int) (enc := fun i => [I 0, I i]) (ans := fun i => some [I (ixFrom (fun y => keyP key y.1) (l.drop i.toNat) i)]) (meas := fun i => l.length - i.toNat) (Q := fun i => 0 ≤ i ∧ i ≤ l.length) (fun J i hi hJ => ?_) N 0 (by omega) (by simp; omega)
  refine den_let rfl (den_ite rfl (fun h => ?_) (fun h => ?_))
  · have h : i < l.length := by simpa using h
    have hlt : i.toNat < l.length := by omega
    rw [ix_drop hi.1 hlt]
    refine den_idx rfl rfl rfl hi.1 (List.getElem?_eq_getElem hlt) (den_let rfl (den_call rfl (tombI1 N k l[i.toNat] key) rfl (den_ite rfl (fun h => ?_) (fun h => ?_))))
    · rw [if_pos h]; exact den_ret rfl rfl
    · rw [if_neg (by rw [h]; decide)]
      refine den_let rfl (den_jump rfl rfl ?_)
      rw [up hi.1 hi.2 hm]
      exact hJ (i + 1) (by omega) (by omega)
  · have h : ¬ i < l.length := by simpa using h
    rw [ix_end (by omega)]
    exact den_ret rfl rfl

theorem sessI (N k : Nat) (i0 lost : Int) (rows : List (D RowT)) (tombs : List (D TombT)) (ss : List (D SessT)) (lasts : List (D LastT)) (id : Int) (hN : big ≤ N) (hm : ss.length < big) :
    Lv N (k + 3) 62 [⟨StateT, (i0, rows, tombs, lost, ss, lasts, ())⟩, I id] = some [I (sessIx ss id)] := by
  refine level_den rfl rfl ?_ rfl
  unfold ir62
  exact den_let rfl (den_let rfl (den_call rfl (sessI2 N k ss id hN hm) rfl (den_ret rfl rfl)))
theorem tombI (N k : Nat) (i0 lost : Int) (rows : List (D RowT)) (tombs : List (D TombT)) (ss : List (D SessT)) (lasts : List (D LastT)) (key : List Int) (hN : big ≤ N) (hm : tombs.length < big) :
    Lv N (k + 4) 65 [⟨StateT, (i0, rows, tombs, lost, ss, lasts, ())⟩, S (.int .u8) key] = some [I (tombIx tombs key)] := by
  refine level_den rfl rfl ?_ rfl
  unfold ir65
  exact den_let rfl (den_let rfl (den_call rfl (tombI2 N k tombs key hN hm) rfl (den_ret rfl rfl)))
/-- Rows in the order of their keys. -/
def Sorted (l : List (D RowT)) : Prop := ∀ (i j : Nat) (x y : D RowT), i < j → l[i]? = some x → l[j]? = some y → cmpI x.1 y.1 < 0
theorem mid_eq {s : Int} (h0 : 0 ≤ s) (h1 : s < 4294967296) : IntKind.i64.wrap ((IntKind.u64.wrap (IntKind.i64.wrap s)).fdiv 2) = s / 2 := by
  rw [wrap_id (n := s) (by omega) (by omega)]
  have : IntKind.u64.wrap s = s := by simp [IntKind.wrap, IntKind.bits, IntKind.signed]; omega
  rw [this, Int.fdiv_eq_ediv_of_nonneg _ (by omega)]
  exact wrap_id (by omega) (by omega)
theorem ev_shr (t : Nat) (x : Int) : evX (.bin .shr t) [⟨.int .u64, x⟩, ⟨.int .u64, (1 : Int)⟩] = some ⟨.int .u64, x.fdiv 2⟩ := rfl

theorem rowI2 (N k : Nat) (l : List (D RowT)) (key : List Int) (hN : big ≤ N) (hm : l.length < big) (hs : Sorted l) :
    ∃ r, Lv N (k + 2) 118 [S RowT l, S (.int .u8) key] = some [I r, B (l.any (fun y => keyP key y.1))] ∧ (l.any (fun y => keyP key y.1) = true → rowIx l key = r) := by
  have key0 : Ans (Lv N (k + 2) 118 [S RowT l, S (.int .u8) key]) (fun rs => ∃ r, rs = [I r, B (l.any (fun y => keyP key y.1))] ∧ (l.any (fun y => keyP key y.1) = true → rowIx l key = r)) := by
    refine ans_level rfl rfl ?_ (by rintro rs ⟨r, rfl, _⟩; rfl)
    unfold ir118
    refine ans_let rfl (ans_loop (ans_jump rfl rfl ?_))
    refine rounds_ans (α := Int × Int) (enc := fun p => [I p.1, I p.2]) (Post := fun _ rs => ∃ r, rs = [I r, B (l.any (fun y => keyP key y.1))] ∧ (l.any (fun y => keyP key y.1) = true → rowIx l key = r)) (meas := fun p => (p.2 - p.1).toNat)
      (R := fun p => 0 ≤ p.1 ∧ p.1 ≤ p.2 ∧ p.2 ≤ l.length ∧ (∀ (j : Nat) (y : D RowT), (j : Int) < p.1 → l[j]? = some y → cmpI y.1 key < 0) ∧ (∀ (j : Nat) (y : D RowT), p.2 ≤ (j : Int) → l[j]? = some y → ¬ cmpI y.1 key < 0)) ?_ N (0, (l.length : Int)) ?_ ?_
    · rintro J ⟨lo, hi⟩ ⟨h0, h1, h2, hlo, hhi⟩ hJ
      dsimp only at h0 h1 h2 hlo hhi
      have hm' := hm
      unfold big at hm'
      refine ans_let rfl (ans_ite rfl (fun h => ?_) (fun h => ?_))
      · have h : lo < hi := by simpa using h
        obtain ⟨m, hmd⟩ : ∃ m, m = (lo + hi) / 2 := ⟨_, rfl⟩
        have hmid : IntKind.i64.wrap ((IntKind.u64.wrap (IntKind.i64.wrap (lo + hi))).fdiv 2) = m := by rw [hmd]; exact mid_eq (by omega) (by omega)
        have hml : m.toNat < l.length := by omega
        refine ans_let rfl (ans_let rfl (ans_let (ev_shr 197 _) (ans_let rfl ?_)))
        simp only [List.cons_append, List.nil_append]
        rw [hmid]
        refine ans_idx rfl rfl rfl (by omega) (List.getElem?_eq_getElem hml) (ans_let rfl (ans_call rfl (rowI1 N k l[m.toNat] key) rfl (ans_let rfl (ans_ite rfl (fun h3 => ?_) (fun h3 => ?_)))))
        · have h3 : cmpI l[m.toNat].1 key < 0 := by simpa using h3
          refine ans_let rfl (ans_jump rfl rfl ?_)
          rw [up (n := l.length) (by omega) (by omega) hm]
          refine hJ (m + 1, hi) ⟨by show 0 ≤ m + 1; omega, by show m + 1 ≤ hi; omega, h2, fun j y hj hy => ?_, hhi⟩ (by show (hi - (m + 1)).toNat < (hi - lo).toNat; omega)
          have hj : (j : Int) < m + 1 := hj
          by_cases hjm : j = m.toNat
          · subst hjm
            rw [List.getElem?_eq_getElem hml] at hy
            simp only [Option.some.injEq] at hy
            rw [← hy]; exact h3
          · exact cmp_trans (hs j m.toNat y _ (by omega) hy (List.getElem?_eq_getElem hml)) h3
        · have h3 : ¬ cmpI l[m.toNat].1 key < 0 := by simpa using h3
          refine ans_jump rfl rfl ?_
          refine hJ (lo, m) ⟨h0, by show lo ≤ m; omega, by show m ≤ l.length; omega, hlo, fun j y hj hy hlt => ?_⟩ (by show (m - lo).toNat < (hi - lo).toNat; omega)
          have hj : m ≤ (j : Int) := hj
          by_cases hjm : j = m.toNat
          · subst hjm
            rw [List.getElem?_eq_getElem hml] at hy
            simp only [Option.some.injEq] at hy
            rw [← hy] at hlt; exact h3 hlt
          · exact h3 (cmp_trans (hs m.toNat j _ y (by omega) (List.getElem?_eq_getElem hml) hy) hlt)
      · have h : ¬ lo < hi := by simpa using h
        have he : lo = hi := by omega
        subst he
        refine ans_let rfl (ans_ite rfl (fun h4 => ?_) (fun h4 => ?_))
        · have h4 : lo < (l.length : Int) := by simpa using h4
          have hll : lo.toNat < l.length := by omega
          simp only [List.cons_append, List.nil_append]
          have hb : (cmpI l[lo.toNat].1 key == 0) = l.any (fun y => keyP key y.1) := by
            rw [Bool.eq_iff_iff, List.any_eq_true, beq_iff_eq]
            constructor
            · intro hz
              exact ⟨l[lo.toNat], List.getElem_mem hll, by have e : kb l[lo.toNat].1 = kb key := cmp_zero hz; unfold keyP; rw [e]; simp⟩
            · rintro ⟨y, hy, hk⟩
              have hk : kb y.1 = kb key := by simpa [keyP] using hk
              obtain ⟨j, hj⟩ := List.getElem?_of_mem hy
              have hz : cmpI y.1 key = 0 := by rw [cmpI_kb, hk, cmp_self]
              rcases Nat.lt_trichotomy j lo.toNat with hlt | rfl | hgt
              · have := hlo j y (by omega) hj
                omega
              · rw [List.getElem?_eq_getElem hll] at hj
                simp only [Option.some.injEq] at hj
                rw [hj]; exact hz
              · have h5 := hs lo.toNat j _ y hgt (List.getElem?_eq_getElem hll) hj
                have h6 := hhi lo.toNat _ (by omega) (List.getElem?_eq_getElem hll)
                rw [cmpI_kb] at h5 h6
                rw [hk] at h5
                exact absurd h5 h6
          refine ans_idx rfl rfl rfl h0 (List.getElem?_eq_getElem hll) (ans_let rfl (ans_call rfl (rowI1 N k l[lo.toNat] key) rfl (ans_let rfl (ans_ret rfl ⟨lo, ?_, fun hany => ?_⟩))))
          · show [I lo, B (cmpI l[lo.toNat].1 key == 0)] = _
            rw [hb]
          · rw [← hb, beq_iff_eq] at hany
            have e : kb l[lo.toNat].1 = kb key := cmp_zero hany
            unfold rowIx
            rw [ix_first (p := fun y : D RowT => keyP key y.1) (n := lo.toNat) (l := l) (fun j y hj hy => ?_) hll (by unfold keyP; rw [e]; simp)]
            · omega
            · have hlt := hlo j y (by omega) hy
              unfold keyP
              rw [beq_eq_false_iff_ne]
              intro hk
              rw [cmpI_kb, hk, cmp_self] at hlt
              omega
        · have h4 : ¬ lo < (l.length : Int) := by simpa using h4
          have hb : l.any (fun y => keyP key y.1) = false := by
            rw [List.any_eq_false]
            intro y hy hk
            have hk : kb y.1 = kb key := by simpa [keyP] using hk
            obtain ⟨j, hj⟩ := List.getElem?_of_mem hy
            have hjl := (List.getElem?_eq_some_iff.1 hj).1
            have := hlo j y (by omega) hj
            rw [cmpI_kb, hk, cmp_self] at this
            omega
          exact ans_ret rfl ⟨lo, by rw [hb], fun h => by rw [hb] at h; cases h⟩
    · exact ⟨Int.le_refl _, by show (0 : Int) ≤ l.length; omega, Int.le_refl _, fun j y hj _ => by have hj : (j : Int) < 0 := hj; omega, fun j y hj hy => by have hj : (l.length : Int) ≤ j := hj; have := (List.getElem?_eq_some_iff.1 hy).1; omega⟩
    · show ((l.length : Int) - 0).toNat < N
      omega
  obtain ⟨rs, e, r, rfl, he⟩ := key0
  exact ⟨r, e, he⟩

theorem rowI (N k : Nat) (i0 lost : Int) (rows : List (D RowT)) (tombs : List (D TombT)) (ss : List (D SessT)) (lasts : List (D LastT)) (key : List Int) (hN : big ≤ N) (hm : rows.length < big) (hs : Sorted rows) :
    ∃ r, Lv N (k + 3) 64 [⟨StateT, (i0, rows, tombs, lost, ss, lasts, ())⟩, S (.int .u8) key] = some [I r, B (rows.any (fun y => keyP key y.1))] ∧ (rows.any (fun y => keyP key y.1) = true → rowIx rows key = r) := by
  obtain ⟨r, hr, he⟩ := rowI2 N k rows key hN hm hs
  refine ⟨r, level_den rfl rfl ?_ rfl, he⟩
  unfold ir64
  exact den_let rfl (den_call rfl hr rfl (den_ret rfl rfl))

def prevR (rows : List (D RowT)) (i : Nat) (key : List Int) : Bool := match rows[i - 1]? with
  | some q => decide (cmpI q.1 key < 0)
  | none => true
def prevT (tombs : List (D TombT)) (i : Nat) (n : Int) : Bool := match tombs[i - 1]? with
  | some q => decide (q.2.1 ≤ n)
  | none => true
def prevX (ss : List (D SessT)) (i : Nat) (n : Int) : Bool := match ss[i - 1]? with
  | some q => decide (q.1 < n)
  | none => true
def prevL (ls : List (D LastT)) (i : Nat) (n : Int) : Bool := match ls[i - 1]? with
  | some q => decide (q.1 < n)
  | none => true
def srtAt (rows : List (D RowT)) (i : Nat) : Bool := match rows[i]? with
  | some r => decide (i = 0) || prevR rows i r.1
  | none => true
def rowAt (i0 : Int) (ss : List (D SessT)) (rows : List (D RowT)) (i : Nat) : Bool := match rows[i]? with
  | some r => keyOk r.1 && (decide ((List.length r.2.1 : Int) ≤ 20) && (decide (1 ≤ r.2.2.1) && (decide (r.2.2.1 ≤ i0) && ((decide (r.2.2.2.1 = 0) || decide (0 ≤ sessIx ss r.2.2.2.1)) && (decide (i = 0) || prevR rows i r.1)))))
  | none => true
def tombAt (i0 lost : Int) (rows : List (D RowT)) (tombs : List (D TombT)) (i : Nat) : Bool := match tombs[i]? with
  | some t => keyOk t.1 && (decide (rowIx rows t.1 < 0) && (decide (tombIx tombs t.1 = (i : Int)) && (decide (1 ≤ t.2.1) && (decide (t.2.1 ≤ i0) && (decide (lost ≤ t.2.1) && (decide (i = 0) || prevT tombs i t.2.1))))))
  | none => true
def sessAt (i0 : Int) (ss : List (D SessT)) (i : Nat) : Bool := match ss[i]? with
  | some x => decide (1 ≤ x.1) && (decide (x.1 ≤ i0) && (decide (i = 0) || prevX ss i x.1))
  | none => true
def lastAt (i0 : Int) (ls : List (D LastT)) (i : Nat) : Bool := match ls[i]? with
  | some x => decide (0 ≤ x.1) && (decide (x.1 < 4) && (decide (1 ≤ x.2.1) && (decide (x.2.1 ≤ 1000000) && (decide (0 ≤ x.2.2.1) && (decide (x.2.2.1 ≤ 5) && (decide (1 ≤ x.2.2.2.1) && (decide (x.2.2.2.1 ≤ i0) && (decide (i = 0) || prevL ls i x.1))))))))
  | none => true
theorem row_at {i0 : Int} {ss : List (D SessT)} {rows : List (D RowT)} {i : Nat} (h : i < rows.length) : rowAt i0 ss rows i = (keyOk rows[i].1 && (decide ((List.length rows[i].2.1 : Int) ≤ 20) && (decide (1 ≤ rows[i].2.2.1) && (decide (rows[i].2.2.1 ≤ i0) && ((decide (rows[i].2.2.2.1 = 0) || decide (0 ≤ sessIx ss rows[i].2.2.2.1)) && (decide (i = 0) || prevR rows i rows[i].1)))))) := by
  unfold rowAt; rw [List.getElem?_eq_getElem h]
theorem srt_at {rows : List (D RowT)} {i : Nat} (h : i < rows.length) : srtAt rows i = (decide (i = 0) || prevR rows i rows[i].1) := by
  unfold srtAt; rw [List.getElem?_eq_getElem h]
theorem tomb_at {i0 lost : Int} {rows : List (D RowT)} {tombs : List (D TombT)} {i : Nat} (h : i < tombs.length) : tombAt i0 lost rows tombs i = (keyOk tombs[i].1 && (decide (rowIx rows tombs[i].1 < 0) && (decide (tombIx tombs tombs[i].1 = (i : Int)) && (decide (1 ≤ tombs[i].2.1) && (decide (tombs[i].2.1 ≤ i0) && (decide (lost ≤ tombs[i].2.1) && (decide (i = 0) || prevT tombs i tombs[i].2.1))))))) := by
  unfold tombAt; rw [List.getElem?_eq_getElem h]
theorem sess_at {i0 : Int} {ss : List (D SessT)} {i : Nat} (h : i < ss.length) : sessAt i0 ss i = (decide (1 ≤ ss[i].1) && (decide (ss[i].1 ≤ i0) && (decide (i = 0) || prevX ss i ss[i].1))) := by
  unfold sessAt; rw [List.getElem?_eq_getElem h]
theorem last_at {i0 : Int} {ls : List (D LastT)} {i : Nat} (h : i < ls.length) : lastAt i0 ls i = (decide (0 ≤ ls[i].1) && (decide (ls[i].1 < 4) && (decide (1 ≤ ls[i].2.1) && (decide (ls[i].2.1 ≤ 1000000) && (decide (0 ≤ ls[i].2.2.1) && (decide (ls[i].2.2.1 ≤ 5) && (decide (1 ≤ ls[i].2.2.2.1) && (decide (ls[i].2.2.2.1 ≤ i0) && (decide (i = 0) || prevL ls i ls[i].1))))))))) := by
  unfold lastAt; rw [List.getElem?_eq_getElem h]
theorem prevR_at {rows : List (D RowT)} {i : Nat} {key : List Int} (h : i - 1 < rows.length) : prevR rows i key = decide (cmpI rows[i - 1].1 key < 0) := by
  unfold prevR; rw [List.getElem?_eq_getElem h]
theorem prevT_at {l : List (D TombT)} {i : Nat} {n : Int} (h : i - 1 < l.length) : prevT l i n = decide (l[i - 1].2.1 ≤ n) := by
  unfold prevT; rw [List.getElem?_eq_getElem h]
theorem prevX_at {l : List (D SessT)} {i : Nat} {n : Int} (h : i - 1 < l.length) : prevX l i n = decide (l[i - 1].1 < n) := by
  unfold prevX; rw [List.getElem?_eq_getElem h]
theorem prevL_at {l : List (D LastT)} {i : Nat} {n : Int} (h : i - 1 < l.length) : prevL l i n = decide (l[i - 1].1 < n) := by
  unfold prevL; rw [List.getElem?_eq_getElem h]
theorem sorted_of {rows : List (D RowT)} (h : upAll (srtAt rows) 0 rows.length = true) : Sorted rows := by
  intro i j x y hij hx hy
  have adj : ∀ (j : Nat) (x y : D RowT), rows[j]? = some x → rows[j + 1]? = some y → cmpI x.1 y.1 < 0 := by
    intro j x y hx hy
    have hl := (List.getElem?_eq_some_iff.1 hy).1
    have := up_get h (Nat.zero_le (j + 1)) (by omega)
    unfold srtAt prevR at this
    rw [hy] at this
    simp only [Nat.add_sub_cancel, hx] at this
    simpa using this
  induction j generalizing y with
  | zero => omega
  | succ j ih =>
    have hl := (List.getElem?_eq_some_iff.1 hy).1
    by_cases hj : i = j
    · subst hj; exact adj i x y hx hy
    · have hj' : j < rows.length := by omega
      have h1 := ih rows[j] (by omega) (List.getElem?_eq_getElem hj')
      exact cmp_trans h1 (adj j _ y (List.getElem?_eq_getElem hj') hy)
def stateOk (i0 lost : Int) (rows : List (D RowT)) (tombs : List (D TombT)) (ss : List (D SessT)) (lasts : List (D LastT)) : Bool :=
  decide (0 ≤ i0) && (decide (i0 ≤ 1000000) && (decide ((rows.length : Int) ≤ 20) && (decide ((tombs.length : Int) ≤ 10) && (decide (0 ≤ lost) && (decide (lost ≤ i0) && (decide ((ss.length : Int) ≤ 8) && (decide ((lasts.length : Int) ≤ 4) &&
    (upAll (rowAt i0 ss rows) 0 rows.length && (upAll (tombAt i0 lost rows tombs) 0 tombs.length && (upAll (sessAt i0 ss) 0 ss.length && upAll (lastAt i0 lasts) 0 lasts.length))))))))))
set_option maxHeartbeats 8000000 in
theorem stateOkS (N k : Nat) (i0 lost : Int) (rows : List (D RowT)) (tombs : List (D TombT)) (ss : List (D SessT)) (lasts : List (D LastT)) (hN : big ≤ N) (hx : ∀ y ∈ rows, List.length y.1 < big ∧ True) (ht : ∀ y ∈ tombs, List.length y.1 < big ∧ True)
    (hl1 : rows.length < big) (hl2 : tombs.length < big) (hl3 : ss.length < big) (hl4 : lasts.length < big) :
    Lv N (k + 6) 19 [⟨StateT, (i0, rows, tombs, lost, ss, lasts, ())⟩] = some [B (stateOk i0 lost rows tombs ss lasts)] := by
  have hN' : 1048577 ≤ N := hN
  refine level_den rfl rfl ?_ rfl
  unfold ir19 stateOk
  obtain ⟨R4, hR4⟩ : ∃ R4, R4 = upAll (lastAt i0 lasts) 0 lasts.length := ⟨_, rfl⟩
  obtain ⟨R3, hR3⟩ : ∃ R3, R3 = (upAll (sessAt i0 ss) 0 ss.length && R4) := ⟨_, rfl⟩
  obtain ⟨R2, hR2⟩ : ∃ R2, R2 = (upAll (tombAt i0 lost rows tombs) 0 tombs.length && R3) := ⟨_, rfl⟩
  rw [← hR4, ← hR3, ← hR2]
  refine den_let rfl (den_call rfl (index135 N (k + 4) i0) rfl (den_let rfl (den_chk2 rfl rfl (fun g1 g2 => ?_))))
  simp only [List.cons_append, List.nil_append]
  refine den_let rfl (den_let rfl (den_chk rfl (gt_not _ _) (fun g3 => den_let rfl (den_let rfl (den_chk rfl (gt_not _ _) (fun g4 => ?_))))))
  simp only [List.cons_append, List.nil_append]
  refine den_let rfl (den_chk rfl (lt_not _ _) (fun g5 => den_let rfl (den_chk rfl (gt_not _ _) (fun g6 => ?_))))
  simp only [List.cons_append, List.nil_append]
  refine den_let rfl (den_let rfl (den_chk rfl (gt_not _ _) (fun g7 => den_let rfl (den_let rfl (den_chk rfl (gt_not _ _) (fun g8 => ?_))))))
  simp only [List.cons_append, List.nil_append]
  rw [upto (rowAt i0 ss rows) rows.length]
  refine den_loop (den_jump rfl rfl ?_)
  simp only [List.cons_append, List.nil_append]
  refine rounds_ind (α := Int) (enc := fun i => [B false, I i]) (ans := fun i => some [B (upAll (rowAt i0 ss rows) i.toNat ((rows.length : Int) - i).toNat && R2)]) (meas := fun i => rows.length - i.toNat) (Q := fun i => 0 ≤ i ∧ i ≤ rows.length ∧ True) (fun J i hi hJ => ?_) N 0 ⟨Int.le_refl _, by omega, trivial⟩ (by simp; omega)
  have hm := hl1
  refine den_let rfl (den_let rfl (den_ite rfl (fun h => ?_) (fun h => ?_)))
  · have h : i < rows.length := by simpa using h
    have hlt : i.toNat < rows.length := by omega
    rw [up_step hi.1 h, row_at hlt]
    simp only [Bool.and_assoc]
    refine den_idx rfl rfl rfl hi.1 (List.getElem?_eq_getElem hlt) (den_let rfl (den_let rfl (den_call rfl (key136 N (k + 4) rows[i.toNat].1 hN (hx _ (List.getElem_mem hlt)).1) rfl (den_let rfl (den_chk rfl rfl (fun h1 => ?_))))))
    simp only [List.cons_append, List.nil_append]
    refine den_call rfl (val134 N (k + 4) rows[i.toNat].2.1) rfl (den_let rfl (den_chk rfl rfl (fun h2 => ?_)))
    simp only [List.cons_append, List.nil_append]
    refine den_let rfl (den_chk rfl (lt_not _ _) (fun h3 => den_let rfl (den_chk rfl (gt_not _ _) (fun h4 => ?_))))
    simp only [List.cons_append, List.nil_append]
    refine den_let rfl (den_ite rfl (fun h5 => ?_) (fun h5 => ?_))
    · have h5 : ¬ rows[i.toNat].2.2.2.1 = 0 := by simpa using h5
      rw [decide_eq_false h5, Bool.false_or]
      refine den_let rfl (den_call rfl (sessS N (k + 4) i0 lost rows tombs ss lasts rows[i.toNat].2.2.2.1 hN (by omega)) rfl (den_let rfl (den_chk rfl (lt_not _ _) (fun h6 => ?_))))
      simp only [List.cons_append, List.nil_append]
      refine den_let rfl (den_ite rfl (fun hp => ?_) (fun hp => ?_))
      · have hp : i > 0 := by simpa using hp
        have hpl : i.toNat - 1 < rows.length := by omega
        rw [show decide (i.toNat = 0) = false by rw [decide_eq_false]; omega, Bool.false_or, prevR_at hpl]
        refine den_let rfl ?_
        rw [sub_one hp hi.2.1 hm]
        simp only [List.cons_append, List.nil_append]
        refine den_idx (n := i - 1) (y := rows[i.toNat - 1]) rfl rfl rfl (by omega) (by rw [show (i - 1).toNat = i.toNat - 1 by omega]; exact List.getElem?_eq_getElem hpl) (den_let rfl ?_)
        simp only [List.cons_append, List.nil_append]
        refine den_let (ev_text _) (den_let (ev_text _) (den_let (ev_geq 9 _ _) (den_chk rfl rfl (fun hc => ?_))))
        refine den_let rfl (den_jump rfl rfl ?_)
        rw [up hi.1 hi.2.1 hm]
        exact hJ (i + 1) ⟨by omega, by omega, trivial⟩ (by omega)
      · have hp : ¬ i > 0 := by simpa using hp
        rw [show decide (i.toNat = 0) = true by rw [decide_eq_true]; omega, Bool.true_or, Bool.true_and]
        refine den_let rfl (den_jump rfl rfl ?_)
        rw [up hi.1 hi.2.1 hm]
        exact hJ (i + 1) ⟨by omega, by omega, trivial⟩ (by omega)
    · have h5 : rows[i.toNat].2.2.2.1 = 0 := by simpa using h5
      rw [decide_eq_true h5, Bool.true_or, Bool.true_and]
      refine den_let rfl (den_ite rfl (fun hp => ?_) (fun hp => ?_))
      · have hp : i > 0 := by simpa using hp
        have hpl : i.toNat - 1 < rows.length := by omega
        rw [show decide (i.toNat = 0) = false by rw [decide_eq_false]; omega, Bool.false_or, prevR_at hpl]
        refine den_let rfl ?_
        rw [sub_one hp hi.2.1 hm]
        simp only [List.cons_append, List.nil_append]
        refine den_idx (n := i - 1) (y := rows[i.toNat - 1]) rfl rfl rfl (by omega) (by rw [show (i - 1).toNat = i.toNat - 1 by omega]; exact List.getElem?_eq_getElem hpl) (den_let rfl ?_)
        simp only [List.cons_append, List.nil_append]
        refine den_let (ev_text _) (den_let (ev_text _) (den_let (ev_geq 9 _ _) (den_chk rfl rfl (fun hc => ?_))))
        refine den_let rfl (den_jump rfl rfl ?_)
        rw [up hi.1 hi.2.1 hm]
        exact hJ (i + 1) ⟨by omega, by omega, trivial⟩ (by omega)
      · have hp : ¬ i > 0 := by simpa using hp
        rw [show decide (i.toNat = 0) = true by rw [decide_eq_true]; omega, Bool.true_or, Bool.true_and]
        refine den_let rfl (den_jump rfl rfl ?_)
        rw [up hi.1 hi.2.1 hm]
        exact hJ (i + 1) ⟨by omega, by omega, trivial⟩ (by omega)
  · have h : ¬ i < rows.length := by simpa using h
    rw [up_end h]
    rw [Bool.true_and, hR2]
    rw [upto (tombAt i0 lost rows tombs) tombs.length]
    refine den_loop (den_jump rfl rfl ?_)
    simp only [List.cons_append, List.nil_append]
    refine rounds_ind (α := Int) (enc := fun i => [B false, I i]) (ans := fun i => some [B (upAll (tombAt i0 lost rows tombs) i.toNat ((tombs.length : Int) - i).toNat && R3)]) (meas := fun i => tombs.length - i.toNat) (Q := fun i => 0 ≤ i ∧ i ≤ tombs.length ∧ True) (fun J i hi hJ => ?_) N 0 ⟨Int.le_refl _, by omega, trivial⟩ (by simp; omega)
    have hm := hl2
    refine den_let rfl (den_let rfl (den_ite rfl (fun h => ?_) (fun h => ?_)))
    · have h : i < tombs.length := by simpa using h
      have hlt : i.toNat < tombs.length := by omega
      rw [up_step hi.1 h, tomb_at hlt]
      simp only [Bool.and_assoc]
      refine den_idx rfl rfl rfl hi.1 (List.getElem?_eq_getElem hlt) (den_let rfl (den_let rfl (den_call rfl (key136 N (k + 4) tombs[i.toNat].1 hN (ht _ (List.getElem_mem hlt)).1) rfl (den_let rfl (den_chk rfl rfl (fun h1 => ?_))))))
      simp only [List.cons_append, List.nil_append]
      refine den_let rfl (den_call rfl (rowS N (k + 4) i0 lost rows tombs ss lasts tombs[i.toNat].1 hN (by omega)) rfl (den_let rfl (den_chk rfl (ge_not _ _) (fun h2 => ?_))))
      simp only [List.cons_append, List.nil_append]
      refine den_let rfl (den_call rfl (tombS N (k + 4) i0 lost rows tombs ss lasts tombs[i.toNat].1 hN (by omega)) rfl (den_let rfl (den_chk rfl (by rw [Int.toNat_of_nonneg hi.1]; exact ne_not _ _) (fun h3 => ?_))))
      simp only [List.cons_append, List.nil_append]
      refine den_let rfl (den_chk rfl (lt_not _ _) (fun h4 => den_let rfl (den_chk rfl (gt_not _ _) (fun h5 => den_let rfl (den_chk rfl (lt_not _ _) (fun h6 => ?_))))))
      simp only [List.cons_append, List.nil_append]
      refine den_let rfl (den_ite rfl (fun hp => ?_) (fun hp => ?_))
      · have hp : i > 0 := by simpa using hp
        have hpl : i.toNat - 1 < tombs.length := by omega
        rw [show decide (i.toNat = 0) = false by rw [decide_eq_false]; omega, Bool.false_or, prevT_at hpl]
        refine den_let rfl ?_
        rw [sub_one hp hi.2.1 hm]
        simp only [List.cons_append, List.nil_append]
        refine den_idx (n := i - 1) (y := tombs[i.toNat - 1]) rfl rfl rfl (by omega) (by rw [show (i - 1).toNat = i.toNat - 1 by omega]; exact List.getElem?_eq_getElem hpl) (den_let rfl ?_)
        simp only [List.cons_append, List.nil_append]
        refine den_let rfl (den_chk rfl (gt_not _ _) (fun hc => ?_))
        refine den_let rfl (den_jump rfl rfl ?_)
        rw [up hi.1 hi.2.1 hm]
        exact hJ (i + 1) ⟨by omega, by omega, trivial⟩ (by omega)
      · have hp : ¬ i > 0 := by simpa using hp
        rw [show decide (i.toNat = 0) = true by rw [decide_eq_true]; omega, Bool.true_or, Bool.true_and]
        refine den_let rfl (den_jump rfl rfl ?_)
        rw [up hi.1 hi.2.1 hm]
        exact hJ (i + 1) ⟨by omega, by omega, trivial⟩ (by omega)
    · have h : ¬ i < tombs.length := by simpa using h
      rw [up_end h]
      rw [Bool.true_and, hR3]
      rw [upto (sessAt i0 ss) ss.length]
      refine den_loop (den_jump rfl rfl ?_)
      simp only [List.cons_append, List.nil_append]
      refine rounds_ind (α := Int) (enc := fun i => [B false, I i]) (ans := fun i => some [B (upAll (sessAt i0 ss) i.toNat ((ss.length : Int) - i).toNat && R4)]) (meas := fun i => ss.length - i.toNat) (Q := fun i => 0 ≤ i ∧ i ≤ ss.length ∧ True) (fun J i hi hJ => ?_) N 0 ⟨Int.le_refl _, by omega, trivial⟩ (by simp; omega)
      have hm := hl3
      refine den_let rfl (den_let rfl (den_ite rfl (fun h => ?_) (fun h => ?_)))
      · have h : i < ss.length := by simpa using h
        have hlt : i.toNat < ss.length := by omega
        rw [up_step hi.1 h, sess_at hlt]
        simp only [Bool.and_assoc]
        refine den_idx rfl rfl rfl hi.1 (List.getElem?_eq_getElem hlt) (den_let rfl (den_let rfl (den_chk rfl (lt_not _ _) (fun h1 => ?_))))
        simp only [List.cons_append, List.nil_append]
        refine den_idx rfl rfl rfl hi.1 (List.getElem?_eq_getElem hlt) (den_let rfl (den_let rfl (den_chk rfl (gt_not _ _) (fun h2 => ?_))))
        simp only [List.cons_append, List.nil_append]
        refine den_let rfl (den_ite rfl (fun hp => ?_) (fun hp => ?_))
        · have hp : i > 0 := by simpa using hp
          have hpl : i.toNat - 1 < ss.length := by omega
          rw [show decide (i.toNat = 0) = false by rw [decide_eq_false]; omega, Bool.false_or, prevX_at hpl]
          refine den_let rfl ?_
          rw [sub_one hp hi.2.1 hm]
          simp only [List.cons_append, List.nil_append]
          refine den_idx (n := i - 1) (y := ss[i.toNat - 1]) rfl rfl rfl (by omega) (by rw [show (i - 1).toNat = i.toNat - 1 by omega]; exact List.getElem?_eq_getElem hpl) (den_let rfl ?_)
          simp only [List.cons_append, List.nil_append]
          refine den_idx rfl rfl rfl hi.1 (List.getElem?_eq_getElem hlt) (den_let rfl ?_)
          simp only [List.cons_append, List.nil_append]
          refine den_let rfl (den_chk rfl (ge_not _ _) (fun hc => ?_))
          refine den_let rfl (den_jump rfl rfl ?_)
          rw [up hi.1 hi.2.1 hm]
          exact hJ (i + 1) ⟨by omega, by omega, trivial⟩ (by omega)
        · have hp : ¬ i > 0 := by simpa using hp
          rw [show decide (i.toNat = 0) = true by rw [decide_eq_true]; omega, Bool.true_or, Bool.true_and]
          refine den_let rfl (den_jump rfl rfl ?_)
          rw [up hi.1 hi.2.1 hm]
          exact hJ (i + 1) ⟨by omega, by omega, trivial⟩ (by omega)
      · have h : ¬ i < ss.length := by simpa using h
        rw [up_end h]
        rw [Bool.true_and, hR4]
        rw [upto (lastAt i0 lasts) lasts.length]
        refine den_loop (den_jump rfl rfl ?_)
        simp only [List.cons_append, List.nil_append]
        refine rounds_ind (α := Int) (enc := fun i => [B false, I i]) (ans := fun i => some [B (upAll (lastAt i0 lasts) i.toNat ((lasts.length : Int) - i).toNat)]) (meas := fun i => lasts.length - i.toNat) (Q := fun i => 0 ≤ i ∧ i ≤ lasts.length ∧ True) (fun J i hi hJ => ?_) N 0 ⟨Int.le_refl _, by omega, trivial⟩ (by simp; omega)
        have hm := hl4
        refine den_let rfl (den_let rfl (den_ite rfl (fun h => ?_) (fun h => ?_)))
        · have h : i < lasts.length := by simpa using h
          have hlt : i.toNat < lasts.length := by omega
          rw [up_step hi.1 h, last_at hlt]
          simp only [Bool.and_assoc]
          refine den_idx rfl rfl rfl hi.1 (List.getElem?_eq_getElem hlt) (den_let rfl (den_let rfl (den_let rfl (den_chk rfl (lt_not _ _) (fun h1 => den_let rfl (den_chk rfl (ge_not _ _) (fun h2 => ?_)))))))
          simp only [List.cons_append, List.nil_append]
          refine den_let rfl (den_chk rfl (lt_not _ _) (fun h3 => den_let rfl (den_chk rfl (gt_not _ _) (fun h4 => ?_))))
          simp only [List.cons_append, List.nil_append]
          refine den_let rfl (den_chk rfl (lt_not _ _) (fun h5 => den_let rfl (den_chk rfl (gt_not _ _) (fun h6 => ?_))))
          simp only [List.cons_append, List.nil_append]
          refine den_let rfl (den_chk rfl (lt_not _ _) (fun h7 => den_let rfl (den_chk rfl (gt_not _ _) (fun h8 => ?_))))
          simp only [List.cons_append, List.nil_append]
          refine den_let rfl (den_ite rfl (fun hp => ?_) (fun hp => ?_))
          · have hp : i > 0 := by simpa using hp
            have hpl : i.toNat - 1 < lasts.length := by omega
            rw [show decide (i.toNat = 0) = false by rw [decide_eq_false]; omega, Bool.false_or, prevL_at hpl]
            refine den_let rfl ?_
            rw [sub_one hp hi.2.1 hm]
            simp only [List.cons_append, List.nil_append]
            refine den_idx (n := i - 1) (y := lasts[i.toNat - 1]) rfl rfl rfl (by omega) (by rw [show (i - 1).toNat = i.toNat - 1 by omega]; exact List.getElem?_eq_getElem hpl) (den_let rfl ?_)
            simp only [List.cons_append, List.nil_append]
            refine den_let rfl (den_chk rfl (ge_not _ _) (fun hc => ?_))
            refine den_let rfl (den_jump rfl rfl ?_)
            rw [up hi.1 hi.2.1 hm]
            exact hJ (i + 1) ⟨by omega, by omega, trivial⟩ (by omega)
          · have hp : ¬ i > 0 := by simpa using hp
            rw [show decide (i.toNat = 0) = true by rw [decide_eq_true]; omega, Bool.true_or, Bool.true_and]
            refine den_let rfl (den_jump rfl rfl ?_)
            rw [up hi.1 hi.2.1 hm]
            exact hJ (i + 1) ⟨by omega, by omega, trivial⟩ (by omega)
        · have h : ¬ i < lasts.length := by simpa using h
          rw [up_end h]
          exact den_ret rfl rfl

/-- What lies ahead of a tomb. -/
def Bef (lost : Int) (tombs : List (D TombT)) (i b : Int) : Prop := (i = 0 ∧ b = if lost > 1 then lost else 1) ∨ ∃ t, tombs[i.toNat - 1]? = some t ∧ b = t.2.1 ∧ 0 < i ∧ 1 ≤ b ∧ lost ≤ b
theorem bef_next {lost : Int} {tombs : List (D TombT)} {i b n : Int} (h : Bef lost tombs i b) (h1 : b ≤ n) : 1 ≤ n ∧ lost ≤ n := by
  rcases h with ⟨rfl, rfl⟩ | ⟨t, _, _, _, h2, h3⟩
  · split at h1 <;> omega
  · omega
theorem tombI_at {i0 lost : Int} {rows : List (D RowT)} {tombs : List (D TombT)} {i b : Int} (h0 : 0 ≤ i) (h : i.toNat < tombs.length) (hb : Bef lost tombs i b) : tombAt i0 lost rows tombs i.toNat =
    (!rows.any (fun y => keyP tombs[i.toNat].1 y.1) && (keyOk tombs[i.toNat].1 && (decide (tombIx tombs tombs[i.toNat].1 = i) && (decide (b ≤ tombs[i.toNat].2.1) && decide (tombs[i.toNat].2.1 ≤ i0))))) := by
  rw [tomb_at h]
  have e1 : decide (rowIx rows tombs[i.toNat].1 < 0) = !rows.any (fun y => keyP tombs[i.toNat].1 y.1) := ix_any (Int.le_refl _)
  have e2 : (decide (1 ≤ tombs[i.toNat].2.1) && (decide (tombs[i.toNat].2.1 ≤ i0) && (decide (lost ≤ tombs[i.toNat].2.1) && (decide (i.toNat = 0) || prevT tombs i.toNat tombs[i.toNat].2.1)))) = (decide (b ≤ tombs[i.toNat].2.1) && decide (tombs[i.toNat].2.1 ≤ i0)) := by
    generalize (tombs[i.toNat].2.1 : Int) = n
    rcases hb with ⟨rfl, rfl⟩ | ⟨t, h1, rfl, h3, h4, h5⟩
    · rw [Bool.eq_iff_iff]
      simp only [Bool.and_eq_true, decide_eq_true_eq, Bool.or_eq_true]
      constructor
      · rintro ⟨h1, h2, h3, _⟩
        refine ⟨?_, h2⟩
        split <;> omega
      · rintro ⟨h1, h2⟩
        exact ⟨show (1 : Int) ≤ n by split at h1 <;> omega, h2, show (lost : Int) ≤ n by split at h1 <;> omega, .inl rfl⟩
    · have hp : i.toNat - 1 < tombs.length := by omega
      rw [List.getElem?_eq_getElem hp] at h1
      simp only [Option.some.injEq] at h1
      rw [prevT_at hp, h1, Bool.eq_iff_iff]
      simp only [Bool.and_eq_true, decide_eq_true_eq, Bool.or_eq_true]
      constructor
      · rintro ⟨h6, h7, h8, h9 | h9⟩
        · omega
        · exact ⟨h9, h7⟩
      · rintro ⟨h6, h7⟩
        have h8 : 1 ≤ n := Int.le_trans h4 h6
        exact ⟨h8, h7, Int.le_trans h5 h6, .inr h6⟩
  rw [e1, e2, Int.toNat_of_nonneg h0]
  cases keyOk tombs[i.toNat].1 <;> simp
theorem hdr_swap {a b c d e f g h R : Bool} : (a && (b && (c && (d && (e && (f && (g && (h && R)))))))) = (a && (b && (e && (f && (c && (d && (g && (h && R)))))))) := by
  cases a <;> cases b <;> cases c <;> cases d <;> cases e <;> cases f <;> simp

set_option maxHeartbeats 8000000 in
theorem stateOkI (N k : Nat) (i0 lost : Int) (rows : List (D RowT)) (tombs : List (D TombT)) (ss : List (D SessT)) (lasts : List (D LastT)) (hN : big ≤ N) (hx : ∀ y ∈ rows, List.length y.1 < big ∧ True) (ht : ∀ y ∈ tombs, List.length y.1 < big ∧ True)
    (hl1 : rows.length < big) (hl2 : tombs.length < big) (hl3 : ss.length < big) (hl4 : lasts.length < big) :
    Lv N (k + 6) 20 [⟨StateT, (i0, rows, tombs, lost, ss, lasts, ())⟩] = some [B (stateOk i0 lost rows tombs ss lasts)] := by
  have hN' : 1048577 ≤ N := hN
  refine level_den rfl rfl ?_ rfl
  unfold ir20 stateOk
  rw [hdr_swap]
  obtain ⟨R4, hR4⟩ : ∃ R4, R4 = upAll (lastAt i0 lasts) 0 lasts.length := ⟨_, rfl⟩
  obtain ⟨R3, hR3⟩ : ∃ R3, R3 = (upAll (sessAt i0 ss) 0 ss.length && R4) := ⟨_, rfl⟩
  obtain ⟨R2, hR2⟩ : ∃ R2, R2 = (upAll (tombAt i0 lost rows tombs) 0 tombs.length && R3) := ⟨_, rfl⟩
  rw [← hR4, ← hR3, ← hR2]
  refine den_let rfl (den_call rfl (within60 N (k + 4) i0 0 1000000) rfl (den_let rfl (den_chk2 rfl rfl (fun g1 g2 => ?_))))
  simp only [List.cons_append, List.nil_append]
  refine den_call rfl (within60 N (k + 4) lost 0 i0) rfl (den_let rfl (den_chk2 rfl rfl (fun g5 g6 => ?_)))
  simp only [List.cons_append, List.nil_append]
  refine den_let rfl (den_let rfl (den_chk rfl (gt_not _ _) (fun g3 => den_let rfl (den_let rfl (den_chk rfl (gt_not _ _) (fun g4 => ?_))))))
  simp only [List.cons_append, List.nil_append]
  refine den_let rfl (den_let rfl (den_chk rfl (gt_not _ _) (fun g7 => den_let rfl (den_let rfl (den_chk rfl (gt_not _ _) (fun g8 => ?_))))))
  simp only [List.cons_append, List.nil_append]
  refine den_let rfl ?_
  rw [upto (rowAt i0 ss rows) rows.length]
  refine den_loop (den_jump rfl rfl ?_)
  simp only [List.cons_append, List.nil_append]
  refine rounds_ind (α := Int) (enc := fun i => [B false, I i]) (ans := fun i => some [B (upAll (rowAt i0 ss rows) i.toNat ((rows.length : Int) - i).toNat && R2)]) (meas := fun i => rows.length - i.toNat) (Q := fun i => 0 ≤ i ∧ i ≤ rows.length ∧ upAll (srtAt rows) 0 i.toNat = true) (fun J i hi hJ => ?_) N 0 ⟨Int.le_refl _, by omega, rfl⟩ (by simp; omega)
  have hm := hl1
  refine den_let rfl (den_ite rfl (fun h => ?_) (fun h => ?_))
  · have h : i < rows.length := by simpa using h
    have hlt : i.toNat < rows.length := by omega
    rw [up_step hi.1 h, row_at hlt]
    simp only [Bool.and_assoc]
    refine den_idx rfl rfl rfl hi.1 (List.getElem?_eq_getElem hlt) (den_let rfl (den_let rfl (den_call rfl (key152 N (k + 3) rows[i.toNat].1 hN (hx _ (List.getElem_mem hlt)).1) rfl (den_let rfl (den_chk rfl rfl (fun h1 => ?_))))))
    simp only [List.cons_append, List.nil_append]
    refine den_call rfl (val181 N (k + 4) rows[i.toNat].2.1) rfl (den_let rfl (den_chk rfl rfl (fun h2 => ?_)))
    simp only [List.cons_append, List.nil_append]
    refine den_call rfl (within60 N (k + 4) rows[i.toNat].2.2.1 1 i0) rfl (den_let rfl (den_chk2 rfl rfl (fun h3 h4 => ?_)))
    simp only [List.cons_append, List.nil_append]
    refine den_let rfl (den_ite rfl (fun h5 => ?_) (fun h5 => ?_))
    · have h5 : ¬ rows[i.toNat].2.2.2.1 = 0 := by simpa using h5
      rw [decide_eq_false h5, Bool.false_or]
      refine den_let rfl (den_call rfl (sessI N (k + 2) i0 lost rows tombs ss lasts rows[i.toNat].2.2.2.1 hN (by omega)) rfl (den_let rfl (den_chk rfl (lt_not _ _) (fun h6 => ?_))))
      simp only [List.cons_append, List.nil_append]
      refine den_let rfl (den_ite rfl (fun hp => ?_) (fun hp => ?_))
      · have hp : i > 0 := by simpa using hp
        have hpl : i.toNat - 1 < rows.length := by omega
        rw [show decide (i.toNat = 0) = false by rw [decide_eq_false]; omega, Bool.false_or, prevR_at hpl]
        refine den_let rfl ?_
        rw [sub_one hp hi.2.1 hm]
        simp only [List.cons_append, List.nil_append]
        refine den_idx (n := i - 1) (y := rows[i.toNat - 1]) rfl rfl rfl (by omega) (by rw [show (i - 1).toNat = i.toNat - 1 by omega]; exact List.getElem?_eq_getElem hpl) (den_let rfl ?_)
        simp only [List.cons_append, List.nil_append]
        refine den_call rfl (show Lv N (k + 5) 63 _ = _ from rfl) rfl (den_let rfl (den_chk rfl (ge_not _ _) (fun hc => ?_)))
        refine den_let rfl (den_jump rfl rfl ?_)
        rw [up hi.1 hi.2.1 hm]
        exact hJ (i + 1) ⟨by omega, by omega, (by rw [show (i + 1).toNat = i.toNat + 1 by omega]; exact up_last hi.2.2 (by rw [Nat.zero_add, srt_at hlt, prevR_at hpl, hc]; simp))⟩ (by omega)
      · have hp : ¬ i > 0 := by simpa using hp
        rw [show decide (i.toNat = 0) = true by rw [decide_eq_true]; omega, Bool.true_or, Bool.true_and]
        refine den_let rfl (den_jump rfl rfl ?_)
        rw [up hi.1 hi.2.1 hm]
        exact hJ (i + 1) ⟨by omega, by omega, (by rw [show (i + 1).toNat = i.toNat + 1 by omega]; exact up_last hi.2.2 (by rw [Nat.zero_add, srt_at hlt, decide_eq_true (show i.toNat = 0 by omega)]; rfl))⟩ (by omega)
    · have h5 : rows[i.toNat].2.2.2.1 = 0 := by simpa using h5
      rw [decide_eq_true h5, Bool.true_or, Bool.true_and]
      refine den_let rfl (den_ite rfl (fun hp => ?_) (fun hp => ?_))
      · have hp : i > 0 := by simpa using hp
        have hpl : i.toNat - 1 < rows.length := by omega
        rw [show decide (i.toNat = 0) = false by rw [decide_eq_false]; omega, Bool.false_or, prevR_at hpl]
        refine den_let rfl ?_
        rw [sub_one hp hi.2.1 hm]
        simp only [List.cons_append, List.nil_append]
        refine den_idx (n := i - 1) (y := rows[i.toNat - 1]) rfl rfl rfl (by omega) (by rw [show (i - 1).toNat = i.toNat - 1 by omega]; exact List.getElem?_eq_getElem hpl) (den_let rfl ?_)
        simp only [List.cons_append, List.nil_append]
        refine den_call rfl (show Lv N (k + 5) 63 _ = _ from rfl) rfl (den_let rfl (den_chk rfl (ge_not _ _) (fun hc => ?_)))
        refine den_let rfl (den_jump rfl rfl ?_)
        rw [up hi.1 hi.2.1 hm]
        exact hJ (i + 1) ⟨by omega, by omega, (by rw [show (i + 1).toNat = i.toNat + 1 by omega]; exact up_last hi.2.2 (by rw [Nat.zero_add, srt_at hlt, prevR_at hpl, hc]; simp))⟩ (by omega)
      · have hp : ¬ i > 0 := by simpa using hp
        rw [show decide (i.toNat = 0) = true by rw [decide_eq_true]; omega, Bool.true_or, Bool.true_and]
        refine den_let rfl (den_jump rfl rfl ?_)
        rw [up hi.1 hi.2.1 hm]
        exact hJ (i + 1) ⟨by omega, by omega, (by rw [show (i + 1).toNat = i.toNat + 1 by omega]; exact up_last hi.2.2 (by rw [Nat.zero_add, srt_at hlt, decide_eq_true (show i.toNat = 0 by omega)]; rfl))⟩ (by omega)
  · have h : ¬ i < rows.length := by simpa using h
    rw [up_end h]
    rw [Bool.true_and, hR2]
    have hsrt : Sorted rows := sorted_of (by have := hi.2.2; rwa [show i.toNat = rows.length by omega] at this)
    refine den_let rfl (den_let rfl ?_)
    rw [upto (tombAt i0 lost rows tombs) tombs.length]
    refine den_loop (den_jump rfl rfl ?_)
    simp only [List.cons_append, List.nil_append]
    refine rounds_ind (α := Int × Int) (enc := fun p => [B false, I p.1, I p.2]) (ans := fun p => some [B (upAll (tombAt i0 lost rows tombs) p.2.toNat ((tombs.length : Int) - p.2).toNat && R3)]) (meas := fun p => tombs.length - p.2.toNat) (Q := fun p => 0 ≤ p.2 ∧ p.2 ≤ tombs.length ∧ Bef lost tombs p.2 p.1) ?_ N ((if lost > 1 then lost else 1), 0) ⟨Int.le_refl _, by show (0 : Int) ≤ tombs.length; omega, .inl ⟨rfl, rfl⟩⟩ (by show tombs.length - (0 : Int).toNat < N; simp; omega)
    rintro J ⟨b, i⟩ ⟨hi0, hi1, hb⟩ hJ
    dsimp only at hi0 hi1 hb
    have hm := hl2
    refine den_let rfl (den_ite rfl (fun h => ?_) (fun h => ?_))
    · have h : i < tombs.length := by simpa using h
      have hlt : i.toNat < tombs.length := by omega
      rw [up_step hi0 h]
      rw [tombI_at hi0 hlt hb]
      simp only [Bool.and_assoc]
      refine den_idx rfl rfl rfl hi0 (List.getElem?_eq_getElem hlt) (den_let rfl (den_let rfl (den_let rfl ?_)))
      simp only [List.cons_append, List.nil_append]
      obtain ⟨r, hr, _⟩ := rowI N (k + 2) i0 lost rows tombs ss lasts tombs[i.toNat].1 hN (by omega) hsrt
      refine den_call rfl hr rfl (den_chk rfl (by rw [Bool.not_not]) (fun h1 => ?_))
      simp only [List.cons_append, List.nil_append]
      refine den_call rfl (key152 N (k + 3) tombs[i.toNat].1 hN (ht _ (List.getElem_mem hlt)).1) rfl (den_let rfl (den_chk rfl rfl (fun h2 => ?_)))
      simp only [List.cons_append, List.nil_append]
      refine den_let rfl (den_call rfl (tombI N (k + 1) i0 lost rows tombs ss lasts tombs[i.toNat].1 hN (by omega)) rfl (den_let rfl (den_chk rfl (ne_not _ _) (fun h3 => ?_))))
      simp only [List.cons_append, List.nil_append]
      refine den_call rfl (within60 N (k + 4) tombs[i.toNat].2.1 b i0) rfl (den_let rfl (den_chk2 rfl rfl (fun h4 h5 => ?_)))
      simp only [List.cons_append, List.nil_append]
      refine den_let rfl (den_jump rfl rfl ?_)
      rw [up hi0 hi1 hm]
      exact hJ (tombs[i.toNat].2.1, i + 1) ⟨by show 0 ≤ i + 1; omega, by show i + 1 ≤ tombs.length; omega, .inr ⟨tombs[i.toNat], by show tombs[(i + 1).toNat - 1]? = _; rw [show (i + 1).toNat - 1 = i.toNat by omega]; exact List.getElem?_eq_getElem hlt, rfl, by show 0 < i + 1; omega, bef_next hb (by simpa using h4)⟩⟩ (by show tombs.length - (i + 1).toNat < tombs.length - i.toNat; omega)
    · have h : ¬ i < tombs.length := by simpa using h
      rw [up_end h]
      rw [Bool.true_and, hR3]
      refine den_let rfl ?_
      rw [upto (sessAt i0 ss) ss.length]
      refine den_loop (den_jump rfl rfl ?_)
      simp only [List.cons_append, List.nil_append]
      refine rounds_ind (α := Int) (enc := fun i => [B false, I i]) (ans := fun i => some [B (upAll (sessAt i0 ss) i.toNat ((ss.length : Int) - i).toNat && R4)]) (meas := fun i => ss.length - i.toNat) (Q := fun i => 0 ≤ i ∧ i ≤ ss.length ∧ True) (fun J i hi hJ => ?_) N 0 ⟨Int.le_refl _, by omega, trivial⟩ (by simp; omega)
      have hm := hl3
      refine den_let rfl (den_ite rfl (fun h => ?_) (fun h => ?_))
      · have h : i < ss.length := by simpa using h
        have hlt : i.toNat < ss.length := by omega
        rw [up_step hi.1 h, sess_at hlt]
        simp only [Bool.and_assoc]
        refine den_idx rfl rfl rfl hi.1 (List.getElem?_eq_getElem hlt) (den_let rfl (den_let rfl (den_call rfl (within60 N (k + 4) ss[i.toNat].1 1 i0) rfl (den_let rfl (den_chk2 rfl rfl (fun h1 h2 => ?_))))))
        simp only [List.cons_append, List.nil_append]
        refine den_let rfl (den_ite rfl (fun hp => ?_) (fun hp => ?_))
        · have hp : i > 0 := by simpa using hp
          have hpl : i.toNat - 1 < ss.length := by omega
          rw [show decide (i.toNat = 0) = false by rw [decide_eq_false]; omega, Bool.false_or, prevX_at hpl]
          refine den_let rfl ?_
          rw [sub_one hp hi.2.1 hm]
          simp only [List.cons_append, List.nil_append]
          refine den_idx (n := i - 1) (y := ss[i.toNat - 1]) rfl rfl rfl (by omega) (by rw [show (i - 1).toNat = i.toNat - 1 by omega]; exact List.getElem?_eq_getElem hpl) (den_let rfl ?_)
          simp only [List.cons_append, List.nil_append]
          refine den_let rfl (den_chk rfl (ge_not _ _) (fun hc => ?_))
          refine den_let rfl (den_jump rfl rfl ?_)
          rw [up hi.1 hi.2.1 hm]
          exact hJ (i + 1) ⟨by omega, by omega, trivial⟩ (by omega)
        · have hp : ¬ i > 0 := by simpa using hp
          rw [show decide (i.toNat = 0) = true by rw [decide_eq_true]; omega, Bool.true_or, Bool.true_and]
          refine den_let rfl (den_jump rfl rfl ?_)
          rw [up hi.1 hi.2.1 hm]
          exact hJ (i + 1) ⟨by omega, by omega, trivial⟩ (by omega)
      · have h : ¬ i < ss.length := by simpa using h
        rw [up_end h]
        rw [Bool.true_and, hR4]
        refine den_let rfl ?_
        rw [upto (lastAt i0 lasts) lasts.length]
        refine den_loop (den_jump rfl rfl ?_)
        simp only [List.cons_append, List.nil_append]
        refine rounds_ind (α := Int) (enc := fun i => [B false, I i]) (ans := fun i => some [B (upAll (lastAt i0 lasts) i.toNat ((lasts.length : Int) - i).toNat)]) (meas := fun i => lasts.length - i.toNat) (Q := fun i => 0 ≤ i ∧ i ≤ lasts.length ∧ True) (fun J i hi hJ => ?_) N 0 ⟨Int.le_refl _, by omega, trivial⟩ (by simp; omega)
        have hm := hl4
        refine den_let rfl (den_ite rfl (fun h => ?_) (fun h => ?_))
        · have h : i < lasts.length := by simpa using h
          have hlt : i.toNat < lasts.length := by omega
          rw [up_step hi.1 h, last_at hlt]
          simp only [Bool.and_assoc]
          refine den_idx rfl rfl rfl hi.1 (List.getElem?_eq_getElem hlt) (den_let rfl (den_let rfl (den_call rfl (within60 N (k + 4) lasts[i.toNat].1 0 3) rfl (den_let rfl (den_chk2 rfl (by rw [le3]) (fun h1 h2 => ?_))))))
          simp only [List.cons_append, List.nil_append]
          refine den_call rfl (within60 N (k + 4) lasts[i.toNat].2.1 1 1000000) rfl (den_let rfl (den_chk2 rfl rfl (fun h3 h4 => ?_)))
          simp only [List.cons_append, List.nil_append]
          refine den_call rfl (within60 N (k + 4) lasts[i.toNat].2.2.1 0 5) rfl (den_let rfl (den_chk2 rfl rfl (fun h5 h6 => ?_)))
          simp only [List.cons_append, List.nil_append]
          refine den_call rfl (within60 N (k + 4) lasts[i.toNat].2.2.2.1 1 i0) rfl (den_let rfl (den_chk2 rfl rfl (fun h7 h8 => ?_)))
          simp only [List.cons_append, List.nil_append]
          refine den_let rfl (den_ite rfl (fun hp => ?_) (fun hp => ?_))
          · have hp : i > 0 := by simpa using hp
            have hpl : i.toNat - 1 < lasts.length := by omega
            rw [show decide (i.toNat = 0) = false by rw [decide_eq_false]; omega, Bool.false_or, prevL_at hpl]
            refine den_let rfl ?_
            rw [sub_one hp hi.2.1 hm]
            simp only [List.cons_append, List.nil_append]
            refine den_idx (n := i - 1) (y := lasts[i.toNat - 1]) rfl rfl rfl (by omega) (by rw [show (i - 1).toNat = i.toNat - 1 by omega]; exact List.getElem?_eq_getElem hpl) (den_let rfl ?_)
            simp only [List.cons_append, List.nil_append]
            refine den_let rfl (den_chk rfl (ge_not _ _) (fun hc => ?_))
            refine den_let rfl (den_jump rfl rfl ?_)
            rw [up hi.1 hi.2.1 hm]
            exact hJ (i + 1) ⟨by omega, by omega, trivial⟩ (by omega)
          · have hp : ¬ i > 0 := by simpa using hp
            rw [show decide (i.toNat = 0) = true by rw [decide_eq_true]; omega, Bool.true_or, Bool.true_and]
            refine den_let rfl (den_jump rfl rfl ?_)
            rw [up hi.1 hi.2.1 hm]
            exact hJ (i + 1) ⟨by omega, by omega, trivial⟩ (by omega)
        · have h : ¬ i < lasts.length := by simpa using h
          rw [up_end h]
          exact den_ret rfl rfl

theorem row_srt {i0 : Int} {ss : List (D SessT)} {rows : List (D RowT)} {i : Nat} (h : rowAt i0 ss rows i = true) : srtAt rows i = true := by
  unfold rowAt at h
  unfold srtAt
  cases hr : rows[i]? with
  | none => rfl
  | some r =>
    rw [hr] at h
    simp only [Bool.and_eq_true] at h
    exact h.2.2.2.2.2
theorem up_imp {f g : Nat → Bool} (hfg : ∀ i, f i = true → g i = true) : ∀ (d i : Nat), upAll f i d = true → upAll g i d = true
  | 0, _, _ => rfl
  | d + 1, i, h => by
    simp only [upAll, Bool.and_eq_true] at h ⊢
    exact ⟨hfg i h.1, up_imp hfg d (i + 1) h.2⟩
theorem state_sorted {i0 lost : Int} {rows : List (D RowT)} {tombs : List (D TombT)} {ss : List (D SessT)} {lasts : List (D LastT)} (h : stateOk i0 lost rows tombs ss lasts = true) : Sorted rows := by
  unfold stateOk at h
  simp only [Bool.and_eq_true] at h
  exact sorted_of (up_imp (fun i => row_srt) _ _ h.2.2.2.2.2.2.2.2.1)

end Go.Proofs.Ytecleaangfcloab.VtFnExactStateRead
