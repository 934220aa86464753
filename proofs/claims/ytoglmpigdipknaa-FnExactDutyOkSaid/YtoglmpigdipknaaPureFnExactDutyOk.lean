/- The program's DutyOk gives what the reference's DutyOk gives, for every argument. No condition. -/
import Derived.Test.YtoglmpigdipknaaArgsFnExactDutyOk
namespace Go.Proofs.Ytoglmpigdipknaa.Pure
open Go.RowKit Go.Proofs.Ytoglmpigdipknaa.AFnExactDutyOk Go.Proofs.Ytoglmpigdipknaa.XFnExactDutyOk Go.Proofs.YtoglmpigdipknaaW.PrintWords Go.Proofs.YtoglmpigdipknaaW.PrintLast Go.Proofs.YtoglmpigdipknaaW.PrintMore
set_option linter.unusedSimpArgs false
set_option linter.unusedVariables false
theorem wrap_up {i : Int} {n : Nat} (h0 : 0 ≤ i) (h : i < (n : Int)) (hn : n ≤ 9223372036854775807) : wrap64 (i + 1) = i + 1 := by
  unfold wrap64; omega
theorem evPos {α : Type} {g : Nat → Option α} {r : α} (h : Ev (fun k => g (k + 1)) r) : Ev g r := by
  obtain ⟨K, hK⟩ := h
  refine ⟨K + 1, fun k hk => ?_⟩
  obtain ⟨m, rfl⟩ : ∃ m, k = m + 1 := ⟨k - 1, by omega⟩
  exact hK m (by omega)
theorem evConst {α : Type} {a : Option α} {r : α} (h : a = some r) : Ev (fun _ => a) r := ⟨0, fun _ _ => h⟩
theorem evShift {α : Type} {g : Nat → Option α} {r : α} (h : Ev g r) : Ev (fun k => g (k + 1)) r := by
  obtain ⟨K, hK⟩ := h
  exact ⟨K, fun k hk => hK (k + 1) (by omega)⟩
theorem evVal {α : Type} {g : Nat → Option α} {r r' : α} (h : Ev g r) (e : r = r') : Ev g r' := e ▸ h
theorem rd_lt {l : List Int} {i : Int} (h0 : 0 ≤ i) (h : i < (l.length : Int)) : rd l i = l[i.toNat]'(by omega) := by
  unfold rd; rw [List.getD_eq_getElem?_getD, List.getElem?_eq_getElem (by omega)]; rfl
theorem within_eq (a b c : Int) : impl_within.f a b c = some (decide (b ≤ a) && decide (a ≤ c)) := by
  unfold impl_within.f
  by_cases h : b ≤ a <;> simp [h]
/-! Wheels of timers: their size, copied, compared. -/
abbrev TT := S123
def cvT (x : S147) : TT := ⟨x.f0, x.f1⟩
theorem rdTL_lt {l : List S147} {i : Int} (h0 : 0 ≤ i) (h : i < (l.length : Int)) : rd_T147 l i = l[i.toNat]'(by omega) := by
  unfold rd_T147; rw [List.getD_eq_getElem?_getD, List.getElem?_eq_getElem (by omega)]; rfl
theorem rdT_lt {l : List TT} {i : Int} (h0 : 0 ≤ i) (h : i < (l.length : Int)) : rd_T123 l i = l[i.toNat]'(by omega) := by
  unfold rd_T123; rw [List.getD_eq_getElem?_getD, List.getElem?_eq_getElem (by omega)]; rfl
theorem szWheel_at (a x : Int) (l : List S147) (hl : l.length ≤ 9223372036854775807) (hx : -1 ≤ x) (hx' : x ≤ 1048576) : laws_szWheel.f a l x = some (if (l.length : Int) ≤ x then x - (l.length : Int) else -1) := by
  unfold laws_szWheel.f laws_szTimerS.f
  have w : wrap64 (x - (l.length : Int)) = x - l.length := by unfold wrap64; omega
  rw [w]
  by_cases h : (l.length : Int) ≤ x
  · rw [if_neg (by omega), if_pos h, Option.bind_some, if_neg (by omega)]
  · rw [if_pos (by omega), if_neg h, Option.bind_some, if_pos (by omega)]
theorem toTimerS_loop (l : List S147) (hl : l.length ≤ 1048576) (d : Nat) : ∀ (x : List TT) (i : Int), 0 ≤ i → i ≤ l.length → (l.length : Int) - i = d → x.length = l.length → x.take i.toNat = (l.map cvT).take i.toNat →
    Ev (fun k => laws_toTimerS.l0 k l x i) (l.map cvT) := by
  induction d with
  | zero =>
    intro x i h0 h1 hd hx ht
    have hge : ¬ i < (l.length : Int) := by omega
    refine evPos ?_
    simp only [laws_toTimerS.l0, if_neg hge]
    refine evConst ?_
    rw [List.take_of_length_le (by omega), List.take_of_length_le (by simp; omega)] at ht
    rw [ht]
  | succ d ih =>
    intro x i h0 h1 hd hx ht
    have hlt : i < (l.length : Int) := by omega
    have hlt' : i < (x.length : Int) := by omega
    refine evPos ?_
    have hw : wrap64 (i + 1) = i + 1 := wrap_up h0 hlt (by omega)
    simp only [laws_toTimerS.l0, if_pos hlt, if_pos h0, rdTL_lt h0 hlt, if_pos hlt', laws_toTimer.f, Option.bind_some, hw]
    refine ih _ (i + 1) (by omega) (by omega) (by omega) (by simp [hx]) ?_
    have e : (i + 1).toNat = i.toNat + 1 := by omega
    rw [e, List.take_succ_eq_append_getElem (by simp; omega), List.take_succ_eq_append_getElem (by simp; omega)]
    rw [List.take_set_of_le (Nat.le_refl _), ht, List.getElem_set_self, List.getElem_map]
    rfl
theorem toWheel_ev (a : Int) (l : List S147) (hl : l.length ≤ 1048576) : Ev (fun k => laws_toWheel.f k a l) (a, l.map cvT) := by
  unfold laws_toWheel.f
  have h : Ev (fun k => laws_toTimerS.f k l) (l.map cvT) := by
    unfold laws_toTimerS.f
    have h1 : 0 ≤ (l.length : Int) := by omega
    have h2 : ((l.length : Int)).toNat ≤ 17592186044416 := by omega
    simp only [if_pos h1, if_pos h2]
    exact toTimerS_loop l hl l.length _ 0 (by omega) (by omega) (by omega) (by simp) (by simp)
  exact Ev.bind h (Ev.now _)
theorem eqTimerS_loop (l : List TT) (hl : l.length ≤ 1048576) (d : Nat) : ∀ (i : Int), 0 ≤ i → i ≤ l.length → (l.length : Int) - i = d → Ev (fun k => laws_eqTimerS.l0 k l l i) true := by
  induction d with
  | zero =>
    intro i h0 h1 hd
    have hge : ¬ i < (l.length : Int) := by omega
    refine evPos ?_
    simp only [laws_eqTimerS.l0, if_neg hge]
    exact Ev.now _
  | succ d ih =>
    intro i h0 h1 hd
    have hlt : i < (l.length : Int) := by omega
    refine evPos ?_
    have hw : wrap64 (i + 1) = i + 1 := wrap_up h0 hlt (by omega)
    simp only [laws_eqTimerS.l0, if_pos hlt, if_pos h0, hw, laws_eqTimer.f, if_true, Option.bind_some]
    exact ih (i + 1) (by omega) (by omega) (by omega)
theorem eqWheel_ev (a : Int) (l : List TT) (hl : l.length ≤ 1048576) : Ev (fun k => laws_eqWheel.f k a l a l) true := by
  unfold laws_eqWheel.f
  simp only [if_true]
  have h : Ev (fun k => laws_eqTimerS.f k l l) true := by
    unfold laws_eqTimerS.f
    simp only [if_true]
    exact eqTimerS_loop l hl l.length 0 (by omega) (by omega) (by omega)
  refine Ev.bind h ?_
  simp only [if_true]
  exact Ev.now _
/-! Valid wheels: the program's test and the reference's test give the same answer. -/
def isT (id : Int) (x : TT) : Bool := x.f0 == id
theorem timer_eq (a : Int) (l : List TT) (id : Int) (hl : l.length ≤ 1048576) : impl_Wheel_timer.f a l id = some (ixOf (isT id) l 0) := by
  unfold impl_Wheel_timer.f
  exact if_pos (by omega)
theorem l7find_loop (l : List TT) (hl : l.length ≤ 1048576) (id : Int) (d : Nat) : ∀ (i : Nat), i ≤ l.length → l.length - i = d → Ev (fun k => spec_l7find.l0 k l id (i : Int)) (ixOf (isT id) (l.drop i) i) := by
  induction d with
  | zero =>
    intro i h1 hd
    have hge : ¬ (i : Int) < (l.length : Int) := by omega
    refine evPos ?_
    simp only [spec_l7find.l0, if_neg hge]
    rw [List.drop_eq_nil_of_le (by omega)]
    exact Ev.now _
  | succ d ih =>
    intro i h1 hd
    have hlt : (i : Int) < (l.length : Int) := by omega
    have h0 : (0 : Int) ≤ (i : Int) := by omega
    have hn : i < l.length := by omega
    have hw : wrap64 ((i : Int) + 1) = ((i + 1 : Nat) : Int) := by unfold wrap64; omega
    have hg : rd_T123 l (i : Int) = l[i] := by rw [rdT_lt h0 hlt]; rfl
    refine evPos ?_
    simp only [spec_l7find.l0, if_pos hlt, if_pos h0, hg]
    by_cases c : l[i].f0 = id
    · simp only [if_pos c]
      rw [ixOf_at (isT id) l i i hn (beq_iff_eq.mpr c)]
      exact Ev.now _
    · simp only [if_neg c, hw]
      rw [ixOf_next (isT id) l i i hn (beq_eq_false_iff_ne.mpr c)]
      exact ih (i + 1) (by omega) (by omega)
theorem l7find_ev (l : List TT) (hl : l.length ≤ 1048576) (id : Int) : Ev (fun k => spec_l7find.f k l id) (ixOf (isT id) l 0) := by
  unfold spec_l7find.f
  have := l7find_loop l hl id l.length 0 (by omega) (by omega)
  simpa using this
/-- Found among those before it, or not: what the program asks of the whole list. -/
theorem first_iff (l : List TT) (i : Nat) (hi : i < l.length) : (ixOf (isT l[i].f0) (l.take i) 0 ≥ 0) ↔ ixOf (isT l[i].f0) l 0 ≠ (i : Int) := by
  have self : isT l[i].f0 l[i] = true := beq_iff_eq.mpr rfl
  rcases ixOf_spec (isT l[i].f0) l 0 with ⟨e, hn, _⟩ | ⟨k, hk, e, ht, hn, _⟩
  · have := hn l[i] (List.getElem_mem hi)
    rw [self] at this; exact absurd this (by decide)
  · have hki : k ≤ i := by
      rcases Nat.lt_or_ge i k with c | c
      · have := hn i c
        rw [self] at this; exact absurd this (by decide)
      · exact c
    rcases ixOf_spec (isT l[i].f0) (l.take i) 0 with ⟨e', hn', _⟩ | ⟨k', hk', e', ht', _, _⟩
    · rw [e', e]
      have : k = i := by
        rcases Nat.lt_or_ge k i with c | c
        · have h2 : k < (l.take i).length := by rw [List.length_take]; omega
          have := hn' ((l.take i)[k]'h2) (List.getElem_mem h2)
          rw [List.getElem_take, ht] at this; exact absurd this (by decide)
        · omega
      constructor
      · intro h; omega
      · intro h; exact absurd (by omega) h
    · rw [e', e]
      rw [List.length_take] at hk'
      have h3 : isT l[i].f0 (l[k']'(by omega)) = true := by rw [List.getElem_take] at ht'; exact ht'
      have : k ≤ k' := by
        rcases Nat.lt_or_ge k' k with c | c
        · have := hn k' c
          rw [h3] at this; exact absurd this (by decide)
        · exact c
      constructor
      · intro _; omega
      · intro _; omega
def cmpV (a b : Int) : Int := if a < b then -1 else if a > b then 1 else 0
theorem compare_eq (a b : Int) : cmp_Compare_int.f a b = some (cmpV a b) := by
  unfold cmp_Compare_int.f cmp_isNaN_int.f cmpV
  simp only [Option.bind_some, bne_self_eq_false, Bool.false_eq_true, if_false]
  by_cases h : a < b
  · simp only [if_pos h]
  · simp only [if_neg h]
    by_cases g : a > b
    · simp only [if_pos g]
    · simp only [if_neg g]
def aheadB (a0 a1 b0 b1 : Int) : Bool := decide (a1 < b1) || (decide (a1 = b1) && decide (a0 < b0))
theorem ahead_eq (a0 a1 b0 b1 : Int) : spec_l7ahead.f a0 a1 b0 b1 = some (aheadB a0 a1 b0 b1) := by
  unfold spec_l7ahead.f aheadB
  by_cases h : a1 < b1
  · simp [h]
  · by_cases g : a1 = b1
    · simp [g]
    · simp [h, g]
theorem cmpT_ev (a0 a1 b0 b1 : Int) : ∃ r : Int, Ev (fun k => impl_compareTimers.f k a0 a1 b0 b1) r ∧ (r ≥ 0 ↔ aheadB a0 a1 b0 b1 = false) := by
  unfold impl_compareTimers.f
  simp only [compare_eq, Option.bind_some]
  have w1 : wrap64 ((0 : Int) + 1) = 1 := by unfold wrap64; omega
  have w2 : wrap64 ((1 : Int) + 1) = 2 := by unfold wrap64; omega
  have r0 : rd [cmpV a1 b1, cmpV a0 b0] 0 = cmpV a1 b1 := rfl
  have r1 : rd [cmpV a1 b1, cmpV a0 b0] 1 = cmpV a0 b0 := rfl
  have l2 : (([cmpV a1 b1, cmpV a0 b0] : List Int).length : Int) = 2 := rfl
  have c02 : (0 : Int) < 2 := by omega
  have c12 : (1 : Int) < 2 := by omega
  have c22 : ¬ (2 : Int) < 2 := by omega
  have c00 : (0 : Int) ≤ 0 := by omega
  have c01 : (0 : Int) ≤ 1 := by omega
  by_cases h : cmpV a1 b1 = 0
  · by_cases g : cmpV a0 b0 = 0
    · refine ⟨0, Ev.bind (r := 0) ?_ (Ev.now _), ?_⟩
      · unfold cmp_Or_int.f
        refine evPos ?_
        simp only [cmp_Or_int.l0, l2, if_pos c02, if_pos c00, r0, if_pos h, w1]
        refine evPos ?_
        simp only [cmp_Or_int.l0, l2, if_pos c12, if_pos c01, r1, if_pos g, w2]
        refine evPos ?_
        simp only [cmp_Or_int.l0, if_neg c22]
        exact Ev.now _
      · unfold cmpV at h g
        unfold aheadB
        simp only [Bool.or_eq_false_iff, Bool.and_eq_false_iff, decide_eq_false_iff_not]
        split at h <;> split at g <;> (try split at h) <;> (try split at g) <;> omega
    · refine ⟨cmpV a0 b0, Ev.bind (r := cmpV a0 b0) ?_ (Ev.now _), ?_⟩
      · unfold cmp_Or_int.f
        refine evPos ?_
        simp only [cmp_Or_int.l0, l2, if_pos c02, if_pos c00, r0, if_pos h, w1]
        refine evPos ?_
        simp only [cmp_Or_int.l0, l2, if_pos c12, if_pos c01, r1, if_neg g]
        exact Ev.now _
      · unfold cmpV at h g ⊢
        unfold aheadB
        simp only [Bool.or_eq_false_iff, Bool.and_eq_false_iff, decide_eq_false_iff_not]
        split at h <;> split at g <;> (try split at h) <;> (try split at g) <;> omega
  · refine ⟨cmpV a1 b1, Ev.bind (r := cmpV a1 b1) ?_ (Ev.now _), ?_⟩
    · unfold cmp_Or_int.f
      refine evPos ?_
      simp only [cmp_Or_int.l0, l2, if_pos c02, if_pos c00, r0, if_neg h]
      exact Ev.now _
    · unfold cmpV at h ⊢
      unfold aheadB
      simp only [Bool.or_eq_false_iff, Bool.and_eq_false_iff, decide_eq_false_iff_not]
      split at h <;> (try split at h) <;> omega
/-- Both tests at one timer. -/
def wchk (now : Int) (l : List TT) (i : Nat) (hi : i < l.length) : Bool :=
  (decide (0 ≤ l[i].f0) && decide (l[i].f0 ≤ 2147483647)) && (decide (now + 1 ≤ l[i].f1) && decide (l[i].f1 ≤ 2000000)) && (if i = 0 then true else aheadB (l[i - 1]'(by omega)).f0 (l[i - 1]'(by omega)).f1 l[i].f0 l[i].f1) && decide (ixOf (isT l[i].f0) l 0 = (i : Int))
theorem isId_eq (x : Int) : impl_isId.f x = some (decide (0 ≤ x) && decide (x ≤ 2147483647)) := by
  unfold impl_isId.f
  rw [within_eq, Option.bind_some]
theorem wheelOk_loop (now : Int) (l : List TT) (hl : l.length ≤ 40) (n0 : 0 ≤ now) (n1 : now ≤ 1000000) (d : Nat) : ∀ (i : Nat), i ≤ l.length → l.length - i = d → ∃ t : Bool, Ev (fun k => spec_WheelOk.l0 k (i : Int) now l) t ∧ Ev (fun k => impl_WheelOk.l0 k l (l.length : Int) (i : Int) now l) t ∧ (t = true → ∀ j, ∀ hj : j < l.length, i ≤ j → wchk now l j hj = true) := by
  induction d with
  | zero =>
    intro i h1 hd
    have hge : ¬ (i : Int) < (l.length : Int) := by omega
    refine ⟨true, evPos ?_, evPos ?_, fun _ j hj c => by omega⟩
    · simp only [spec_WheelOk.l0, if_neg hge]; exact Ev.now _
    · simp only [impl_WheelOk.l0, if_neg hge]; exact Ev.now _
  | succ d ih =>
    intro i h1 hd
    have hlt : (i : Int) < (l.length : Int) := by omega
    have h0 : (0 : Int) ≤ (i : Int) := by omega
    have hn : i < l.length := by omega
    have hw : wrap64 ((i : Int) + 1) = ((i + 1 : Nat) : Int) := by unfold wrap64; omega
    have hwn : wrap64 (now + 1) = now + 1 := by unfold wrap64; omega
    have hg : rd_T123 l (i : Int) = l[i] := by rw [rdT_lt h0 hlt]; rfl
    have hle : (i : Int) ≤ (l.length : Int) := by omega
    have htk : l.take ((i : Int)).toNat = l.take i := rfl
    have fd := l7find_ev (l.take i) (by rw [List.length_take]; omega) l[i].f0
    have tm := timer_eq now l l[i].f0 (by omega)
    have fi := first_iff l i hn
    obtain ⟨t, k1, k2, k3⟩ := ih (i + 1) (by omega) (by omega)
    have all : (wchk now l i hn = true → t = true → ∀ j, ∀ hj : j < l.length, i ≤ j → wchk now l j hj = true) := fun a b j hj c => by
      rcases Nat.eq_or_lt_of_le c with e | c
      · subst e; exact a
      · exact k3 b j hj c
    by_cases a1 : l[i].f0 < 0
    · refine ⟨false, evPos ?_, evPos ?_, fun h => by cases h⟩
      · simp only [spec_WheelOk.l0, if_pos hlt, if_pos h0, hg, if_pos a1]; exact Ev.now _
      · have b1 : (decide (0 ≤ l[i].f0) && decide (l[i].f0 ≤ 2147483647)) = false := by rw [decide_eq_false (by omega : ¬ 0 ≤ l[i].f0)]; rfl
        simp only [impl_WheelOk.l0, if_pos hlt, if_pos h0, hg, isId_eq, Option.bind_some, b1, Bool.false_eq_true, if_false]; exact Ev.now _
    by_cases a2 : l[i].f0 > 2147483647
    · refine ⟨false, evPos ?_, evPos ?_, fun h => by cases h⟩
      · simp only [spec_WheelOk.l0, if_pos hlt, if_pos h0, hg, if_neg a1, if_pos a2]; exact Ev.now _
      · have b1 : (decide (0 ≤ l[i].f0) && decide (l[i].f0 ≤ 2147483647)) = false := by rw [decide_eq_false (by omega : ¬ l[i].f0 ≤ 2147483647)]; simp
        simp only [impl_WheelOk.l0, if_pos hlt, if_pos h0, hg, isId_eq, Option.bind_some, b1, Bool.false_eq_true, if_false]; exact Ev.now _
    have bid : (decide (0 ≤ l[i].f0) && decide (l[i].f0 ≤ 2147483647)) = true := by
      rw [decide_eq_true (by omega : 0 ≤ l[i].f0), decide_eq_true (by omega : l[i].f0 ≤ 2147483647)]; rfl
    by_cases q : ixOf (isT l[i].f0) l 0 = (i : Int)
    · have q' : ¬ (ixOf (isT l[i].f0) (l.take i) 0 ≥ 0) := fun h => fi.mp h q
      by_cases a3 : l[i].f1 ≤ now
      · refine ⟨false, evPos ?_, evPos ?_, fun h => by cases h⟩
        · simp only [spec_WheelOk.l0, if_pos hlt, if_pos h0, hg, if_neg a1, if_neg a2, if_pos a3]; exact Ev.now _
        · have b1 : (decide (now + 1 ≤ l[i].f1) && decide (l[i].f1 ≤ 2000000)) = false := by rw [decide_eq_false (by omega : ¬ now + 1 ≤ l[i].f1)]; rfl
          simp only [impl_WheelOk.l0, if_pos hlt, if_pos h0, hg, isId_eq, Option.bind_some, bid, if_true, tm, if_pos q, hwn, within_eq, b1, Bool.false_eq_true, if_false]; exact Ev.now _
      by_cases a4 : l[i].f1 > 2000000
      · refine ⟨false, evPos ?_, evPos ?_, fun h => by cases h⟩
        · simp only [spec_WheelOk.l0, if_pos hlt, if_pos h0, hg, if_neg a1, if_neg a2, if_neg a3, if_pos a4]; exact Ev.now _
        · have b1 : (decide (now + 1 ≤ l[i].f1) && decide (l[i].f1 ≤ 2000000)) = false := by rw [decide_eq_false (by omega : ¬ l[i].f1 ≤ 2000000)]; simp
          simp only [impl_WheelOk.l0, if_pos hlt, if_pos h0, hg, isId_eq, Option.bind_some, bid, if_true, tm, if_pos q, hwn, within_eq, b1, Bool.false_eq_true, if_false]; exact Ev.now _
      have bw : (decide (now + 1 ≤ l[i].f1) && decide (l[i].f1 ≤ 2000000)) = true := by
        rw [decide_eq_true (by omega : now + 1 ≤ l[i].f1), decide_eq_true (by omega : l[i].f1 ≤ 2000000)]; rfl
      by_cases a5 : (i : Int) > 0
      · have hwm : wrap64 ((i : Int) - 1) = ((i - 1 : Nat) : Int) := by unfold wrap64; omega
        have hlm : ((i - 1 : Nat) : Int) < (l.length : Int) := by omega
        have h0m : (0 : Int) ≤ ((i - 1 : Nat) : Int) := by omega
        have hgm : rd_T123 l ((i - 1 : Nat) : Int) = l[i - 1]'(by omega) := by rw [rdT_lt h0m hlm]; rfl
        obtain ⟨r, hr, hrr⟩ := cmpT_ev (l[i - 1]'(by omega)).f0 (l[i - 1]'(by omega)).f1 l[i].f0 l[i].f1
        cases ha : aheadB (l[i - 1]'(by omega)).f0 (l[i - 1]'(by omega)).f1 l[i].f0 l[i].f1 with
        | false =>
          refine ⟨false, evPos ?_, evPos ?_, fun h => by cases h⟩
          · simp only [spec_WheelOk.l0, if_pos hlt, if_pos h0, hg, if_neg a1, if_neg a2, if_neg a3, if_neg a4, if_pos a5, hwm, if_pos h0m, if_pos hlm, hgm, ahead_eq, ha, Option.bind_some, Bool.false_eq_true, if_false]; exact Ev.now _
          · have c := hrr.mpr ha
            simp only [impl_WheelOk.l0, if_pos hlt, if_pos h0, hg, isId_eq, Option.bind_some, bid, if_true, tm, if_pos q, hwn, within_eq, bw, if_pos a5, hwm, if_pos h0m, if_pos hlm, hgm]
            refine Ev.bind hr ?_
            simp only [if_pos c]; exact Ev.now _
        | true =>
          refine ⟨t, evPos ?_, evPos ?_, all ?_⟩
          · simp only [spec_WheelOk.l0, if_pos hlt, if_pos h0, hg, if_neg a1, if_neg a2, if_neg a3, if_neg a4, if_pos a5, hwm, if_pos h0m, if_pos hlm, hgm, ahead_eq, ha, Option.bind_some, if_true, if_pos hle, htk]
            refine Ev.bind fd ?_
            simp only [if_neg q', hw]; exact k1
          · have c : ¬ r ≥ 0 := fun h => by have := hrr.mp h; rw [ha] at this; cases this
            simp only [impl_WheelOk.l0, if_pos hlt, if_pos h0, hg, isId_eq, Option.bind_some, bid, if_true, tm, if_pos q, hwn, within_eq, bw, if_pos a5, hwm, if_pos h0m, if_pos hlm, hgm]
            refine Ev.bind hr ?_
            simp only [if_neg c, hw]; exact k2
          · have z : ¬ i = 0 := by omega
            unfold wchk
            rw [bid, bw, if_neg z, ha, decide_eq_true q]; rfl
      · refine ⟨t, evPos ?_, evPos ?_, all ?_⟩
        · simp only [spec_WheelOk.l0, if_pos hlt, if_pos h0, hg, if_neg a1, if_neg a2, if_neg a3, if_neg a4, if_neg a5, if_pos hle, htk]
          refine Ev.bind fd ?_
          simp only [if_neg q', hw]; exact k1
        · simp only [impl_WheelOk.l0, if_pos hlt, if_pos h0, hg, isId_eq, Option.bind_some, bid, if_true, tm, if_pos q, hwn, within_eq, bw, if_neg a5, hw]
          exact k2
        · have z : i = 0 := by omega
          unfold wchk
          rw [bid, bw, if_pos z, decide_eq_true q]; rfl
    · have q' : ixOf (isT l[i].f0) (l.take i) 0 ≥ 0 := fi.mpr q
      refine ⟨false, evPos ?_, evPos ?_, fun h => by cases h⟩
      · by_cases a3 : l[i].f1 ≤ now
        · simp only [spec_WheelOk.l0, if_pos hlt, if_pos h0, hg, if_neg a1, if_neg a2, if_pos a3]; exact Ev.now _
        by_cases a4 : l[i].f1 > 2000000
        · simp only [spec_WheelOk.l0, if_pos hlt, if_pos h0, hg, if_neg a1, if_neg a2, if_neg a3, if_pos a4]; exact Ev.now _
        by_cases a5 : (i : Int) > 0
        · have hwm : wrap64 ((i : Int) - 1) = ((i - 1 : Nat) : Int) := by unfold wrap64; omega
          have hlm : ((i - 1 : Nat) : Int) < (l.length : Int) := by omega
          have h0m : (0 : Int) ≤ ((i - 1 : Nat) : Int) := by omega
          have hgm : rd_T123 l ((i - 1 : Nat) : Int) = l[i - 1]'(by omega) := by rw [rdT_lt h0m hlm]; rfl
          cases ha : aheadB (l[i - 1]'(by omega)).f0 (l[i - 1]'(by omega)).f1 l[i].f0 l[i].f1 with
          | false => simp only [spec_WheelOk.l0, if_pos hlt, if_pos h0, hg, if_neg a1, if_neg a2, if_neg a3, if_neg a4, if_pos a5, hwm, if_pos h0m, if_pos hlm, hgm, ahead_eq, ha, Option.bind_some, Bool.false_eq_true, if_false]; exact Ev.now _
          | true =>
            simp only [spec_WheelOk.l0, if_pos hlt, if_pos h0, hg, if_neg a1, if_neg a2, if_neg a3, if_neg a4, if_pos a5, hwm, if_pos h0m, if_pos hlm, hgm, ahead_eq, ha, Option.bind_some, if_true, if_pos hle, htk]
            refine Ev.bind fd ?_
            simp only [if_pos q']; exact Ev.now _
        · simp only [spec_WheelOk.l0, if_pos hlt, if_pos h0, hg, if_neg a1, if_neg a2, if_neg a3, if_neg a4, if_neg a5, if_pos hle, htk]
          refine Ev.bind fd ?_
          simp only [if_pos q']; exact Ev.now _
      · simp only [impl_WheelOk.l0, if_pos hlt, if_pos h0, hg, isId_eq, Option.bind_some, bid, if_true, tm, if_neg q]; exact Ev.now _
/-- What a valid wheel is. -/
def WhP (now : Int) (l : List TT) : Prop := 0 ≤ now ∧ now ≤ 1000000 ∧ l.length ≤ 40 ∧ ∀ j, ∀ hj : j < l.length, wchk now l j hj = true
theorem wheelOk_ev (now : Int) (l : List TT) (hl : l.length ≤ 1048576) : ∃ t : Bool, Ev (fun k => spec_WheelOk.f k now l) t ∧ Ev (fun k => impl_WheelOk.f k now l) t ∧ (t = true → WhP now l) := by
  unfold spec_WheelOk.f impl_WheelOk.f
  simp only [within_eq, Option.bind_some]
  have j1 : Ev (fun k => spec_WheelOk.j0 k true now l) false := by
    refine evPos ?_
    simp only [spec_WheelOk.j0, if_true]; exact Ev.now _
  have j2 : Ev (fun k => impl_WheelOk.j0 k true now l) false := by
    refine evPos ?_
    simp only [impl_WheelOk.j0, if_true]; exact Ev.now _
  by_cases n0 : now < 0
  · have b : (decide ((0 : Int) ≤ now) && decide (now ≤ 1000000)) = false := by rw [decide_eq_false (by omega : ¬ (0 : Int) ≤ now)]; rfl
    refine ⟨false, ?_, ?_, fun h => by cases h⟩
    · simp only [if_pos n0]; exact j1
    · simp only [b, Bool.false_eq_true, if_false]; exact j2
  by_cases n1 : now > 1000000
  · have b : (decide ((0 : Int) ≤ now) && decide (now ≤ 1000000)) = false := by rw [decide_eq_false (by omega : ¬ now ≤ 1000000)]; simp
    refine ⟨false, ?_, ?_, fun h => by cases h⟩
    · simp only [if_neg n0, if_pos n1]; exact j1
    · simp only [b, Bool.false_eq_true, if_false]; exact j2
  have b : (decide ((0 : Int) ≤ now) && decide (now ≤ 1000000)) = true := by
    rw [decide_eq_true (by omega : (0 : Int) ≤ now), decide_eq_true (by omega : now ≤ 1000000)]; rfl
  simp only [if_neg n0, if_neg n1, b, if_true]
  by_cases n2 : (l.length : Int) > 40
  · have c : decide ((l.length : Int) > 40) = true := decide_eq_true n2
    refine ⟨false, ?_, ?_, fun h => by cases h⟩
    · simp only [c]; exact j1
    · simp only [c]; exact j2
  · have c : decide ((l.length : Int) > 40) = false := decide_eq_false n2
    obtain ⟨t, e1, e2, ht⟩ := wheelOk_loop now l (by omega) (by omega) (by omega) l.length 0 (by omega) (by omega)
    refine ⟨t, ?_, ?_, fun h => ⟨by omega, by omega, by omega, fun j hj => ht h j hj (by omega)⟩⟩
    · simp only [c]
      refine evPos ?_
      simp only [spec_WheelOk.j0, Bool.false_eq_true, if_false]; exact e1
    · simp only [c]
      refine evPos ?_
      simp only [impl_WheelOk.j0, Bool.false_eq_true, if_false]; exact e2
theorem specDuty_loop (ttl now : Int) (l : List TT) (hl : l.length ≤ 1048576) (d : Nat) : ∀ (i : Nat), i ≤ l.length → l.length - i = d →
    Ev (fun k => spec_DutyOk.l0 k (i : Int) ttl now l) (!decide (ixOf (impl_DutyOk_c.p ttl now) (l.drop i) i ≥ 0)) := by
  induction d with
  | zero =>
    intro i h1 hd
    have hge : ¬ (i : Int) < (l.length : Int) := by omega
    refine evPos ?_
    simp only [spec_DutyOk.l0, if_neg hge]
    rw [List.drop_eq_nil_of_le (by omega)]
    exact Ev.now _
  | succ d ih =>
    intro i h1 hd
    have hlt : (i : Int) < (l.length : Int) := by omega
    have h0 : (0 : Int) ≤ (i : Int) := by omega
    have hn : i < l.length := by omega
    have hw : wrap64 ((i : Int) + 1) = ((i + 1 : Nat) : Int) := by unfold wrap64; omega
    have hg : rd_T123 l (i : Int) = l[i] := by rw [rdT_lt h0 hlt]; rfl
    refine evPos ?_
    simp only [spec_DutyOk.l0, if_pos hlt, if_pos h0, hg, hw]
    by_cases c : wrap64 (l[i].f1 - now) > ttl
    · simp only [if_pos c]
      rw [ixOf_at (impl_DutyOk_c.p ttl now) l i i hn (decide_eq_true c)]
      have z : decide ((i : Int) ≥ 0) = true := decide_eq_true (by omega)
      rw [z]
      exact Ev.now _
    · simp only [if_neg c]
      rw [ixOf_next (impl_DutyOk_c.p ttl now) l i i hn (decide_eq_false c)]
      exact ih (i + 1) (by omega) (by omega)
theorem both_ev (ttl now : Int) (l : List TT) (hl : l.length ≤ 1048576) : ∃ t : Bool, Ev (fun k => spec_DutyOk.f k ttl now l) t ∧ Ev (fun k => impl_DutyOk.f k ttl now l) t := by
  unfold spec_DutyOk.f impl_DutyOk.f
  simp only [within_eq, Option.bind_some]
  have j1 : Ev (fun k => spec_DutyOk.j0 k true ttl now l) false := by
    refine evPos ?_
    simp only [spec_DutyOk.j0, if_true]; exact Ev.now _
  by_cases n0 : ttl < 1
  · have b : (decide ((1 : Int) ≤ ttl) && decide (ttl ≤ 1000)) = false := by rw [decide_eq_false (by omega : ¬ (1 : Int) ≤ ttl)]; rfl
    refine ⟨false, ?_, ?_⟩
    · simp only [if_pos n0]; exact j1
    · simp only [b, Bool.false_eq_true, if_false]; exact Ev.now _
  by_cases n1 : ttl > 1000
  · have b : (decide ((1 : Int) ≤ ttl) && decide (ttl ≤ 1000)) = false := by rw [decide_eq_false (by omega : ¬ ttl ≤ 1000)]; simp
    refine ⟨false, ?_, ?_⟩
    · simp only [if_neg n0, if_pos n1]; exact j1
    · simp only [b, Bool.false_eq_true, if_false]; exact Ev.now _
  have b : (decide ((1 : Int) ≤ ttl) && decide (ttl ≤ 1000)) = true := by
    rw [decide_eq_true (by omega : (1 : Int) ≤ ttl), decide_eq_true (by omega : ttl ≤ 1000)]; rfl
  simp only [if_neg n0, if_neg n1, b, if_true]
  obtain ⟨t, t1, t2, ht⟩ := wheelOk_ev now l hl
  cases t with
  | false =>
    refine ⟨false, Ev.bind t1 ?_, Ev.bind t2 ?_⟩
    · simp only [Bool.false_eq_true, if_false]; exact j1
    · simp only [Bool.false_eq_true, if_false]; exact Ev.now _
  | true =>
    by_cases c : (l.length : Int) > 8
    · refine ⟨false, Ev.bind t1 ?_, Ev.bind t2 ?_⟩
      · simp only [if_true, decide_eq_true c]; exact j1
      · simp only [if_true, if_pos c]; exact Ev.now _
    · refine ⟨!decide (ixOf (impl_DutyOk_c.p ttl now) l 0 ≥ 0), Ev.bind t1 ?_, Ev.bind t2 ?_⟩
      · simp only [if_true, decide_eq_false c]
        refine evPos ?_
        simp only [spec_DutyOk.j0, Bool.false_eq_true, if_false]
        have := specDuty_loop ttl now l hl l.length 0 (by omega) (by omega)
        simpa using this
      · simp only [if_true, if_neg c]; exact Ev.now _
theorem FnExactDutyOk : AFnExactDutyOk.Stmt := by
  intro ttl now m
  intros
  suffices h : Ev (fun k => laws_FnExactDutyOk.f k ttl now m) true from h.rounds
  have hm : m.length ≤ 9223372036854775807 := by omega
  unfold laws_FnExactDutyOk.f
  have hsz : laws_szDuty.f ttl now m 1048576 = some (if (m.length : Int) ≤ 1048576 then 1048576 - (m.length : Int) else -1) := by
    unfold laws_szDuty.f
    rw [szWheel_at now 1048576 m hm (by omega) (by omega), Option.bind_some]
    by_cases h : (m.length : Int) ≤ 1048576
    · rw [if_pos h, if_neg (by omega)]
    · rw [if_neg h, if_pos (by omega)]
  rw [hsz]
  simp only [Option.bind_some]
  by_cases h3 : (m.length : Int) ≤ 1048576
  · have h4 : ¬ ((1048576 : Int) - m.length < 0) := by omega
    simp only [if_pos h3, if_neg h4]
    have tD : Ev (fun k => laws_toDuty.f k ttl now m) (ttl, now, m.map cvT) := by
      unfold laws_toDuty.f
      exact Ev.bind (toWheel_ev now m (by omega)) (Ev.now _)
    obtain ⟨t, hs, hi⟩ := both_ev ttl now (m.map cvT) (by simp; omega)
    have e' : Ev (fun k => laws_eqDuty.f k ttl now (m.map cvT) ttl now (m.map cvT)) true := by
      unfold laws_eqDuty.f
      simp only [if_true]
      refine Ev.bind (eqWheel_ev now (m.map cvT) (by simp; omega)) ?_
      simp only [if_true]
      exact Ev.now _
    refine Ev.bind tD ?_
    refine Ev.bind hs ?_
    refine Ev.bind tD ?_
    refine Ev.bind hi ?_
    simp only [bne_self_eq_false, Bool.false_eq_true, if_false]
    refine Ev.bind tD ?_
    refine Ev.bind e' ?_
    simp only [if_true]
    exact Ev.now _
  · simp only [if_neg h3]
    exact Ev.now _

end Go.Proofs.Ytoglmpigdipknaa.Pure
