/- The program's WheelTick gives what the reference's WheelTick gives, for every argument; its results share no memory with the arguments or one another. No condition. -/
import Derived.Test.YtigoajblljolcaaArgsFnExactWheelTick
namespace Go.Proofs.Ytigoajblljolcaa.Pure
open Go.RowKit Go.Proofs.Ytigoajblljolcaa.AFnExactWheelTick Go.Proofs.Ytigoajblljolcaa.XFnExactWheelTick Go.Proofs.YtigoajblljolcaaW.PrintWords Go.Proofs.YtigoajblljolcaaW.PrintLast Go.Proofs.YtigoajblljolcaaW.PrintMore
set_option linter.unusedSimpArgs false
set_option linter.unusedVariables false
theorem wrap_up {i : Int} {n : Nat} (h0 : 0 ≤ i) (h : i < (n : Int)) (hn : n ≤ 9223372036854775807) : wrap64 (i + 1) = i + 1 := by
  unfold wrap64; omega
theorem evPos {α : Type} {g : Nat → Option α} {r : α} (h : Ev (fun k => g (k + 1)) r) : Ev g r := by
  obtain ⟨K, hK⟩ := h
  refine ⟨K + 1, fun k hk => ?_⟩
  obtain ⟨m, rfl⟩ : ∃ m, k = m + 1 := ⟨k - 1, by omega⟩
  exact hK m (by omega)
theorem evConst {α : Type} {a : Option α} {r : α} (h : a = some r) : Ev (fun _ => a) r := ⟨0, fun _ _ => h⟩
theorem evShift {α : Type} {g : Nat → Option α} {r : α} (h : Ev g r) : Ev (fun k => g (k + 1)) r := by
  obtain ⟨K, hK⟩ := h
  exact ⟨K, fun k hk => hK (k + 1) (by omega)⟩
theorem evVal {α : Type} {g : Nat → Option α} {r r' : α} (h : Ev g r) (e : r = r') : Ev g r' := e ▸ h
theorem rd_lt {l : List Int} {i : Int} (h0 : 0 ≤ i) (h : i < (l.length : Int)) : rd l i = l[i.toNat]'(by omega) := by
  unfold rd; rw [List.getD_eq_getElem?_getD, List.getElem?_eq_getElem (by omega)]; rfl
theorem within_eq (a b c : Int) : impl_within.f a b c = some (decide (b ≤ a) && decide (a ≤ c)) := by
  unfold impl_within.f
  by_cases h : b ≤ a <;> simp [h]
theorem eqIntS_loop (l : List Int) (hl : l.length ≤ 35184372088832) (d : Nat) : ∀ (i : Int), 0 ≤ i → i ≤ l.length → (l.length : Int) - i = d → Ev (fun k => laws_eqIntS.l0 k l l i) true := by
  induction d with
  | zero =>
    intro i h0 h1 hd
    have hge : ¬ i < (l.length : Int) := by omega
    refine evPos ?_
    simp only [laws_eqIntS.l0, if_neg hge]
    exact Ev.now _
  | succ d ih =>
    intro i h0 h1 hd
    refine evPos ?_
    simp only [laws_eqIntS.l0]
    have hlt : i < (l.length : Int) := by omega
    have hw : wrap64 (i + 1) = i + 1 := wrap_up h0 hlt (by omega)
    simp only [if_pos hlt, if_pos h0, if_true, hw]
    exact ih (i + 1) (by omega) (by omega) (by omega)
theorem eqIntS_ev (l : List Int) (hl : l.length ≤ 35184372088832) : Ev (fun k => laws_eqIntS.f k l l) true := by
  unfold laws_eqIntS.f
  simp only [if_true]
  exact eqIntS_loop l hl l.length 0 (by omega) (by omega) (by omega)
/-! markIntS, heldIntS: what was marked is found so. -/
def marks (a : Int) (n : Nat) : List Int := (List.range n).map fun (i : Nat) => a + (i : Int)
theorem marks_length (a : Int) (n : Nat) : (marks a n).length = n := by simp [marks]
theorem marks_rd (a : Int) (n : Nat) {i : Int} (h0 : 0 ≤ i) (h : i < (n : Int)) : rd (marks a n) i = a + i := by
  rw [rd_lt h0 (by rw [marks_length]; exact h)]
  simp only [marks, List.getElem_map, List.getElem_range]
  omega
theorem markIntS_loop (n : Nat) (a : Int) (ha : 0 ≤ a) (hn : a + n ≤ 9223372036854775807) (d : Nat) : ∀ (x : List Int) (i : Int), 0 ≤ i → i ≤ n → (n : Int) - i = d → x.length = n → x.take i.toNat = (marks a n).take i.toNat →
    Ev (fun k => laws_markIntS.l0 k x (a + i) i) (a + n, marks a n) := by
  induction d with
  | zero =>
    intro x i h0 h1 hd hx ht
    have hge : ¬ i < (x.length : Int) := by omega
    refine evPos ?_
    simp only [laws_markIntS.l0, if_neg hge]
    refine evConst ?_
    have e : i.toNat = n := by omega
    have ei : i = n := by omega
    rw [e] at ht
    rw [List.take_of_length_le (by omega), List.take_of_length_le (by rw [marks_length]; omega)] at ht
    rw [ht, ei]
  | succ d ih =>
    intro x i h0 h1 hd hx ht
    refine evPos ?_
    have hlt : i < (x.length : Int) := by omega
    have hw : wrap64 (i + 1) = i + 1 := by unfold wrap64; omega
    have hw2 : wrap64 (a + i + 1) = a + (i + 1) := by unfold wrap64; omega
    simp only [laws_markIntS.l0, if_pos hlt, if_pos h0, hw, hw2]
    refine ih _ (i + 1) (by omega) (by omega) (by omega) (by simp [hx]) ?_
    have e : (i + 1).toNat = i.toNat + 1 := by omega
    have hi : i.toNat < (marks a n).length := by rw [marks_length]; omega
    have hi' : i.toNat < x.length := by omega
    rw [e, List.take_succ_eq_append_getElem hi, List.take_succ_eq_append_getElem (by simpa using hi'), List.take_set_of_le (Nat.le_refl _), ht, List.getElem_set_self, ← rd_lt h0 (by rw [marks_length]; omega), marks_rd a n h0 (by omega)]
theorem markIntS_ev (l : List Int) (a : Int) (ha : 0 ≤ a) (hn : a + l.length ≤ 9223372036854775807) : Ev (fun k => laws_markIntS.f k l a) (a + l.length, marks a l.length) := by
  unfold laws_markIntS.f
  have := markIntS_loop l.length a ha hn l.length l 0 (by omega) (by omega) (by omega) rfl (by simp)
  simpa using this
theorem heldIntS_loop (n : Nat) (a : Int) (ha : 0 ≤ a) (hn : a + n ≤ 9223372036854775807) (d : Nat) : ∀ (i : Int), 0 ≤ i → i ≤ n → (n : Int) - i = d →
    Ev (fun k => laws_heldIntS.l0 k (marks a n) (a + i) i) (a + n) := by
  induction d with
  | zero =>
    intro i h0 h1 hd
    have hge : ¬ i < ((marks a n).length : Int) := by rw [marks_length]; omega
    refine evPos ?_
    simp only [laws_heldIntS.l0, if_neg hge]
    exact evConst (by congr 1; omega)
  | succ d ih =>
    intro i h0 h1 hd
    refine evPos ?_
    have hlt : i < ((marks a n).length : Int) := by rw [marks_length]; omega
    have hw : wrap64 (i + 1) = i + 1 := by unfold wrap64; omega
    have hw2 : wrap64 (a + i + 1) = a + (i + 1) := by unfold wrap64; omega
    have hr := marks_rd a n h0 (by omega)
    simp only [laws_heldIntS.l0, if_pos hlt, if_pos h0, hr, if_true, hw, hw2]
    exact ih (i + 1) (by omega) (by omega) (by omega)
theorem heldIntS_ev (a : Int) (n : Nat) (ha : 0 ≤ a) (hn : a + n ≤ 9223372036854775807) : Ev (fun k => laws_heldIntS.f k (marks a n) a) (a + n) := by
  unfold laws_heldIntS.f
  have := heldIntS_loop n a ha hn n 0 (by omega) (by omega) (by omega)
  simpa using this
/-! Wheels of timers: their size, copied, compared. -/
abbrev TT := S133
def cvT (x : S170) : TT := ⟨x.f0, x.f1⟩
theorem rdTL_lt {l : List S170} {i : Int} (h0 : 0 ≤ i) (h : i < (l.length : Int)) : rd_T170 l i = l[i.toNat]'(by omega) := by
  unfold rd_T170; rw [List.getD_eq_getElem?_getD, List.getElem?_eq_getElem (by omega)]; rfl
theorem rdT_lt {l : List TT} {i : Int} (h0 : 0 ≤ i) (h : i < (l.length : Int)) : rd_T133 l i = l[i.toNat]'(by omega) := by
  unfold rd_T133; rw [List.getD_eq_getElem?_getD, List.getElem?_eq_getElem (by omega)]; rfl
theorem szWheel_at (a x : Int) (l : List S170) (hl : l.length ≤ 9223372036854775807) (hx : -1 ≤ x) (hx' : x ≤ 1048576) : laws_szWheel.f a l x = some (if (l.length : Int) ≤ x then x - (l.length : Int) else -1) := by
  unfold laws_szWheel.f laws_szTimerS.f
  have w : wrap64 (x - (l.length : Int)) = x - l.length := by unfold wrap64; omega
  rw [w]
  by_cases h : (l.length : Int) ≤ x
  · rw [if_neg (by omega), if_pos h, Option.bind_some, if_neg (by omega)]
  · rw [if_pos (by omega), if_neg h, Option.bind_some, if_pos (by omega)]
theorem toTimerS_loop (l : List S170) (hl : l.length ≤ 1048576) (d : Nat) : ∀ (x : List TT) (i : Int), 0 ≤ i → i ≤ l.length → (l.length : Int) - i = d → x.length = l.length → x.take i.toNat = (l.map cvT).take i.toNat →
    Ev (fun k => laws_toTimerS.l0 k l x i) (l.map cvT) := by
  induction d with
  | zero =>
    intro x i h0 h1 hd hx ht
    have hge : ¬ i < (l.length : Int) := by omega
    refine evPos ?_
    simp only [laws_toTimerS.l0, if_neg hge]
    refine evConst ?_
    rw [List.take_of_length_le (by omega), List.take_of_length_le (by simp; omega)] at ht
    rw [ht]
  | succ d ih =>
    intro x i h0 h1 hd hx ht
    have hlt : i < (l.length : Int) := by omega
    have hlt' : i < (x.length : Int) := by omega
    refine evPos ?_
    have hw : wrap64 (i + 1) = i + 1 := wrap_up h0 hlt (by omega)
    simp only [laws_toTimerS.l0, if_pos hlt, if_pos h0, rdTL_lt h0 hlt, if_pos hlt', laws_toTimer.f, Option.bind_some, hw]
    refine ih _ (i + 1) (by omega) (by omega) (by omega) (by simp [hx]) ?_
    have e : (i + 1).toNat = i.toNat + 1 := by omega
    rw [e, List.take_succ_eq_append_getElem (by simp; omega), List.take_succ_eq_append_getElem (by simp; omega)]
    rw [List.take_set_of_le (Nat.le_refl _), ht, List.getElem_set_self, List.getElem_map]
    rfl
theorem toWheel_ev (a : Int) (l : List S170) (hl : l.length ≤ 1048576) : Ev (fun k => laws_toWheel.f k a l) (a, l.map cvT) := by
  unfold laws_toWheel.f
  have h : Ev (fun k => laws_toTimerS.f k l) (l.map cvT) := by
    unfold laws_toTimerS.f
    have h1 : 0 ≤ (l.length : Int) := by omega
    have h2 : ((l.length : Int)).toNat ≤ 17592186044416 := by omega
    simp only [if_pos h1, if_pos h2]
    exact toTimerS_loop l hl l.length _ 0 (by omega) (by omega) (by omega) (by simp) (by simp)
  exact Ev.bind h (Ev.now _)
theorem eqTimerS_loop (l : List TT) (hl : l.length ≤ 1048576) (d : Nat) : ∀ (i : Int), 0 ≤ i → i ≤ l.length → (l.length : Int) - i = d → Ev (fun k => laws_eqTimerS.l0 k l l i) true := by
  induction d with
  | zero =>
    intro i h0 h1 hd
    have hge : ¬ i < (l.length : Int) := by omega
    refine evPos ?_
    simp only [laws_eqTimerS.l0, if_neg hge]
    exact Ev.now _
  | succ d ih =>
    intro i h0 h1 hd
    have hlt : i < (l.length : Int) := by omega
    refine evPos ?_
    have hw : wrap64 (i + 1) = i + 1 := wrap_up h0 hlt (by omega)
    simp only [laws_eqTimerS.l0, if_pos hlt, if_pos h0, hw, laws_eqTimer.f, if_true, Option.bind_some]
    exact ih (i + 1) (by omega) (by omega) (by omega)
theorem eqWheel_ev (a : Int) (l : List TT) (hl : l.length ≤ 1048576) : Ev (fun k => laws_eqWheel.f k a l a l) true := by
  unfold laws_eqWheel.f
  simp only [if_true]
  have h : Ev (fun k => laws_eqTimerS.f k l l) true := by
    unfold laws_eqTimerS.f
    simp only [if_true]
    exact eqTimerS_loop l hl l.length 0 (by omega) (by omega) (by omega)
  refine Ev.bind h ?_
  simp only [if_true]
  exact Ev.now _
/-! A wheel marked and found: what was marked is found so. -/
def marksT (a : Int) (n : Nat) : List TT := (List.range n).map fun (i : Nat) => ⟨a + 2 * (i : Int), a + 2 * (i : Int) + 1⟩
theorem marksT_length (a : Int) (n : Nat) : (marksT a n).length = n := by simp [marksT]
theorem rdT_set {l : List TT} {i : Int} (h0 : 0 ≤ i) (h : i < (l.length : Int)) (v : TT) : rd_T133 (l.set i.toNat v) i = v := by
  rw [rdT_lt h0 (by simpa using h), List.getElem_set_self]
theorem marksT_rd (a : Int) (n : Nat) {i : Int} (h0 : 0 ≤ i) (h : i < (n : Int)) : rd_T133 (marksT a n) i = ⟨a + 2 * i, a + 2 * i + 1⟩ := by
  rw [rdT_lt h0 (by rw [marksT_length]; exact h)]
  simp only [marksT, List.getElem_map, List.getElem_range]
  have e : ((i.toNat : Nat) : Int) = i := by omega
  rw [e]
theorem markTS_loop (n : Nat) (a : Int) (ha : 0 ≤ a) (hn : a + 2 * n ≤ 4611686018427387904) (d : Nat) : ∀ (x : List TT) (i : Int), 0 ≤ i → i ≤ n → (n : Int) - i = d → x.length = n → x.take i.toNat = (marksT a n).take i.toNat →
    Ev (fun k => laws_markTimerS.l0 k x (a + 2 * i) i) (a + 2 * n, marksT a n) := by
  induction d with
  | zero =>
    intro x i h0 h1 hd hx ht
    have hge : ¬ i < (x.length : Int) := by omega
    refine evPos ?_
    simp only [laws_markTimerS.l0, if_neg hge]
    refine evConst ?_
    have e : i.toNat = n := by omega
    have ei : i = n := by omega
    rw [e] at ht
    rw [List.take_of_length_le (by omega), List.take_of_length_le (by rw [marksT_length]; omega)] at ht
    rw [ht, ei]
  | succ d ih =>
    intro x i h0 h1 hd hx ht
    refine evPos ?_
    have hlt : i < (x.length : Int) := by omega
    have hw : wrap64 (i + 1) = i + 1 := by unfold wrap64; omega
    have w1 : wrap64 (a + 2 * i + 1) = a + 2 * i + 1 := by unfold wrap64; omega
    have w2 : wrap64 (a + 2 * i + 1 + 1) = a + 2 * (i + 1) := by unfold wrap64; omega
    simp only [laws_markTimerS.l0, if_pos hlt, if_pos h0, Option.bind_some, w1, w2, hw, List.set_set, rdT_set h0 hlt]
    refine ih _ (i + 1) (by omega) (by omega) (by omega) (by simp [hx]) ?_
    have e : (i + 1).toNat = i.toNat + 1 := by omega
    have hi : i.toNat < (marksT a n).length := by rw [marksT_length]; omega
    have hi' : i.toNat < x.length := by omega
    rw [e, List.take_succ_eq_append_getElem hi, List.take_succ_eq_append_getElem (by simpa using hi'), List.take_set_of_le (Nat.le_refl _), ht, List.getElem_set_self, ← rdT_lt h0 (by rw [marksT_length]; omega), marksT_rd a n h0 (by omega)]
theorem markWheel_ev (s : Int) (l : List TT) (a : Int) (ha : 0 ≤ a) (hn : a + 2 * l.length ≤ 4611686018427387904) : Ev (fun k => laws_markWheel.f k s l a) (a + 2 * l.length, marksT a l.length) := by
  have h : Ev (fun k => laws_markTimerS.f k l a) (a + 2 * l.length, marksT a l.length) := by
    unfold laws_markTimerS.f
    have := markTS_loop l.length a ha hn l.length l 0 (by omega) (by omega) (by omega) rfl (by simp)
    simpa using this
  unfold laws_markWheel.f
  refine Ev.bind h ?_
  exact Ev.now _
theorem heldTS_loop (n : Nat) (a : Int) (ha : 0 ≤ a) (hn : a + 2 * n ≤ 4611686018427387904) (d : Nat) : ∀ (i : Int), 0 ≤ i → i ≤ n → (n : Int) - i = d →
    Ev (fun k => laws_heldTimerS.l0 k (marksT a n) (a + 2 * i) i) (a + 2 * n) := by
  induction d with
  | zero =>
    intro i h0 h1 hd
    have hge : ¬ i < ((marksT a n).length : Int) := by rw [marksT_length]; omega
    refine evPos ?_
    simp only [laws_heldTimerS.l0, if_neg hge]
    exact evConst (by congr 1; omega)
  | succ d ih =>
    intro i h0 h1 hd
    refine evPos ?_
    have hlt : i < ((marksT a n).length : Int) := by rw [marksT_length]; omega
    have hw : wrap64 (i + 1) = i + 1 := by unfold wrap64; omega
    have w1 : wrap64 (a + 2 * i + 1) = a + 2 * i + 1 := by unfold wrap64; omega
    have w2 : wrap64 (a + 2 * i + 1 + 1) = a + 2 * (i + 1) := by unfold wrap64; omega
    have hr := marksT_rd a n h0 (by omega)
    simp only [laws_heldTimerS.l0, if_pos hlt, if_pos h0, hr, if_true, hw, w1, w2]
    exact ih (i + 1) (by omega) (by omega) (by omega)
theorem heldWheel_ev (s a : Int) (n : Nat) (ha : 0 ≤ a) (hn : a + 2 * n ≤ 4611686018427387904) : Ev (fun k => laws_heldWheel.f k s (marksT a n) a) (a + 2 * n) := by
  have h : Ev (fun k => laws_heldTimerS.f k (marksT a n) a) (a + 2 * n) := by
    unfold laws_heldTimerS.f
    have := heldTS_loop n a ha hn n 0 (by omega) (by omega) (by omega)
    simpa using this
  unfold laws_heldWheel.f
  refine Ev.bind h ?_
  have c1 : ¬ (a + 2 * (n : Int) < 0) := by omega
  simp only [if_neg c1]
  exact Ev.now _
/-! Valid wheels: the program's test and the reference's test give the same answer. -/
def isT (id : Int) (x : TT) : Bool := x.f0 == id
theorem timer_eq (a : Int) (l : List TT) (id : Int) (hl : l.length ≤ 1048576) : impl_Wheel_timer.f a l id = some (ixOf (isT id) l 0) := by
  unfold impl_Wheel_timer.f
  exact if_pos (by omega)
theorem l7find_loop (l : List TT) (hl : l.length ≤ 1048576) (id : Int) (d : Nat) : ∀ (i : Nat), i ≤ l.length → l.length - i = d → Ev (fun k => spec_l7find.l0 k l id (i : Int)) (ixOf (isT id) (l.drop i) i) := by
  induction d with
  | zero =>
    intro i h1 hd
    have hge : ¬ (i : Int) < (l.length : Int) := by omega
    refine evPos ?_
    simp only [spec_l7find.l0, if_neg hge]
    rw [List.drop_eq_nil_of_le (by omega)]
    exact Ev.now _
  | succ d ih =>
    intro i h1 hd
    have hlt : (i : Int) < (l.length : Int) := by omega
    have h0 : (0 : Int) ≤ (i : Int) := by omega
    have hn : i < l.length := by omega
    have hw : wrap64 ((i : Int) + 1) = ((i + 1 : Nat) : Int) := by unfold wrap64; omega
    have hg : rd_T133 l (i : Int) = l[i] := by rw [rdT_lt h0 hlt]; rfl
    refine evPos ?_
    simp only [spec_l7find.l0, if_pos hlt, if_pos h0, hg]
    by_cases c : l[i].f0 = id
    · simp only [if_pos c]
      rw [ixOf_at (isT id) l i i hn (beq_iff_eq.mpr c)]
      exact Ev.now _
    · simp only [if_neg c, hw]
      rw [ixOf_next (isT id) l i i hn (beq_eq_false_iff_ne.mpr c)]
      exact ih (i + 1) (by omega) (by omega)
theorem l7find_ev (l : List TT) (hl : l.length ≤ 1048576) (id : Int) : Ev (fun k => spec_l7find.f k l id) (ixOf (isT id) l 0) := by
  unfold spec_l7find.f
  have := l7find_loop l hl id l.length 0 (by omega) (by omega)
  simpa using this
/-- Found among those before it, or not: what the program asks of the whole list. -/
theorem first_iff (l : List TT) (i : Nat) (hi : i < l.length) : (ixOf (isT l[i].f0) (l.take i) 0 ≥ 0) ↔ ixOf (isT l[i].f0) l 0 ≠ (i : Int) := by
  have self : isT l[i].f0 l[i] = true := beq_iff_eq.mpr rfl
  rcases ixOf_spec (isT l[i].f0) l 0 with ⟨e, hn, _⟩ | ⟨k, hk, e, ht, hn, _⟩
  · have := hn l[i] (List.getElem_mem hi)
    rw [self] at this; exact absurd this (by decide)
  · have hki : k ≤ i := by
      rcases Nat.lt_or_ge i k with c | c
      · have := hn i c
        rw [self] at this; exact absurd this (by decide)
      · exact c
    rcases ixOf_spec (isT l[i].f0) (l.take i) 0 with ⟨e', hn', _⟩ | ⟨k', hk', e', ht', _, _⟩
    · rw [e', e]
      have : k = i := by
        rcases Nat.lt_or_ge k i with c | c
        · have h2 : k < (l.take i).length := by rw [List.length_take]; omega
          have := hn' ((l.take i)[k]'h2) (List.getElem_mem h2)
          rw [List.getElem_take, ht] at this; exact absurd this (by decide)
        · omega
      constructor
      · intro h; omega
      · intro h; exact absurd (by omega) h
    · rw [e', e]
      rw [List.length_take] at hk'
      have h3 : isT l[i].f0 (l[k']'(by omega)) = true := by rw [List.getElem_take] at ht'; exact ht'
      have : k ≤ k' := by
        rcases Nat.lt_or_ge k' k with c | c
        · have := hn k' c
          rw [h3] at this; exact absurd this (by decide)
        · exact c
      constructor
      · intro _; omega
      · intro _; omega
def cmpV (a b : Int) : Int := if a < b then -1 else if a > b then 1 else 0
theorem compare_eq (a b : Int) : cmp_Compare_int.f a b = some (cmpV a b) := by
  unfold cmp_Compare_int.f cmp_isNaN_int.f cmpV
  simp only [Option.bind_some, bne_self_eq_false, Bool.false_eq_true, if_false]
  by_cases h : a < b
  · simp only [if_pos h]
  · simp only [if_neg h]
    by_cases g : a > b
    · simp only [if_pos g]
    · simp only [if_neg g]
def aheadB (a0 a1 b0 b1 : Int) : Bool := decide (a1 < b1) || (decide (a1 = b1) && decide (a0 < b0))
theorem ahead_eq (a0 a1 b0 b1 : Int) : spec_l7ahead.f a0 a1 b0 b1 = some (aheadB a0 a1 b0 b1) := by
  unfold spec_l7ahead.f aheadB
  by_cases h : a1 < b1
  · simp [h]
  · by_cases g : a1 = b1
    · simp [g]
    · simp [h, g]
theorem cmpT_ev (a0 a1 b0 b1 : Int) : ∃ r : Int, Ev (fun k => impl_compareTimers.f k a0 a1 b0 b1) r ∧ (r ≥ 0 ↔ aheadB a0 a1 b0 b1 = false) := by
  unfold impl_compareTimers.f
  simp only [compare_eq, Option.bind_some]
  have w1 : wrap64 ((0 : Int) + 1) = 1 := by unfold wrap64; omega
  have w2 : wrap64 ((1 : Int) + 1) = 2 := by unfold wrap64; omega
  have r0 : rd [cmpV a1 b1, cmpV a0 b0] 0 = cmpV a1 b1 := rfl
  have r1 : rd [cmpV a1 b1, cmpV a0 b0] 1 = cmpV a0 b0 := rfl
  have l2 : (([cmpV a1 b1, cmpV a0 b0] : List Int).length : Int) = 2 := rfl
  have c02 : (0 : Int) < 2 := by omega
  have c12 : (1 : Int) < 2 := by omega
  have c22 : ¬ (2 : Int) < 2 := by omega
  have c00 : (0 : Int) ≤ 0 := by omega
  have c01 : (0 : Int) ≤ 1 := by omega
  by_cases h : cmpV a1 b1 = 0
  · by_cases g : cmpV a0 b0 = 0
    · refine ⟨0, Ev.bind (r := 0) ?_ (Ev.now _), ?_⟩
      · unfold cmp_Or_int.f
        refine evPos ?_
        simp only [cmp_Or_int.l0, l2, if_pos c02, if_pos c00, r0, if_pos h, w1]
        refine evPos ?_
        simp only [cmp_Or_int.l0, l2, if_pos c12, if_pos c01, r1, if_pos g, w2]
        refine evPos ?_
        simp only [cmp_Or_int.l0, if_neg c22]
        exact Ev.now _
      · unfold cmpV at h g
        unfold aheadB
        simp only [Bool.or_eq_false_iff, Bool.and_eq_false_iff, decide_eq_false_iff_not]
        split at h <;> split at g <;> (try split at h) <;> (try split at g) <;> omega
    · refine ⟨cmpV a0 b0, Ev.bind (r := cmpV a0 b0) ?_ (Ev.now _), ?_⟩
      · unfold cmp_Or_int.f
        refine evPos ?_
        simp only [cmp_Or_int.l0, l2, if_pos c02, if_pos c00, r0, if_pos h, w1]
        refine evPos ?_
        simp only [cmp_Or_int.l0, l2, if_pos c12, if_pos c01, r1, if_neg g]
        exact Ev.now _
      · unfold cmpV at h g ⊢
        unfold aheadB
        simp only [Bool.or_eq_false_iff, Bool.and_eq_false_iff, decide_eq_false_iff_not]
        split at h <;> split at g <;> (try split at h) <;> (try split at g) <;> omega
  · refine ⟨cmpV a1 b1, Ev.bind (r := cmpV a1 b1) ?_ (Ev.now _), ?_⟩
    · unfold cmp_Or_int.f
      refine evPos ?_
      simp only [cmp_Or_int.l0, l2, if_pos c02, if_pos c00, r0, if_neg h]
      exact Ev.now _
    · unfold cmpV at h ⊢
      unfold aheadB
      simp only [Bool.or_eq_false_iff, Bool.and_eq_false_iff, decide_eq_false_iff_not]
      split at h <;> (try split at h) <;> omega
/-- Both tests at one timer. -/
def wchk (now : Int) (l : List TT) (i : Nat) (hi : i < l.length) : Bool :=
  (decide (0 ≤ l[i].f0) && decide (l[i].f0 ≤ 2147483647)) && (decide (now + 1 ≤ l[i].f1) && decide (l[i].f1 ≤ 2000000)) && (if i = 0 then true else aheadB (l[i - 1]'(by omega)).f0 (l[i - 1]'(by omega)).f1 l[i].f0 l[i].f1) && decide (ixOf (isT l[i].f0) l 0 = (i : Int))
theorem isId_eq (x : Int) : impl_isId.f x = some (decide (0 ≤ x) && decide (x ≤ 2147483647)) := by
  unfold impl_isId.f
  rw [within_eq, Option.bind_some]
theorem wheelOk_loop (now : Int) (l : List TT) (hl : l.length ≤ 40) (n0 : 0 ≤ now) (n1 : now ≤ 1000000) (d : Nat) : ∀ (i : Nat), i ≤ l.length → l.length - i = d → ∃ t : Bool, Ev (fun k => spec_WheelOk.l0 k (i : Int) now l) t ∧ Ev (fun k => impl_WheelOk.l0 k l (l.length : Int) (i : Int) now l) t ∧ (t = true → ∀ j, ∀ hj : j < l.length, i ≤ j → wchk now l j hj = true) := by
  induction d with
  | zero =>
    intro i h1 hd
    have hge : ¬ (i : Int) < (l.length : Int) := by omega
    refine ⟨true, evPos ?_, evPos ?_, fun _ j hj c => by omega⟩
    · simp only [spec_WheelOk.l0, if_neg hge]; exact Ev.now _
    · simp only [impl_WheelOk.l0, if_neg hge]; exact Ev.now _
  | succ d ih =>
    intro i h1 hd
    have hlt : (i : Int) < (l.length : Int) := by omega
    have h0 : (0 : Int) ≤ (i : Int) := by omega
    have hn : i < l.length := by omega
    have hw : wrap64 ((i : Int) + 1) = ((i + 1 : Nat) : Int) := by unfold wrap64; omega
    have hwn : wrap64 (now + 1) = now + 1 := by unfold wrap64; omega
    have hg : rd_T133 l (i : Int) = l[i] := by rw [rdT_lt h0 hlt]; rfl
    have hle : (i : Int) ≤ (l.length : Int) := by omega
    have htk : l.take ((i : Int)).toNat = l.take i := rfl
    have fd := l7find_ev (l.take i) (by rw [List.length_take]; omega) l[i].f0
    have tm := timer_eq now l l[i].f0 (by omega)
    have fi := first_iff l i hn
    obtain ⟨t, k1, k2, k3⟩ := ih (i + 1) (by omega) (by omega)
    have all : (wchk now l i hn = true → t = true → ∀ j, ∀ hj : j < l.length, i ≤ j → wchk now l j hj = true) := fun a b j hj c => by
      rcases Nat.eq_or_lt_of_le c with e | c
      · subst e; exact a
      · exact k3 b j hj c
    by_cases a1 : l[i].f0 < 0
    · refine ⟨false, evPos ?_, evPos ?_, fun h => by cases h⟩
      · simp only [spec_WheelOk.l0, if_pos hlt, if_pos h0, hg, if_pos a1]; exact Ev.now _
      · have b1 : (decide (0 ≤ l[i].f0) && decide (l[i].f0 ≤ 2147483647)) = false := by rw [decide_eq_false (by omega : ¬ 0 ≤ l[i].f0)]; rfl
        simp only [impl_WheelOk.l0, if_pos hlt, if_pos h0, hg, isId_eq, Option.bind_some, b1, Bool.false_eq_true, if_false]; exact Ev.now _
    by_cases a2 : l[i].f0 > 2147483647
    · refine ⟨false, evPos ?_, evPos ?_, fun h => by cases h⟩
      · simp only [spec_WheelOk.l0, if_pos hlt, if_pos h0, hg, if_neg a1, if_pos a2]; exact Ev.now _
      · have b1 : (decide (0 ≤ l[i].f0) && decide (l[i].f0 ≤ 2147483647)) = false := by rw [decide_eq_false (by omega : ¬ l[i].f0 ≤ 2147483647)]; simp
        simp only [impl_WheelOk.l0, if_pos hlt, if_pos h0, hg, isId_eq, Option.bind_some, b1, Bool.false_eq_true, if_false]; exact Ev.now _
    have bid : (decide (0 ≤ l[i].f0) && decide (l[i].f0 ≤ 2147483647)) = true := by
      rw [decide_eq_true (by omega : 0 ≤ l[i].f0), decide_eq_true (by omega : l[i].f0 ≤ 2147483647)]; rfl
    by_cases q : ixOf (isT l[i].f0) l 0 = (i : Int)
    · have q' : ¬ (ixOf (isT l[i].f0) (l.take i) 0 ≥ 0) := fun h => fi.mp h q
      by_cases a3 : l[i].f1 ≤ now
      · refine ⟨false, evPos ?_, evPos ?_, fun h => by cases h⟩
        · simp only [spec_WheelOk.l0, if_pos hlt, if_pos h0, hg, if_neg a1, if_neg a2, if_pos a3]; exact Ev.now _
        · have b1 : (decide (now + 1 ≤ l[i].f1) && decide (l[i].f1 ≤ 2000000)) = false := by rw [decide_eq_false (by omega : ¬ now + 1 ≤ l[i].f1)]; rfl
          simp only [impl_WheelOk.l0, if_pos hlt, if_pos h0, hg, isId_eq, Option.bind_some, bid, if_true, tm, if_pos q, hwn, within_eq, b1, Bool.false_eq_true, if_false]; exact Ev.now _
      by_cases a4 : l[i].f1 > 2000000
      · refine ⟨false, evPos ?_, evPos ?_, fun h => by cases h⟩
        · simp only [spec_WheelOk.l0, if_pos hlt, if_pos h0, hg, if_neg a1, if_neg a2, if_neg a3, if_pos a4]; exact Ev.now _
        · have b1 : (decide (now + 1 ≤ l[i].f1) && decide (l[i].f1 ≤ 2000000)) = false := by rw [decide_eq_false (by omega : ¬ l[i].f1 ≤ 2000000)]; simp
          simp only [impl_WheelOk.l0, if_pos hlt, if_pos h0, hg, isId_eq, Option.bind_some, bid, if_true, tm, if_pos q, hwn, within_eq, b1, Bool.false_eq_true, if_false]; exact Ev.now _
      have bw : (decide (now + 1 ≤ l[i].f1) && decide (l[i].f1 ≤ 2000000)) = true := by
        rw [decide_eq_true (by omega : now + 1 ≤ l[i].f1), decide_eq_true (by omega : l[i].f1 ≤ 2000000)]; rfl
      by_cases a5 : (i : Int) > 0
      · have hwm : wrap64 ((i : Int) - 1) = ((i - 1 : Nat) : Int) := by unfold wrap64; omega
        have hlm : ((i - 1 : Nat) : Int) < (l.length : Int) := by omega
        have h0m : (0 : Int) ≤ ((i - 1 : Nat) : Int) := by omega
        have hgm : rd_T133 l ((i - 1 : Nat) : Int) = l[i - 1]'(by omega) := by rw [rdT_lt h0m hlm]; rfl
        obtain ⟨r, hr, hrr⟩ := cmpT_ev (l[i - 1]'(by omega)).f0 (l[i - 1]'(by omega)).f1 l[i].f0 l[i].f1
        cases ha : aheadB (l[i - 1]'(by omega)).f0 (l[i - 1]'(by omega)).f1 l[i].f0 l[i].f1 with
        | false =>
          refine ⟨false, evPos ?_, evPos ?_, fun h => by cases h⟩
          · simp only [spec_WheelOk.l0, if_pos hlt, if_pos h0, hg, if_neg a1, if_neg a2, if_neg a3, if_neg a4, if_pos a5, hwm, if_pos h0m, if_pos hlm, hgm, ahead_eq, ha, Option.bind_some, Bool.false_eq_true, if_false]; exact Ev.now _
          · have c := hrr.mpr ha
            simp only [impl_WheelOk.l0, if_pos hlt, if_pos h0, hg, isId_eq, Option.bind_some, bid, if_true, tm, if_pos q, hwn, within_eq, bw, if_pos a5, hwm, if_pos h0m, if_pos hlm, hgm]
            refine Ev.bind hr ?_
            simp only [if_pos c]; exact Ev.now _
        | true =>
          refine ⟨t, evPos ?_, evPos ?_, all ?_⟩
          · simp only [spec_WheelOk.l0, if_pos hlt, if_pos h0, hg, if_neg a1, if_neg a2, if_neg a3, if_neg a4, if_pos a5, hwm, if_pos h0m, if_pos hlm, hgm, ahead_eq, ha, Option.bind_some, if_true, if_pos hle, htk]
            refine Ev.bind fd ?_
            simp only [if_neg q', hw]; exact k1
          · have c : ¬ r ≥ 0 := fun h => by have := hrr.mp h; rw [ha] at this; cases this
            simp only [impl_WheelOk.l0, if_pos hlt, if_pos h0, hg, isId_eq, Option.bind_some, bid, if_true, tm, if_pos q, hwn, within_eq, bw, if_pos a5, hwm, if_pos h0m, if_pos hlm, hgm]
            refine Ev.bind hr ?_
            simp only [if_neg c, hw]; exact k2
          · have z : ¬ i = 0 := by omega
            unfold wchk
            rw [bid, bw, if_neg z, ha, decide_eq_true q]; rfl
      · refine ⟨t, evPos ?_, evPos ?_, all ?_⟩
        · simp only [spec_WheelOk.l0, if_pos hlt, if_pos h0, hg, if_neg a1, if_neg a2, if_neg a3, if_neg a4, if_neg a5, if_pos hle, htk]
          refine Ev.bind fd ?_
          simp only [if_neg q', hw]; exact k1
        · simp only [impl_WheelOk.l0, if_pos hlt, if_pos h0, hg, isId_eq, Option.bind_some, bid, if_true, tm, if_pos q, hwn, within_eq, bw, if_neg a5, hw]
          exact k2
        · have z : i = 0 := by omega
          unfold wchk
          rw [bid, bw, if_pos z, decide_eq_true q]; rfl
    · have q' : ixOf (isT l[i].f0) (l.take i) 0 ≥ 0 := fi.mpr q
      refine ⟨false, evPos ?_, evPos ?_, fun h => by cases h⟩
      · by_cases a3 : l[i].f1 ≤ now
        · simp only [spec_WheelOk.l0, if_pos hlt, if_pos h0, hg, if_neg a1, if_neg a2, if_pos a3]; exact Ev.now _
        by_cases a4 : l[i].f1 > 2000000
        · simp only [spec_WheelOk.l0, if_pos hlt, if_pos h0, hg, if_neg a1, if_neg a2, if_neg a3, if_pos a4]; exact Ev.now _
        by_cases a5 : (i : Int) > 0
        · have hwm : wrap64 ((i : Int) - 1) = ((i - 1 : Nat) : Int) := by unfold wrap64; omega
          have hlm : ((i - 1 : Nat) : Int) < (l.length : Int) := by omega
          have h0m : (0 : Int) ≤ ((i - 1 : Nat) : Int) := by omega
          have hgm : rd_T133 l ((i - 1 : Nat) : Int) = l[i - 1]'(by omega) := by rw [rdT_lt h0m hlm]; rfl
          cases ha : aheadB (l[i - 1]'(by omega)).f0 (l[i - 1]'(by omega)).f1 l[i].f0 l[i].f1 with
          | false => simp only [spec_WheelOk.l0, if_pos hlt, if_pos h0, hg, if_neg a1, if_neg a2, if_neg a3, if_neg a4, if_pos a5, hwm, if_pos h0m, if_pos hlm, hgm, ahead_eq, ha, Option.bind_some, Bool.false_eq_true, if_false]; exact Ev.now _
          | true =>
            simp only [spec_WheelOk.l0, if_pos hlt, if_pos h0, hg, if_neg a1, if_neg a2, if_neg a3, if_neg a4, if_pos a5, hwm, if_pos h0m, if_pos hlm, hgm, ahead_eq, ha, Option.bind_some, if_true, if_pos hle, htk]
            refine Ev.bind fd ?_
            simp only [if_pos q']; exact Ev.now _
        · simp only [spec_WheelOk.l0, if_pos hlt, if_pos h0, hg, if_neg a1, if_neg a2, if_neg a3, if_neg a4, if_neg a5, if_pos hle, htk]
          refine Ev.bind fd ?_
          simp only [if_pos q']; exact Ev.now _
      · simp only [impl_WheelOk.l0, if_pos hlt, if_pos h0, hg, isId_eq, Option.bind_some, bid, if_true, tm, if_neg q]; exact Ev.now _
/-- What a valid wheel is. -/
def WhP (now : Int) (l : List TT) : Prop := 0 ≤ now ∧ now ≤ 1000000 ∧ l.length ≤ 40 ∧ ∀ j, ∀ hj : j < l.length, wchk now l j hj = true
theorem wheelOk_ev (now : Int) (l : List TT) (hl : l.length ≤ 1048576) : ∃ t : Bool, Ev (fun k => spec_WheelOk.f k now l) t ∧ Ev (fun k => impl_WheelOk.f k now l) t ∧ (t = true → WhP now l) := by
  unfold spec_WheelOk.f impl_WheelOk.f
  simp only [within_eq, Option.bind_some]
  have j1 : Ev (fun k => spec_WheelOk.j0 k true now l) false := by
    refine evPos ?_
    simp only [spec_WheelOk.j0, if_true]; exact Ev.now _
  have j2 : Ev (fun k => impl_WheelOk.j0 k true now l) false := by
    refine evPos ?_
    simp only [impl_WheelOk.j0, if_true]; exact Ev.now _
  by_cases n0 : now < 0
  · have b : (decide ((0 : Int) ≤ now) && decide (now ≤ 1000000)) = false := by rw [decide_eq_false (by omega : ¬ (0 : Int) ≤ now)]; rfl
    refine ⟨false, ?_, ?_, fun h => by cases h⟩
    · simp only [if_pos n0]; exact j1
    · simp only [b, Bool.false_eq_true, if_false]; exact j2
  by_cases n1 : now > 1000000
  · have b : (decide ((0 : Int) ≤ now) && decide (now ≤ 1000000)) = false := by rw [decide_eq_false (by omega : ¬ now ≤ 1000000)]; simp
    refine ⟨false, ?_, ?_, fun h => by cases h⟩
    · simp only [if_neg n0, if_pos n1]; exact j1
    · simp only [b, Bool.false_eq_true, if_false]; exact j2
  have b : (decide ((0 : Int) ≤ now) && decide (now ≤ 1000000)) = true := by
    rw [decide_eq_true (by omega : (0 : Int) ≤ now), decide_eq_true (by omega : now ≤ 1000000)]; rfl
  simp only [if_neg n0, if_neg n1, b, if_true]
  by_cases n2 : (l.length : Int) > 40
  · have c : decide ((l.length : Int) > 40) = true := decide_eq_true n2
    refine ⟨false, ?_, ?_, fun h => by cases h⟩
    · simp only [c]; exact j1
    · simp only [c]; exact j2
  · have c : decide ((l.length : Int) > 40) = false := decide_eq_false n2
    obtain ⟨t, e1, e2, ht⟩ := wheelOk_loop now l (by omega) (by omega) (by omega) l.length 0 (by omega) (by omega)
    refine ⟨t, ?_, ?_, fun h => ⟨by omega, by omega, by omega, fun j hj => ht h j hj (by omega)⟩⟩
    · simp only [c]
      refine evPos ?_
      simp only [spec_WheelOk.j0, Bool.false_eq_true, if_false]; exact e1
    · simp only [c]
      refine evPos ?_
      simp only [impl_WheelOk.j0, Bool.false_eq_true, if_false]; exact e2
theorem implOwnW_eq (a : Int) (l : List TT) (hl : l.length ≤ 1048576) : impl_Wheel_own.f a l = some (a, l) := by
  unfold impl_Wheel_own.f impl_Timer_142.f
  rw [if_pos (by omega), Option.bind_some]
theorem specOwnW_eq (a : Int) (l : List TT) (hl : l.length ≤ 1048576) : spec_l7own.f a l = some (a, l) := by
  unfold spec_l7own.f
  simp only [Option.bind_some, List.nil_append, List.length_nil, Nat.zero_add]
  exact if_pos (by omega)
def dueB (t : Int) (x : TT) : Bool := decide (x.f1 ≤ t)
theorem asc_of {now : Int} {l : List TT} (h : WhP now l) : l.Pairwise fun x y => x.f1 ≤ y.f1 := by
  rw [List.pairwise_iff_getElem]
  have step : ∀ i, ∀ (hi : i + 1 < l.length), (l[i]'(by omega)).f1 ≤ l[i + 1].f1 := by
    intro i hi
    have := h.2.2.2 (i + 1) hi
    have z : ¬ i + 1 = 0 := by omega
    unfold wchk at this
    simp only [Bool.and_eq_true] at this
    have a := this.1.2
    rw [if_neg z] at a
    unfold aheadB at a
    simp only [Bool.or_eq_true, Bool.and_eq_true, decide_eq_true_eq, Nat.add_sub_cancel] at a
    omega
  intro i j hi hj hij
  induction j with
  | zero => omega
  | succ j ih =>
    have s := step j hj
    rcases Nat.lt_or_ge i j with c | c
    · have := ih (by omega) c
      omega
    · have e : i = j := by omega
      subst e
      exact s
theorem implTick_loop (t : Int) : ∀ (z : List TT) (y : List Int), z.Pairwise (fun x y => x.f1 ≤ y.f1) → y.length + z.length ≤ 1048576 →
    Ev (fun k => impl_Wheel_tick.l0 k y t z) (y ++ (z.filter (dueB t)).map (fun x => x.f0), t, z.filter fun x => !dueB t x) := by
  intro z
  induction z with
  | nil =>
    intro y _ _
    have c : ¬ ((([] : List TT).length : Int) > 0) := by simp
    refine evPos ?_
    simp only [impl_Wheel_tick.l0, if_neg c, List.filter_nil, List.map_nil, List.append_nil]
    exact Ev.now _
  | cons x z ih =>
    intro y hp hy
    rw [List.length_cons] at hy
    rw [List.pairwise_cons] at hp
    have c : ((x :: z).length : Int) > 0 := by rw [List.length_cons]; omega
    have c' : (0 : Int) < ((x :: z).length : Int) := c
    have c1 : (1 : Int) ≤ ((x :: z).length : Int) := by omega
    have hr : rd_T133 (x :: z) 0 = x := by
      rw [rdT_lt (Int.le_refl 0) c']; rfl
    have hd : (x :: z).drop ((1 : Int)).toNat = z := rfl
    refine evPos ?_
    simp only [impl_Wheel_tick.l0, if_pos c, if_pos c', hr]
    by_cases g : x.f1 ≤ t
    · have b : dueB t x = true := decide_eq_true g
      have yl : y.length < 17592186044416 := by omega
      simp only [if_pos g, if_pos yl, if_pos c1, hd]
      have := ih (y ++ [x.f0]) hp.2 (by rw [List.length_append, List.length_singleton]; omega)
      rw [List.filter_cons_of_pos b, List.filter_cons_of_neg (by simp [b]), List.map_cons]
      simpa only [List.append_assoc, List.singleton_append] using this
    · have b : dueB t x = false := decide_eq_false g
      have all : ∀ w ∈ z, dueB t w = false := fun w hw => by
        have := hp.1 w hw
        exact decide_eq_false (by omega)
      have e1 : (x :: z).filter (dueB t) = [] := by
        rw [List.filter_eq_nil_iff]
        intro w hw
        rcases List.mem_cons.1 hw with rfl | hw
        · rw [b]; decide
        · rw [all w hw]; decide
      have e2 : ((x :: z).filter fun x => !dueB t x) = x :: z := by
        rw [List.filter_eq_self]
        intro w hw
        rcases List.mem_cons.1 hw with rfl | hw
        · rw [b]; rfl
        · rw [all w hw]; rfl
      simp only [if_neg g]
      rw [e1, e2, List.map_nil, List.append_nil]
      exact Ev.now _
theorem specTick_loop (now t : Int) (l : List TT) (hl : l.length ≤ 1048576) (d : Nat) : ∀ (i : Nat) (y : List Int) (q : List TT), i ≤ l.length → l.length - i = d → y.length ≤ i → q.length ≤ i →
    Ev (fun k => spec_WheelTick.l0 k y (i : Int) now l t q) (t, q ++ ((l.drop i).filter fun x => !dueB t x), y ++ ((l.drop i).filter (dueB t)).map (fun x => x.f0)) := by
  induction d with
  | zero =>
    intro i y q h1 hd hy hq
    have hge : ¬ (i : Int) < (l.length : Int) := by omega
    refine evPos ?_
    simp only [spec_WheelTick.l0, if_neg hge]
    rw [List.drop_eq_nil_of_le (by omega), List.filter_nil, List.filter_nil, List.map_nil, List.append_nil, List.append_nil]
    exact Ev.now _
  | succ d ih =>
    intro i y q h1 hd hy hq
    have hlt : (i : Int) < (l.length : Int) := by omega
    have h0 : (0 : Int) ≤ (i : Int) := by omega
    have hn : i < l.length := by omega
    have hw : wrap64 ((i : Int) + 1) = ((i + 1 : Nat) : Int) := by unfold wrap64; omega
    have hg : rd_T133 l (i : Int) = l[i] := by rw [rdT_lt h0 hlt]; rfl
    have yl : y.length < 17592186044416 := by omega
    have ql : q.length < 8796093022208 := by omega
    refine evPos ?_
    simp only [spec_WheelTick.l0, if_pos hlt, if_pos h0, hg, hw]
    rw [List.drop_eq_getElem_cons hn]
    by_cases g : l[i].f1 ≤ t
    · have b : dueB t l[i] = true := decide_eq_true g
      simp only [if_pos g, if_pos yl]
      rw [List.filter_cons_of_pos b, List.filter_cons_of_neg (by simp [b]), List.map_cons]
      have := ih (i + 1) (y ++ [l[i].f0]) q (by omega) (by omega) (by rw [List.length_append, List.length_singleton]; omega) (by omega)
      simpa only [List.append_assoc, List.singleton_append] using this
    · have b : dueB t l[i] = false := decide_eq_false g
      simp only [if_neg g, if_pos ql]
      rw [List.filter_cons_of_pos (p := fun x => !dueB t x) (by simp [b]), List.filter_cons_of_neg (p := dueB t) (by simp [b])]
      have := ih (i + 1) y (q ++ [l[i]]) (by omega) (by omega) (by omega) (by rw [List.length_append, List.length_singleton]; omega)
      simpa only [List.append_assoc, List.singleton_append] using this
theorem both_ev (now : Int) (l : List TT) (n : Int) (hl : l.length ≤ 1048576) :
    ∃ R : Int × List TT × List Int, R.2.1.length ≤ 1048576 ∧ R.2.2.length ≤ 1048576 ∧ Ev (fun k => spec_WheelTick.f k now l n) R ∧ Ev (fun k => impl_WheelTick.f k now l n) R := by
  obtain ⟨t, t1, t2, ht⟩ := wheelOk_ev now l hl
  unfold spec_WheelTick.f impl_WheelTick.f
  cases t with
  | false =>
    refine ⟨(0, [], []), by simp, by simp, Ev.bind t1 ?_, Ev.bind t2 ?_⟩
    · simp only [Bool.false_eq_true, if_false]; exact Ev.now _
    · simp only [Bool.false_eq_true, if_false]; exact Ev.now _
  | true =>
    have hP := ht rfl
    have hw : wrap64 (1000000 - now) = 1000000 - now := by
      have := hP.1; have := hP.2.1
      unfold wrap64; omega
    have j1 : Ev (fun k => spec_WheelTick.j0 k n true now l) (now, l, ([] : List Int)) := by
      refine evPos ?_
      simp only [spec_WheelTick.j0, if_true, specOwnW_eq now l hl, Option.bind_some]; exact Ev.now _
    by_cases n0 : n < 0
    · have b : (decide ((0 : Int) ≤ n) && decide (n ≤ 1000000 - now)) = false := by rw [decide_eq_false (by omega : ¬ (0 : Int) ≤ n)]; rfl
      refine ⟨(now, l, []), hl, by simp, Ev.bind t1 ?_, Ev.bind t2 ?_⟩
      · simp only [if_true, if_pos n0]; exact j1
      · simp only [if_true, implOwnW_eq now l hl, Option.bind_some, within_eq, hw, b, Bool.false_eq_true, if_false]
        exact Ev.now _
    by_cases n1 : n > 1000000 - now
    · have b : (decide ((0 : Int) ≤ n) && decide (n ≤ 1000000 - now)) = false := by rw [decide_eq_false (by omega : ¬ n ≤ 1000000 - now)]; simp
      refine ⟨(now, l, []), hl, by simp, Ev.bind t1 ?_, Ev.bind t2 ?_⟩
      · simp only [if_true, if_neg n0, hw, decide_eq_true n1]; exact j1
      · simp only [if_true, implOwnW_eq now l hl, Option.bind_some, within_eq, hw, b, Bool.false_eq_true, if_false]
        exact Ev.now _
    · have b : (decide ((0 : Int) ≤ n) && decide (n ≤ 1000000 - now)) = true := by
        rw [decide_eq_true (by omega : (0 : Int) ≤ n), decide_eq_true (by omega : n ≤ 1000000 - now)]; rfl
      have l1 : (l.filter fun x => !dueB (wrap64 (now + n)) x).length ≤ 1048576 := Nat.le_trans (List.length_filter_le _ _) hl
      have l2 : ((l.filter (dueB (wrap64 (now + n)))).map (fun x => x.f0)).length ≤ 1048576 := by
        rw [List.length_map]; exact Nat.le_trans (List.length_filter_le _ _) hl
      refine ⟨(wrap64 (now + n), l.filter fun x => !dueB (wrap64 (now + n)) x, (l.filter (dueB (wrap64 (now + n)))).map (fun x => x.f0)), l1, l2, Ev.bind t1 ?_, Ev.bind t2 ?_⟩
      · simp only [if_true, if_neg n0, hw, decide_eq_false n1]
        refine evPos ?_
        simp only [spec_WheelTick.j0, Bool.false_eq_true, if_false]
        have := specTick_loop now (wrap64 (now + n)) l hl l.length 0 [] [] (by omega) (by omega) (by simp) (by simp)
        simpa using this
      · simp only [if_true, implOwnW_eq now l hl, Option.bind_some, within_eq, hw, b]
        have hT : Ev (fun k => impl_Wheel_tick.f k now l n) ((l.filter (dueB (wrap64 (now + n)))).map (fun x => x.f0), wrap64 (now + n), l.filter fun x => !dueB (wrap64 (now + n)) x) := by
          unfold impl_Wheel_tick.f
          have := implTick_loop (wrap64 (now + n)) l [] (asc_of hP) (by simpa using hl)
          simpa using this
        refine Ev.bind hT ?_
        exact Ev.now _
theorem FnExactWheelTick : AFnExactWheelTick.Stmt := by
  intro now m n
  intros
  suffices h : Ev (fun k => laws_FnExactWheelTick.f k now m n) true from h.rounds
  have hm : m.length ≤ 9223372036854775807 := by omega
  unfold laws_FnExactWheelTick.f
  rw [szWheel_at now 1048576 m hm (by omega) (by omega)]
  simp only [Option.bind_some]
  by_cases h3 : (m.length : Int) ≤ 1048576
  · have h4 : ¬ ((1048576 : Int) - m.length < 0) := by omega
    simp only [if_pos h3, if_neg h4]
    have tT := toWheel_ev now m (by omega)
    obtain ⟨⟨R0, R1, R2⟩, hR, hR2, hs, hi⟩ := both_ev now (m.map cvT) n (by simp; omega)
    simp only at hR hR2
    have e' := eqWheel_ev R0 R1 hR
    have e2 := eqIntS_ev R2 (by omega)
    refine Ev.bind tT ?_
    refine Ev.bind hs ?_
    refine Ev.bind tT ?_
    refine Ev.bind hi ?_
    refine Ev.bind e' ?_
    simp only [if_true]
    refine Ev.bind e2 ?_
    simp only [Bool.not_true]
    refine evPos ?_
    simp only [laws_FnExactWheelTick.j0, Bool.false_eq_true, if_false]
    refine Ev.bind tT ?_
    refine Ev.bind (eqWheel_ev now (m.map cvT) (by simp; omega)) ?_
    simp only [if_true]
    refine Ev.bind (markWheel_ev now (m.map cvT) 1 (by omega) (by simp; omega)) ?_
    have c1 : ¬ ((1 : Int) + 2 * ((m.map cvT).length : Int) < 0) := by omega
    simp only [if_neg c1]
    refine Ev.bind e' ?_
    simp only [if_true]
    refine Ev.bind e2 ?_
    simp only [Bool.not_true]
    refine evPos ?_
    simp only [laws_FnExactWheelTick.j1, Bool.false_eq_true, if_false]
    refine Ev.bind (markWheel_ev R0 R1 1 (by omega) (by omega)) ?_
    refine Ev.bind (markIntS_ev R2 (1 + 2 * R1.length) (by omega) (by omega)) ?_
    refine Ev.bind (heldWheel_ev R0 1 R1.length (by omega) (by omega)) ?_
    have c2 : ¬ ((1 : Int) + 2 * (R1.length : Int) < 0) := by omega
    simp only [if_neg c2]
    refine Ev.bind (heldIntS_ev (1 + 2 * R1.length) R2.length (by omega) (by omega)) ?_
    have c3 : ¬ ((1 : Int) + 2 * (R1.length : Int) + (R2.length : Int) < 0) := by omega
    simp only [if_neg c3, if_true]
    refine Ev.bind tT ?_
    refine Ev.bind hi ?_
    refine Ev.bind e' ?_
    simp only [if_true]
    refine Ev.bind e2 ?_
    simp only [Bool.not_true]
    refine evPos ?_
    simp only [laws_FnExactWheelTick.j2, Bool.false_eq_true, if_false]
    refine Ev.bind (heldWheel_ev R0 1 R1.length (by omega) (by omega)) ?_
    simp only [if_neg c2]
    refine Ev.bind (heldIntS_ev (1 + 2 * R1.length) R2.length (by omega) (by omega)) ?_
    simp only [if_neg c3, if_true]
    exact Ev.now _
  · simp only [if_neg h3]
    exact Ev.now _

end Go.Proofs.Ytigoajblljolcaa.Pure
