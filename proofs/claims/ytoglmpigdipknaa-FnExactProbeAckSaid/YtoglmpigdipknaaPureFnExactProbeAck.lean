/- The program's ProbeAck gives what the reference's ProbeAck gives, for every argument; its result shares no memory with the argument or another result. No condition. -/
import Derived.Test.YtoglmpigdipknaaArgsFnExactProbeAck
namespace Go.Proofs.Ytoglmpigdipknaa.Pure
open Go.RowKit Go.Proofs.Ytoglmpigdipknaa.AFnExactProbeAck Go.Proofs.Ytoglmpigdipknaa.XFnExactProbeAck Go.Proofs.YtoglmpigdipknaaW.PrintWords Go.Proofs.YtoglmpigdipknaaW.PrintLast
set_option linter.unusedSimpArgs false
set_option linter.unusedVariables false
theorem wrap_up {i : Int} {n : Nat} (h0 : 0 ≤ i) (h : i < (n : Int)) (hn : n ≤ 9223372036854775807) : wrap64 (i + 1) = i + 1 := by
  unfold wrap64; omega
theorem evPos {α : Type} {g : Nat → Option α} {r : α} (h : Ev (fun k => g (k + 1)) r) : Ev g r := by
  obtain ⟨K, hK⟩ := h
  refine ⟨K + 1, fun k hk => ?_⟩
  obtain ⟨m, rfl⟩ : ∃ m, k = m + 1 := ⟨k - 1, by omega⟩
  exact hK m (by omega)
theorem evConst {α : Type} {a : Option α} {r : α} (h : a = some r) : Ev (fun _ => a) r := ⟨0, fun _ _ => h⟩
theorem evShift {α : Type} {g : Nat → Option α} {r : α} (h : Ev g r) : Ev (fun k => g (k + 1)) r := by
  obtain ⟨K, hK⟩ := h
  exact ⟨K, fun k hk => hK (k + 1) (by omega)⟩
theorem evVal {α : Type} {g : Nat → Option α} {r r' : α} (h : Ev g r) (e : r = r') : Ev g r' := e ▸ h
theorem rd_lt {l : List Int} {i : Int} (h0 : 0 ≤ i) (h : i < (l.length : Int)) : rd l i = l[i.toNat]'(by omega) := by
  unfold rd; rw [List.getD_eq_getElem?_getD, List.getElem?_eq_getElem (by omega)]; rfl
/-! toIntS, eqIntS: a copy is what it copies; two lists are equal. -/
theorem toIntS_loop (l : List Int) (hl : l.length ≤ 35184372088832) (d : Nat) : ∀ (x : List Int) (i : Int), 0 ≤ i → i ≤ l.length → (l.length : Int) - i = d → x.length = l.length → x.take i.toNat = l.take i.toNat →
    Ev (fun k => laws_toIntS.l0 k l x i) l := by
  induction d with
  | zero =>
    intro x i h0 h1 hd hx ht
    have hge : ¬ i < (l.length : Int) := by omega
    refine evPos ?_
    simp only [laws_toIntS.l0, if_neg hge]
    refine evConst ?_
    have e : i.toNat = l.length := by omega
    rw [e, List.take_length] at ht
    rw [← hx, List.take_length] at ht
    rw [ht]
  | succ d ih =>
    intro x i h0 h1 hd hx ht
    refine evPos ?_
    simp only [laws_toIntS.l0]
    have hlt : i < (l.length : Int) := by omega
    have hlt' : i < (x.length : Int) := by omega
    have hw : wrap64 (i + 1) = i + 1 := wrap_up h0 hlt (by omega)
    simp only [if_pos hlt, if_pos h0, if_pos hlt', hw]
    refine ih _ (i + 1) (by omega) (by omega) (by omega) (by simp [hx]) ?_
    have e : (i + 1).toNat = i.toNat + 1 := by omega
    have hi : i.toNat < l.length := by omega
    have hi' : i.toNat < x.length := by omega
    rw [e, List.take_succ_eq_append_getElem hi, List.take_succ_eq_append_getElem (by simpa using hi')]
    rw [List.take_set_of_le (Nat.le_refl _), ht, List.getElem_set_self, rd_lt h0 hlt]
theorem toIntS_ev (l : List Int) (hl : l.length ≤ 35184372088832) : Ev (fun k => laws_toIntS.f k l) l := by
  unfold laws_toIntS.f
  have h1 : 0 ≤ (l.length : Int) := by omega
  have h2 : ((l.length : Int)).toNat ≤ 35184372088832 := by omega
  simp only [if_pos h1, if_pos h2]
  exact toIntS_loop l hl l.length _ 0 (by omega) (by omega) (by omega) (by simp) (by simp)
theorem eqIntS_loop (l : List Int) (hl : l.length ≤ 35184372088832) (d : Nat) : ∀ (i : Int), 0 ≤ i → i ≤ l.length → (l.length : Int) - i = d → Ev (fun k => laws_eqIntS.l0 k l l i) true := by
  induction d with
  | zero =>
    intro i h0 h1 hd
    have hge : ¬ i < (l.length : Int) := by omega
    refine evPos ?_
    simp only [laws_eqIntS.l0, if_neg hge]
    exact Ev.now _
  | succ d ih =>
    intro i h0 h1 hd
    refine evPos ?_
    simp only [laws_eqIntS.l0]
    have hlt : i < (l.length : Int) := by omega
    have hw : wrap64 (i + 1) = i + 1 := wrap_up h0 hlt (by omega)
    simp only [if_pos hlt, if_pos h0, if_true, hw]
    exact ih (i + 1) (by omega) (by omega) (by omega)
theorem eqIntS_ev (l : List Int) (hl : l.length ≤ 35184372088832) : Ev (fun k => laws_eqIntS.f k l l) true := by
  unfold laws_eqIntS.f
  simp only [if_true]
  exact eqIntS_loop l hl l.length 0 (by omega) (by omega) (by omega)
theorem szIntS_eq (l : List Int) (a : Int) (hl : l.length ≤ 9223372036854775807) (ha : -1 ≤ a) (ha' : a ≤ 1048576) : laws_szIntS.f l a = some (if (l.length : Int) ≤ a then a - l.length else -1) := by
  unfold laws_szIntS.f
  have w : wrap64 (a - (l.length : Int)) = a - l.length := by unfold wrap64; omega
  rw [w]
  by_cases h : (l.length : Int) ≤ a
  · rw [if_neg (by omega), if_pos h]
  · rw [if_pos (by omega), if_neg h]
/-! markIntS, heldIntS: what was marked is found so. -/
def marks (a : Int) (n : Nat) : List Int := (List.range n).map fun (i : Nat) => a + (i : Int)
theorem marks_length (a : Int) (n : Nat) : (marks a n).length = n := by simp [marks]
theorem marks_rd (a : Int) (n : Nat) {i : Int} (h0 : 0 ≤ i) (h : i < (n : Int)) : rd (marks a n) i = a + i := by
  rw [rd_lt h0 (by rw [marks_length]; exact h)]
  simp only [marks, List.getElem_map, List.getElem_range]
  omega
theorem markIntS_loop (n : Nat) (a : Int) (ha : 0 ≤ a) (hn : a + n ≤ 9223372036854775807) (d : Nat) : ∀ (x : List Int) (i : Int), 0 ≤ i → i ≤ n → (n : Int) - i = d → x.length = n → x.take i.toNat = (marks a n).take i.toNat →
    Ev (fun k => laws_markIntS.l0 k x (a + i) i) (a + n, marks a n) := by
  induction d with
  | zero =>
    intro x i h0 h1 hd hx ht
    have hge : ¬ i < (x.length : Int) := by omega
    refine evPos ?_
    simp only [laws_markIntS.l0, if_neg hge]
    refine evConst ?_
    have e : i.toNat = n := by omega
    have ei : i = n := by omega
    rw [e] at ht
    rw [List.take_of_length_le (by omega), List.take_of_length_le (by rw [marks_length]; omega)] at ht
    rw [ht, ei]
  | succ d ih =>
    intro x i h0 h1 hd hx ht
    refine evPos ?_
    have hlt : i < (x.length : Int) := by omega
    have hw : wrap64 (i + 1) = i + 1 := by unfold wrap64; omega
    have hw2 : wrap64 (a + i + 1) = a + (i + 1) := by unfold wrap64; omega
    simp only [laws_markIntS.l0, if_pos hlt, if_pos h0, hw, hw2]
    refine ih _ (i + 1) (by omega) (by omega) (by omega) (by simp [hx]) ?_
    have e : (i + 1).toNat = i.toNat + 1 := by omega
    have hi : i.toNat < (marks a n).length := by rw [marks_length]; omega
    have hi' : i.toNat < x.length := by omega
    rw [e, List.take_succ_eq_append_getElem hi, List.take_succ_eq_append_getElem (by simpa using hi'), List.take_set_of_le (Nat.le_refl _), ht, List.getElem_set_self, ← rd_lt h0 (by rw [marks_length]; omega), marks_rd a n h0 (by omega)]
theorem markIntS_ev (l : List Int) (a : Int) (ha : 0 ≤ a) (hn : a + l.length ≤ 9223372036854775807) : Ev (fun k => laws_markIntS.f k l a) (a + l.length, marks a l.length) := by
  unfold laws_markIntS.f
  have := markIntS_loop l.length a ha hn l.length l 0 (by omega) (by omega) (by omega) rfl (by simp)
  simpa using this
theorem heldIntS_loop (n : Nat) (a : Int) (ha : 0 ≤ a) (hn : a + n ≤ 9223372036854775807) (d : Nat) : ∀ (i : Int), 0 ≤ i → i ≤ n → (n : Int) - i = d →
    Ev (fun k => laws_heldIntS.l0 k (marks a n) (a + i) i) (a + n) := by
  induction d with
  | zero =>
    intro i h0 h1 hd
    have hge : ¬ i < ((marks a n).length : Int) := by rw [marks_length]; omega
    refine evPos ?_
    simp only [laws_heldIntS.l0, if_neg hge]
    exact evConst (by congr 1; omega)
  | succ d ih =>
    intro i h0 h1 hd
    refine evPos ?_
    have hlt : i < ((marks a n).length : Int) := by rw [marks_length]; omega
    have hw : wrap64 (i + 1) = i + 1 := by unfold wrap64; omega
    have hw2 : wrap64 (a + i + 1) = a + (i + 1) := by unfold wrap64; omega
    have hr := marks_rd a n h0 (by omega)
    simp only [laws_heldIntS.l0, if_pos hlt, if_pos h0, hr, if_true, hw, hw2]
    exact ih (i + 1) (by omega) (by omega) (by omega)
theorem heldIntS_ev (a : Int) (n : Nat) (ha : 0 ≤ a) (hn : a + n ≤ 9223372036854775807) : Ev (fun k => laws_heldIntS.f k (marks a n) a) (a + n) := by
  unfold laws_heldIntS.f
  have := heldIntS_loop n a ha hn n 0 (by omega) (by omega) (by omega)
  simpa using this
theorem within_eq (a b c : Int) : impl_within.f a b c = some (decide (b ≤ a) && decide (a ≤ c)) := by
  unfold impl_within.f
  by_cases h : b ≤ a <;> simp [h]
theorem isSeed_eq (s : Int) : impl_isSeed.f s = some (decide (0 ≤ s) && decide (s ≤ 2147483647)) := by
  unfold impl_isSeed.f; rw [within_eq]; rfl
/-! slices.Index and slices.Contains of whole numbers. -/
theorem Index_loop (l : List Int) (a : Int) (hl : l.length ≤ 9223372036854775807) (d : Nat) : ∀ (i : Int), 0 ≤ i → i ≤ l.length → (l.length : Int) - i = d →
    ∃ r, Ev (fun k => slices_Index_int_int.l0 k l a (l.length : Int) i) r ∧ (r ≥ 0 ↔ a ∈ l.drop i.toNat) := by
  induction d with
  | zero =>
    intro i h0 h1 hd
    refine ⟨-1, ?_, ?_⟩
    · refine evPos ?_
      have hge : ¬ i < (l.length : Int) := by omega
      simp only [slices_Index_int_int.l0, if_neg hge]
      exact Ev.now _
    · rw [List.drop_eq_nil_of_le (by omega)]; simp
  | succ d ih =>
    intro i h0 h1 hd
    have hlt : i < (l.length : Int) := by omega
    have hw : wrap64 (i + 1) = i + 1 := wrap_up h0 hlt hl
    have e : (i + 1).toNat = i.toNat + 1 := by omega
    have ed : l.drop i.toNat = rd l i :: l.drop (i + 1).toNat := by
      rw [e, List.drop_eq_getElem_cons (by omega), rd_lt h0 hlt]
    by_cases c : a = rd l i
    · refine ⟨i, ?_, ?_⟩
      · refine evPos ?_
        simp only [slices_Index_int_int.l0, if_pos hlt, if_pos h0, if_pos c]
        exact Ev.now _
      · rw [ed]; simp [← c, h0]
    · obtain ⟨r, hr, hm⟩ := ih (i + 1) (by omega) (by omega) (by omega)
      refine ⟨r, ?_, ?_⟩
      · refine evPos ?_
        simp only [slices_Index_int_int.l0, if_pos hlt, if_pos h0, if_neg c, hw]
        exact hr
      · rw [ed, hm]; simp [c]
theorem Contains_ev (l : List Int) (a : Int) (hl : l.length ≤ 9223372036854775807) : Ev (fun k => slices_Contains_int_int.f k l a) (decide (a ∈ l)) := by
  unfold slices_Contains_int_int.f slices_Index_int_int.f
  obtain ⟨r, hr, hm⟩ := Index_loop l a hl l.length 0 (by omega) (by omega) (by omega)
  refine Ev.bind hr (evConst ?_)
  simp only [Int.toNat_zero, List.drop_zero] at hm
  simp [hm]
/-! A prober: what the program asks and what the reference asks is one. -/
/-- The first i of l are members' numbers, all different. -/
def fine (l : List Int) : Bool := l.all (fun c => decide (0 ≤ c) && decide (c ≤ 11)) && decide l.Nodup
def tailB (n : Nat) (next seed state who wait : Int) : Bool :=
  decide (0 ≤ next) && decide (next ≤ n) && (decide (0 ≤ seed) && decide (seed ≤ 2147483647)) && (decide (0 ≤ state) && decide (state ≤ 2)) && (decide (0 ≤ who) && decide (who ≤ 11)) && (decide (0 ≤ wait) && decide (wait ≤ 4)) && (!decide (state = 0) || decide (who = 0) && decide (wait = 0))
def probB (l : List Int) (next seed state who wait : Int) : Bool := fine l && tailB l.length next seed state who wait
theorem fine_length {l : List Int} (h : fine l = true) : l.length ≤ 12 := by
  simp only [fine, Bool.and_eq_true, List.all_eq_true, decide_eq_true_eq] at h
  obtain ⟨h1, h2⟩ := h
  have hs : l ⊆ (List.range 12).map (fun (i : Nat) => (i : Int)) := by
    intro x hx
    have := h1 x hx
    rw [List.mem_map]
    exact ⟨x.toNat, by simp; omega, by omega⟩
  have := h2.length_le_of_subset hs
  simpa using this
theorem fine_take_succ {l : List Int} {i : Int} (h0 : 0 ≤ i) (h : i < (l.length : Int)) : fine (l.take (i + 1).toNat) = (fine (l.take i.toNat) && (decide (0 ≤ rd l i) && decide (rd l i ≤ 11) && !decide (rd l i ∈ l.take i.toNat))) := by
  have e : (i + 1).toNat = i.toNat + 1 := by omega
  rw [e, List.take_succ_eq_append_getElem (by omega), ← rd_lt h0 h]
  generalize rd l i = x
  generalize l.take i.toNat = m
  rw [Bool.eq_iff_iff]
  simp only [fine, List.all_append, List.all_cons, List.all_nil, Bool.and_true, Bool.and_eq_true, decide_eq_true_eq, List.nodup_append, Bool.not_eq_true', decide_eq_false_iff_not]
  constructor
  · rintro ⟨⟨h1, h2⟩, h3, h4, h5⟩
    refine ⟨⟨h1, h3⟩, h2, fun hm => h5 x hm x (by simp) rfl⟩
  · rintro ⟨⟨h1, h3⟩, h2, hm⟩
    exact ⟨⟨h1, h2⟩, h3, by simp, fun a ha b hb => by simp at hb; subst hb; intro e; subst e; exact hm ha⟩
theorem fine_false {l : List Int} {n : Nat} (h : fine (l.take n) = false) : fine l = false := by
  rw [Bool.eq_false_iff] at h ⊢
  intro hf
  apply h
  simp only [fine, Bool.and_eq_true, List.all_eq_true, decide_eq_true_eq] at hf ⊢
  exact ⟨fun x hx => hf.1 x (List.mem_of_mem_take hx), hf.2.sublist (List.take_sublist _ _)⟩
theorem implTail (l : List Int) (a b c d e : Int) :
    ((impl_within.f a 0 (l.length : Int)).bind fun t132 => (if t132 = true then ((impl_isSeed.f b).bind fun t133 => (if t133 = true then ((impl_within.f c 0 2).bind fun t134 => (if t134 = true then ((impl_within.f d 0 11).bind fun t135 => (if t135 = true then ((impl_within.f e 0 4).bind fun t136 => (if t136 = true then (if c = 0 then (if d = 0 then (some (e == 0)) else (some false)) else (some true)) else (some false))) else (some false))) else (some false))) else (some false))) else (some false))) = some (tailB l.length a b c d e) := by
  simp only [within_eq, isSeed_eq, Option.bind_some, tailB]
  by_cases h1 : 0 ≤ a <;> by_cases h2 : a ≤ (l.length : Int) <;> simp only [h1, h2, decide_true, decide_false, Bool.true_and, Bool.false_and, Bool.and_true, Bool.and_false, Bool.false_eq_true, if_true, if_false]
  by_cases h3 : 0 ≤ b <;> by_cases h4 : b ≤ 2147483647 <;> simp only [h3, h4, decide_true, decide_false, Bool.true_and, Bool.false_and, Bool.and_true, Bool.and_false, Bool.false_eq_true, if_true, if_false]
  by_cases h5 : 0 ≤ c <;> by_cases h6 : c ≤ 2 <;> simp only [h5, h6, decide_true, decide_false, Bool.true_and, Bool.false_and, Bool.and_true, Bool.and_false, Bool.false_eq_true, if_true, if_false]
  by_cases h7 : 0 ≤ d <;> by_cases h8 : d ≤ 11 <;> simp only [h7, h8, decide_true, decide_false, Bool.true_and, Bool.false_and, Bool.and_true, Bool.and_false, Bool.false_eq_true, if_true, if_false]
  by_cases h9 : 0 ≤ e <;> by_cases h10 : e ≤ 4 <;> simp only [h9, h10, decide_true, decide_false, Bool.true_and, Bool.false_and, Bool.and_true, Bool.and_false, Bool.false_eq_true, if_true, if_false]
  by_cases h11 : c = 0 <;> by_cases h12 : d = 0 <;> by_cases h13 : e = 0 <;> simp [h11, h12, h13]
theorem implProberOk_loop (l : List Int) (a b c d e : Int) (hl : l.length ≤ 9223372036854775807) (n : Nat) : ∀ (i : Int), 0 ≤ i → i ≤ l.length → (l.length : Int) - i = n → fine (l.take i.toNat) = true →
    Ev (fun k => impl_ProberOk.l0 k l (l.length : Int) i l a b c d e) (probB l a b c d e) := by
  induction n with
  | zero =>
    intro i h0 h1 hd hf
    have hge : ¬ i < (l.length : Int) := by omega
    refine evPos ?_
    simp only [impl_ProberOk.l0, if_neg hge]
    rw [implTail]
    refine evConst ?_
    rw [List.take_of_length_le (by omega)] at hf
    simp [probB, hf]
  | succ n ih =>
    intro i h0 h1 hd hf
    have hlt : i < (l.length : Int) := by omega
    have hw : wrap64 (i + 1) = i + 1 := wrap_up h0 hlt hl
    have hs := fine_take_succ h0 hlt
    rw [hf, Bool.true_and] at hs
    refine evPos ?_
    simp only [impl_ProberOk.l0, if_pos hlt, if_pos h0, if_pos h1, within_eq, Option.bind_some, hw]
    cases hr : (decide (0 ≤ rd l i) && decide (rd l i ≤ 11)) with
    | false =>
      simp only [Bool.false_eq_true, if_false]
      refine evConst ?_
      rw [hr, Bool.false_and] at hs
      simp [probB, fine_false hs]
    | true =>
      simp only [if_true]
      rw [hr, Bool.true_and] at hs
      refine Ev.bind (Contains_ev (l.take i.toNat) (rd l i) (by rw [List.length_take]; omega)) ?_
      cases hm : decide (rd l i ∈ l.take i.toNat) with
      | true =>
        simp only [if_true]
        refine evConst ?_
        rw [hm] at hs
        simp [probB, fine_false hs]
      | false =>
        simp only [Bool.false_eq_true, if_false]
        rw [hm] at hs
        exact ih (i + 1) (by omega) (by omega) (by omega) hs
theorem implProberOk_ev (l : List Int) (a b c d e : Int) (hl : l.length ≤ 9223372036854775807) : Ev (fun k => impl_ProberOk.f k l a b c d e) (probB l a b c d e) := by
  unfold impl_ProberOk.f
  exact implProberOk_loop l a b c d e hl l.length 0 (by omega) (by omega) (by omega) (by simp [fine])
theorem specProberOk_l1 (l : List Int) (a b c d e : Int) (hl : l.length ≤ 12) (i : Int) (h0 : 0 ≤ i) (hi : i < (l.length : Int)) (R : Bool)
    (hin : rd l i ∈ l.take i.toNat → R = false) (hout : rd l i ∉ l.take i.toNat → Ev (fun k => spec_ProberOk.l0 k (i + 1) l a b c d e) R) (n : Nat) :
    ∀ (j : Int), 0 ≤ j → j ≤ i → i - j = n → rd l i ∉ l.take j.toNat → Ev (fun k => spec_ProberOk.l1 k i j l a b c d e) R := by
  induction n with
  | zero =>
    intro j j0 j1 hd hm
    have hge : ¬ j < i := by omega
    have hw : wrap64 (i + 1) = i + 1 := by unfold wrap64; omega
    refine evPos ?_
    simp only [spec_ProberOk.l1, if_neg hge, hw]
    have : j = i := by omega
    subst this
    exact hout hm
  | succ n ih =>
    intro j j0 j1 hd hm
    have hlt : j < i := by omega
    have hjl : j < (l.length : Int) := by omega
    have hw : wrap64 (j + 1) = j + 1 := by unfold wrap64; omega
    have ej : (j + 1).toNat = j.toNat + 1 := by omega
    refine evPos ?_
    simp only [spec_ProberOk.l1, if_pos hlt, if_pos j0, if_pos hjl, if_pos h0, if_pos hi, hw]
    have et : l.take (j + 1).toNat = l.take j.toNat ++ [rd l j] := by
      rw [ej, List.take_succ_eq_append_getElem (by omega), ← rd_lt j0 hjl]
    by_cases q : rd l j = rd l i
    · simp only [if_pos q]
      refine evConst ?_
      rw [hin]
      have h2 : rd l i ∈ l.take (j + 1).toNat := by rw [et, ← q]; simp
      exact List.take_subset_take_left l (by omega) h2
    · simp only [if_neg q]
      refine ih (j + 1) (by omega) (by omega) (by omega) ?_
      rw [et, List.mem_append]
      rintro (h | h)
      · exact hm h
      · simp at h; exact q h.symm
theorem specProberOk_loop (l : List Int) (a b c d e : Int) (hl : l.length ≤ 12) (R : Bool) (hR : R = (fine l && (!decide (c = 0) || decide (d = 0) && decide (e = 0)))) (n : Nat) : ∀ (i : Int), 0 ≤ i → i ≤ l.length → (l.length : Int) - i = n → fine (l.take i.toNat) = true →
    Ev (fun k => spec_ProberOk.l0 k i l a b c d e) R := by
  induction n with
  | zero =>
    intro i h0 h1 hd hf
    have hge : ¬ i < (l.length : Int) := by omega
    refine evPos ?_
    simp only [spec_ProberOk.l0, if_neg hge]
    refine evConst ?_
    rw [List.take_of_length_le (by omega)] at hf
    rw [hR, hf]
    by_cases h11 : c = 0 <;> by_cases h12 : d = 0 <;> by_cases h13 : e = 0 <;> simp [h11, h12, h13]
  | succ n ih =>
    intro i h0 h1 hd hf
    have hlt : i < (l.length : Int) := by omega
    have hs := fine_take_succ h0 hlt
    rw [hf, Bool.true_and] at hs
    refine evPos ?_
    simp only [spec_ProberOk.l0, if_pos hlt, if_pos h0]
    have jt : (decide (0 ≤ rd l i) && decide (rd l i ≤ 11)) = false → Ev (fun k => spec_ProberOk.j2 k i true l a b c d e) R := by
      intro hr
      refine evPos ?_
      simp only [spec_ProberOk.j2, if_true]
      refine evConst ?_
      rw [hr, Bool.false_and] at hs
      rw [hR, fine_false hs]; rfl
    by_cases g1 : rd l i < 0
    · simp only [if_pos g1]
      exact jt (by have : ¬ 0 ≤ rd l i := (by omega); simp [this])
    · simp only [if_neg g1]
      by_cases g2 : rd l i ≥ 12
      · simp only [g2, decide_true]
        exact jt (by have : ¬ rd l i ≤ 11 := (by omega); simp [this])
      · simp only [g2, decide_false]
        refine evPos ?_
        simp only [spec_ProberOk.j2, Bool.false_eq_true, if_false]
        have hr : (decide (0 ≤ rd l i) && decide (rd l i ≤ 11)) = true := by
          have x : 0 ≤ rd l i := by omega
          have y : rd l i ≤ 11 := by omega
          simp [x, y]
        rw [hr, Bool.true_and] at hs
        refine specProberOk_l1 l a b c d e hl i h0 hlt R ?_ ?_ i.toNat 0 (by omega) (by omega) (by omega) (by simp)
        · intro hm
          simp only [hm, decide_true, Bool.not_true] at hs
          rw [hR, fine_false hs]; rfl
        · intro hm
          simp only [hm, decide_false, Bool.not_false] at hs
          exact ih (i + 1) (by omega) (by omega) (by omega) hs
theorem specProberOk_ev (l : List Int) (a b c d e : Int) (hl : l.length ≤ 9223372036854775807) : Ev (fun k => spec_ProberOk.f k l a b c d e) (probB l a b c d e) := by
  unfold spec_ProberOk.f
  have jt : Ev (fun k => spec_ProberOk.j0 k true l a b c d e) false := by
    refine evPos ?_
    simp only [spec_ProberOk.j0, if_true]
    exact Ev.now _
  by_cases h0 : (l.length : Int) > 12
  · simp only [if_pos h0]
    refine evVal jt ?_
    cases hf : fine l with
    | false => simp [probB, hf]
    | true => have := fine_length hf; omega
  simp only [if_neg h0]
  have step : ∀ (p : Prop) [Decidable p] (f : Nat → Option Bool), (p → tailB l.length a b c d e = false) → (¬ p → Ev f (probB l a b c d e)) → Ev (fun k => if p then spec_ProberOk.j0 k true l a b c d e else f k) (probB l a b c d e) := by
    intro p _ f h1 h2
    by_cases hp : p
    · simp only [if_pos hp]; exact evVal jt (by simp [probB, h1 hp])
    · simp only [if_neg hp]; exact h2 hp
  refine step _ _ (fun h => by have : ¬ 0 ≤ a := (by omega); simp [tailB, this]) fun g1 => ?_
  refine step _ _ (fun h => by have : ¬ a ≤ (l.length : Int) := (by omega); simp [tailB, this]) fun g2 => ?_
  refine step _ _ (fun h => by have : ¬ 0 ≤ b := (by omega); simp [tailB, this]) fun g3 => ?_
  refine step _ _ (fun h => by have : ¬ b ≤ 2147483647 := (by omega); simp [tailB, this]) fun g4 => ?_
  refine step _ _ (fun h => by have : ¬ 0 ≤ c := (by omega); simp [tailB, this]) fun g5 => ?_
  refine step _ _ (fun h => by have : ¬ c ≤ 2 := (by omega); simp [tailB, this]) fun g6 => ?_
  refine step _ _ (fun h => by have : ¬ 0 ≤ e := (by omega); simp [tailB, this]) fun g7 => ?_
  refine step _ _ (fun h => by have : ¬ e ≤ 4 := (by omega); simp [tailB, this]) fun g8 => ?_
  refine step _ _ (fun h => by have : ¬ 0 ≤ d := (by omega); simp [tailB, this]) fun g9 => ?_
  by_cases g10 : d ≥ 12
  · simp only [g10, decide_true]
    refine evVal jt ?_
    have : ¬ d ≤ 11 := by omega
    simp [probB, tailB, this]
  · simp only [g10, decide_false]
    refine evPos ?_
    simp only [spec_ProberOk.j0, Bool.false_eq_true, if_false]
    refine specProberOk_loop l a b c d e (by omega) _ ?_ l.length 0 (by omega) (by omega) (by omega) (by simp [fine])
    have k1 : 0 ≤ a := by omega
    have k2 : a ≤ (l.length : Int) := by omega
    have k3 : 0 ≤ b := by omega
    have k4 : b ≤ 2147483647 := by omega
    have k5 : 0 ≤ c := by omega
    have k6 : c ≤ 2 := by omega
    have k7 : 0 ≤ e := by omega
    have k8 : e ≤ 4 := by omega
    have k9 : 0 ≤ d := by omega
    have k10 : d ≤ 11 := by omega
    simp only [probB, tailB, k1, k2, k3, k4, k5, k6, k7, k8, k9, k10, decide_true, Bool.true_and]
theorem toProber_ev (l : List Int) (a b c d e : Int) (hl : l.length ≤ 35184372088832) : Ev (fun k => laws_toProber.f k l a b c d e) (l, a, b, c, d, e) := by
  unfold laws_toProber.f
  exact Ev.bind (toIntS_ev l hl) (Ev.now _)
theorem eqProber_ev (l : List Int) (a b c d e : Int) (hl : l.length ≤ 35184372088832) : Ev (fun k => laws_eqProber.f k l a b c d e l a b c d e) true := by
  unfold laws_eqProber.f
  refine Ev.bind (eqIntS_ev l hl) ?_
  exact evConst (by simp)
theorem szProber_eq (l : List Int) (a b c d e x : Int) (hl : l.length ≤ 9223372036854775807) (hx : -1 ≤ x) (hx' : x ≤ 1048576) : laws_szProber.f l a b c d e x = some (if (l.length : Int) ≤ x then x - l.length else -1) := by
  unfold laws_szProber.f
  rw [szIntS_eq l x hl hx hx', Option.bind_some]
  by_cases h : (l.length : Int) ≤ x
  · rw [if_pos h, if_neg (by omega)]
  · rw [if_neg h, if_pos (by omega)]
theorem markProber_ev (l : List Int) (a b c d e x : Int) (ha : 0 ≤ x) (hn : x + l.length ≤ 9223372036854775807) : Ev (fun k => laws_markProber.f k l a b c d e x) (x + l.length, marks x l.length) := by
  unfold laws_markProber.f
  exact Ev.bind (markIntS_ev l x ha hn) (Ev.now _)
theorem heldProber_ev (n : Nat) (a b c d e x : Int) (ha : 0 ≤ x) (hn : x + n ≤ 9223372036854775807) : Ev (fun k => laws_heldProber.f k (marks x n) a b c d e x) (x + n) := by
  unfold laws_heldProber.f
  refine Ev.bind (heldIntS_ev x n ha hn) ?_
  have c1 : ¬ (x + n < 0) := by omega
  simp only [if_neg c1]
  exact Ev.now _
theorem clonei_eq (l : List Int) (h : l.length ≤ 1048576) : slices_Clone_int_int.f l = some l := by
  unfold slices_Clone_int_int.f
  exact if_pos (by omega)
theorem implOwnP_eq (l : List Int) (a b c d e : Int) (h : l.length ≤ 1048576) : impl_Prober_own.f l a b c d e = some (l, a, b, c, d, e) := by
  unfold impl_Prober_own.f
  rw [clonei_eq l h, Option.bind_some]
theorem specOwnP_eq (l : List Int) (a b c d e : Int) (h : l.length ≤ 1048576) : spec_l11own.f l a b c d e = some (l, a, b, c, d, e) := by
  unfold spec_l11own.f
  simp only [Option.bind_some, List.nil_append, List.length_nil, Nat.zero_add]
  exact if_pos (by omega)
def resF (l : List Int) (a b c d e n : Int) : List Int × Int × Int × Int × Int × Int × Bool :=
  if probB l a b c d e = true then (if c = 0 then (l, a, b, c, d, e, false) else if d = n then (l, a, b, 0, 0, 0, true) else (l, a, b, c, d, e, false)) else ([], 0, 0, 0, 0, 0, false)
theorem resF_len (l : List Int) (a b c d e n : Int) : (resF l a b c d e n).1.length ≤ l.length := by
  unfold resF; repeat' split
  all_goals simp
theorem prob_len {l : List Int} {a b c d e : Int} (h : probB l a b c d e = true) : l.length ≤ 12 := by
  simp only [probB, Bool.and_eq_true] at h
  exact fine_length h.1
theorem spec_ev (l : List Int) (a b c d e n : Int) (hl : l.length ≤ 9223372036854775807) : Ev (fun k => spec_ProbeAck.f k l a b c d e n) (resF l a b c d e n) := by
  unfold spec_ProbeAck.f
  refine Ev.bind (specProberOk_ev l a b c d e hl) ?_
  refine evConst ?_
  unfold resF
  cases hc : probB l a b c d e with
  | false => simp
  | true =>
    have h12 := prob_len hc
    rw [specOwnP_eq l a b c d e (by omega)]
    simp only [if_true, Option.bind_some, spec_l11ack.f]
    by_cases h1 : c = 0
    · simp [h1]
    · by_cases h2 : d = n <;> simp [h1, h2]
theorem impl_ev (l : List Int) (a b c d e n : Int) (hl : l.length ≤ 9223372036854775807) : Ev (fun k => impl_ProbeAck.f k l a b c d e n) (resF l a b c d e n) := by
  unfold impl_ProbeAck.f
  refine Ev.bind (implProberOk_ev l a b c d e hl) ?_
  refine evConst ?_
  unfold resF
  cases hc : probB l a b c d e with
  | false => simp
  | true =>
    have h12 := prob_len hc
    rw [implOwnP_eq l a b c d e (by omega)]
    simp only [if_true, Option.bind_some, impl_Prober_ack.f, impl_Prober_idle.f]
    by_cases h1 : c = 0
    · simp [h1]
    · by_cases h2 : d = n <;> simp [h1, h2]
theorem FnExactProbeAck : AFnExactProbeAck.Stmt := by
  intro l a b c d e n hl _ _ _ _ _ _ hn'
  suffices h : Ev (fun k => laws_FnExactProbeAck.f k l a b c d e n) true from h.rounds
  unfold laws_FnExactProbeAck.f
  rw [szProber_eq l a b c d e 1048576 hl (by omega) (by omega)]
  simp only [Option.bind_some]
  by_cases h : (l.length : Int) ≤ 1048576
  · have h2 : ¬ ((1048576 : Int) - l.length < 0) := by omega
    simp only [if_pos h, if_neg h2]
    have hl' : l.length ≤ 35184372088832 := by omega
    have hs := spec_ev l a b c d e n hl
    have hi := impl_ev l a b c d e n hl
    have hR := resF_len l a b c d e n
    generalize resF l a b c d e n = R at hs hi hR
    obtain ⟨R0, R1, R2, R3, R4, R5, R6⟩ := R
    simp only at hR
    have t := toProber_ev l a b c d e hl'
    have e' := eqProber_ev R0 R1 R2 R3 R4 R5 (by omega)
    refine Ev.bind t ?_
    refine Ev.bind hs ?_
    refine Ev.bind t ?_
    refine Ev.bind hi ?_
    refine Ev.bind e' ?_
    simp only [if_true, bne_self_eq_false]
    refine evPos ?_
    simp only [laws_FnExactProbeAck.j0, Bool.false_eq_true, if_false]
    refine Ev.bind t ?_
    refine Ev.bind (eqProber_ev l a b c d e hl') ?_
    simp only [if_true]
    refine Ev.bind (markProber_ev l a b c d e 1 (by omega) (by omega)) ?_
    have c1 : ¬ ((1 : Int) + l.length < 0) := by omega
    simp only [if_neg c1]
    refine Ev.bind e' ?_
    simp only [if_true, bne_self_eq_false]
    refine evPos ?_
    simp only [laws_FnExactProbeAck.j1, Bool.false_eq_true, if_false]
    refine Ev.bind (markProber_ev R0 R1 R2 R3 R4 R5 1 (by omega) (by omega)) ?_
    refine Ev.bind (heldProber_ev R0.length R1 R2 R3 R4 R5 1 (by omega) (by omega)) ?_
    have c2 : ¬ ((1 : Int) + R0.length < 0) := by omega
    simp only [if_neg c2, if_true]
    refine Ev.bind t ?_
    refine Ev.bind hi ?_
    refine Ev.bind e' ?_
    simp only [if_true, bne_self_eq_false]
    refine evPos ?_
    simp only [laws_FnExactProbeAck.j2, Bool.false_eq_true, if_false]
    refine Ev.bind (heldProber_ev R0.length R1 R2 R3 R4 R5 1 (by omega) (by omega)) ?_
    simp only [if_neg c2, if_true]
    exact Ev.now _
  · simp only [if_neg h]
    exact Ev.now _

end Go.Proofs.Ytoglmpigdipknaa.Pure
