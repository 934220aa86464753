/- The program's Helpers gives what the reference's Helpers gives, for every argument; its results share no memory with the arguments or one another. No condition. -/
import Derived.Test.YtigoajblljolcaaArgsFnExactHelpers
namespace Go.Proofs.Ytigoajblljolcaa.Pure
open Go.RowKit Go.Proofs.Ytigoajblljolcaa.AFnExactHelpers Go.Proofs.Ytigoajblljolcaa.XFnExactHelpers Go.Proofs.YtigoajblljolcaaW.PrintWords Go.Proofs.YtigoajblljolcaaW.PrintLast
set_option linter.unusedSimpArgs false
set_option linter.unusedVariables false
theorem wrap_up {i : Int} {n : Nat} (h0 : 0 ≤ i) (h : i < (n : Int)) (hn : n ≤ 9223372036854775807) : wrap64 (i + 1) = i + 1 := by
  unfold wrap64; omega
theorem evPos {α : Type} {g : Nat → Option α} {r : α} (h : Ev (fun k => g (k + 1)) r) : Ev g r := by
  obtain ⟨K, hK⟩ := h
  refine ⟨K + 1, fun k hk => ?_⟩
  obtain ⟨m, rfl⟩ : ∃ m, k = m + 1 := ⟨k - 1, by omega⟩
  exact hK m (by omega)
theorem evConst {α : Type} {a : Option α} {r : α} (h : a = some r) : Ev (fun _ => a) r := ⟨0, fun _ _ => h⟩
theorem evShift {α : Type} {g : Nat → Option α} {r : α} (h : Ev g r) : Ev (fun k => g (k + 1)) r := by
  obtain ⟨K, hK⟩ := h
  exact ⟨K, fun k hk => hK (k + 1) (by omega)⟩
theorem evVal {α : Type} {g : Nat → Option α} {r r' : α} (h : Ev g r) (e : r = r') : Ev g r' := e ▸ h
theorem rd_lt {l : List Int} {i : Int} (h0 : 0 ≤ i) (h : i < (l.length : Int)) : rd l i = l[i.toNat]'(by omega) := by
  unfold rd; rw [List.getD_eq_getElem?_getD, List.getElem?_eq_getElem (by omega)]; rfl
/-! toIntS, eqIntS: a copy is what it copies; two lists are equal. -/
theorem toIntS_loop (l : List Int) (hl : l.length ≤ 35184372088832) (d : Nat) : ∀ (x : List Int) (i : Int), 0 ≤ i → i ≤ l.length → (l.length : Int) - i = d → x.length = l.length → x.take i.toNat = l.take i.toNat →
    Ev (fun k => laws_toIntS.l0 k l x i) l := by
  induction d with
  | zero =>
    intro x i h0 h1 hd hx ht
    have hge : ¬ i < (l.length : Int) := by omega
    refine evPos ?_
    simp only [laws_toIntS.l0, if_neg hge]
    refine evConst ?_
    have e : i.toNat = l.length := by omega
    rw [e, List.take_length] at ht
    rw [← hx, List.take_length] at ht
    rw [ht]
  | succ d ih =>
    intro x i h0 h1 hd hx ht
    refine evPos ?_
    simp only [laws_toIntS.l0]
    have hlt : i < (l.length : Int) := by omega
    have hlt' : i < (x.length : Int) := by omega
    have hw : wrap64 (i + 1) = i + 1 := wrap_up h0 hlt (by omega)
    simp only [if_pos hlt, if_pos h0, if_pos hlt', hw]
    refine ih _ (i + 1) (by omega) (by omega) (by omega) (by simp [hx]) ?_
    have e : (i + 1).toNat = i.toNat + 1 := by omega
    have hi : i.toNat < l.length := by omega
    have hi' : i.toNat < x.length := by omega
    rw [e, List.take_succ_eq_append_getElem hi, List.take_succ_eq_append_getElem (by simpa using hi')]
    rw [List.take_set_of_le (Nat.le_refl _), ht, List.getElem_set_self, rd_lt h0 hlt]
theorem toIntS_ev (l : List Int) (hl : l.length ≤ 35184372088832) : Ev (fun k => laws_toIntS.f k l) l := by
  unfold laws_toIntS.f
  have h1 : 0 ≤ (l.length : Int) := by omega
  have h2 : ((l.length : Int)).toNat ≤ 35184372088832 := by omega
  simp only [if_pos h1, if_pos h2]
  exact toIntS_loop l hl l.length _ 0 (by omega) (by omega) (by omega) (by simp) (by simp)
theorem eqIntS_loop (l : List Int) (hl : l.length ≤ 35184372088832) (d : Nat) : ∀ (i : Int), 0 ≤ i → i ≤ l.length → (l.length : Int) - i = d → Ev (fun k => laws_eqIntS.l0 k l l i) true := by
  induction d with
  | zero =>
    intro i h0 h1 hd
    have hge : ¬ i < (l.length : Int) := by omega
    refine evPos ?_
    simp only [laws_eqIntS.l0, if_neg hge]
    exact Ev.now _
  | succ d ih =>
    intro i h0 h1 hd
    refine evPos ?_
    simp only [laws_eqIntS.l0]
    have hlt : i < (l.length : Int) := by omega
    have hw : wrap64 (i + 1) = i + 1 := wrap_up h0 hlt (by omega)
    simp only [if_pos hlt, if_pos h0, if_true, hw]
    exact ih (i + 1) (by omega) (by omega) (by omega)
theorem eqIntS_ev (l : List Int) (hl : l.length ≤ 35184372088832) : Ev (fun k => laws_eqIntS.f k l l) true := by
  unfold laws_eqIntS.f
  simp only [if_true]
  exact eqIntS_loop l hl l.length 0 (by omega) (by omega) (by omega)
theorem szIntS_eq (l : List Int) (a : Int) (hl : l.length ≤ 9223372036854775807) (ha : -1 ≤ a) (ha' : a ≤ 1048576) : laws_szIntS.f l a = some (if (l.length : Int) ≤ a then a - l.length else -1) := by
  unfold laws_szIntS.f
  have w : wrap64 (a - (l.length : Int)) = a - l.length := by unfold wrap64; omega
  rw [w]
  by_cases h : (l.length : Int) ≤ a
  · rw [if_neg (by omega), if_pos h]
  · rw [if_pos (by omega), if_neg h]
/-! markIntS, heldIntS: what was marked is found so. -/
def marks (a : Int) (n : Nat) : List Int := (List.range n).map fun (i : Nat) => a + (i : Int)
theorem marks_length (a : Int) (n : Nat) : (marks a n).length = n := by simp [marks]
theorem marks_rd (a : Int) (n : Nat) {i : Int} (h0 : 0 ≤ i) (h : i < (n : Int)) : rd (marks a n) i = a + i := by
  rw [rd_lt h0 (by rw [marks_length]; exact h)]
  simp only [marks, List.getElem_map, List.getElem_range]
  omega
theorem markIntS_loop (n : Nat) (a : Int) (ha : 0 ≤ a) (hn : a + n ≤ 9223372036854775807) (d : Nat) : ∀ (x : List Int) (i : Int), 0 ≤ i → i ≤ n → (n : Int) - i = d → x.length = n → x.take i.toNat = (marks a n).take i.toNat →
    Ev (fun k => laws_markIntS.l0 k x (a + i) i) (a + n, marks a n) := by
  induction d with
  | zero =>
    intro x i h0 h1 hd hx ht
    have hge : ¬ i < (x.length : Int) := by omega
    refine evPos ?_
    simp only [laws_markIntS.l0, if_neg hge]
    refine evConst ?_
    have e : i.toNat = n := by omega
    have ei : i = n := by omega
    rw [e] at ht
    rw [List.take_of_length_le (by omega), List.take_of_length_le (by rw [marks_length]; omega)] at ht
    rw [ht, ei]
  | succ d ih =>
    intro x i h0 h1 hd hx ht
    refine evPos ?_
    have hlt : i < (x.length : Int) := by omega
    have hw : wrap64 (i + 1) = i + 1 := by unfold wrap64; omega
    have hw2 : wrap64 (a + i + 1) = a + (i + 1) := by unfold wrap64; omega
    simp only [laws_markIntS.l0, if_pos hlt, if_pos h0, hw, hw2]
    refine ih _ (i + 1) (by omega) (by omega) (by omega) (by simp [hx]) ?_
    have e : (i + 1).toNat = i.toNat + 1 := by omega
    have hi : i.toNat < (marks a n).length := by rw [marks_length]; omega
    have hi' : i.toNat < x.length := by omega
    rw [e, List.take_succ_eq_append_getElem hi, List.take_succ_eq_append_getElem (by simpa using hi'), List.take_set_of_le (Nat.le_refl _), ht, List.getElem_set_self, ← rd_lt h0 (by rw [marks_length]; omega), marks_rd a n h0 (by omega)]
theorem markIntS_ev (l : List Int) (a : Int) (ha : 0 ≤ a) (hn : a + l.length ≤ 9223372036854775807) : Ev (fun k => laws_markIntS.f k l a) (a + l.length, marks a l.length) := by
  unfold laws_markIntS.f
  have := markIntS_loop l.length a ha hn l.length l 0 (by omega) (by omega) (by omega) rfl (by simp)
  simpa using this
theorem heldIntS_loop (n : Nat) (a : Int) (ha : 0 ≤ a) (hn : a + n ≤ 9223372036854775807) (d : Nat) : ∀ (i : Int), 0 ≤ i → i ≤ n → (n : Int) - i = d →
    Ev (fun k => laws_heldIntS.l0 k (marks a n) (a + i) i) (a + n) := by
  induction d with
  | zero =>
    intro i h0 h1 hd
    have hge : ¬ i < ((marks a n).length : Int) := by rw [marks_length]; omega
    refine evPos ?_
    simp only [laws_heldIntS.l0, if_neg hge]
    exact evConst (by congr 1; omega)
  | succ d ih =>
    intro i h0 h1 hd
    refine evPos ?_
    have hlt : i < ((marks a n).length : Int) := by rw [marks_length]; omega
    have hw : wrap64 (i + 1) = i + 1 := by unfold wrap64; omega
    have hw2 : wrap64 (a + i + 1) = a + (i + 1) := by unfold wrap64; omega
    have hr := marks_rd a n h0 (by omega)
    simp only [laws_heldIntS.l0, if_pos hlt, if_pos h0, hr, if_true, hw, hw2]
    exact ih (i + 1) (by omega) (by omega) (by omega)
theorem heldIntS_ev (a : Int) (n : Nat) (ha : 0 ≤ a) (hn : a + n ≤ 9223372036854775807) : Ev (fun k => laws_heldIntS.f k (marks a n) a) (a + n) := by
  unfold laws_heldIntS.f
  have := heldIntS_loop n a ha hn n 0 (by omega) (by omega) (by omega)
  simpa using this
theorem within_eq (a b c : Int) : impl_within.f a b c = some (decide (b ≤ a) && decide (a ≤ c)) := by
  unfold impl_within.f
  by_cases h : b ≤ a <;> simp [h]
theorem isSeed_eq (s : Int) : impl_isSeed.f s = some (decide (0 ≤ s) && decide (s ≤ 2147483647)) := by
  unfold impl_isSeed.f; rw [within_eq]; rfl
/-! Mix and Shuffle: what the program makes and what the reference makes is one. -/
def mixF (s : Int) : Int := if 0 ≤ s then if s ≤ 2147483647 then (16807 * s + 11) % 2147483647 else 0 else 0
theorem mixF_range (s : Int) : 0 ≤ mixF s ∧ mixF s ≤ 2147483647 := by unfold mixF; split <;> (try split) <;> omega
theorem wrap_mix {s : Int} (h0 : 0 ≤ s) (h1 : s ≤ 2147483647) : Int.tmod (wrap64 (wrap64 (16807 * s) + 11)) 2147483647 = (16807 * s + 11) % 2147483647 := by
  have e1 : wrap64 (16807 * s) = 16807 * s := by unfold wrap64; omega
  have e2 : wrap64 (16807 * s + 11) = 16807 * s + 11 := by unfold wrap64; omega
  rw [e1, e2, Int.tmod_eq_emod_of_nonneg (by omega)]
theorem implMix_eq (s : Int) : impl_Mix.f s = some (mixF s) := by
  unfold impl_Mix.f mixF
  rw [isSeed_eq]
  simp only [Option.bind_some]
  by_cases h0 : 0 ≤ s
  · by_cases h1 : s ≤ 2147483647
    · simp only [h0, h1, decide_true, Bool.and_true, if_true, wrap_mix h0 h1]
    · simp [h0, h1]
  · simp [h0]
theorem specMix_eq (s : Int) : spec_Mix.f s = some (mixF s) := by
  unfold spec_Mix.f mixF
  by_cases h0 : s < 0
  · have : ¬ 0 ≤ s := by omega
    simp [h0, this]
  · by_cases h1 : s > 2147483647
    · have a : 0 ≤ s := by omega
      have b : ¬ s ≤ 2147483647 := by omega
      simp [h0, h1, a, b]
    · have a : 0 ≤ s := by omega
      have b : s ≤ 2147483647 := by omega
      simp only [if_neg h0, if_neg h1, if_pos a, if_pos b]
      rw [Int.mul_comm, wrap_mix a b]
def shufAux : Nat → Int → List Int → List Int × Int
  | 0, s, x => (x, s)
  | d + 1, s, x => shufAux d (mixF s) ((x.set (d + 1) (rd x (mixF s % ((d : Int) + 2)))).set (mixF s % ((d : Int) + 2)).toNat (rd x ((d : Int) + 1)))
def shufF (l : List Int) (s : Int) : List Int × Int := shufAux (l.length - 1) s l
theorem shufAux_length (d : Nat) : ∀ (s : Int) (x : List Int), (shufAux d s x).1.length = x.length := by
  induction d with
  | zero => intro s x; rfl
  | succ d ih => intro s x; simp only [shufAux]; rw [ih]; simp
theorem shufF_length (l : List Int) (s : Int) : (shufF l s).1.length = l.length := shufAux_length _ _ _
theorem implShuffle_loop (n : Nat) (hn : n ≤ 12) (d : Nat) : ∀ (s : Int) (x : List Int), d < n → x.length = n →
    Ev (fun k => impl_Shuffle.l0 k s x (d : Int)) (shufAux d s x) := by
  induction d with
  | zero =>
    intro s x _ _
    refine evPos ?_
    have h : ¬ ((0 : Nat) : Int) > 0 := by omega
    simp only [impl_Shuffle.l0, if_neg h]
    exact Ev.now _
  | succ d ih =>
    intro s x hd hx
    refine evPos ?_
    have h : (((d + 1 : Nat) : Int)) > 0 := by omega
    have w1 : wrap64 (((d + 1 : Nat) : Int) + 1) = (d : Int) + 2 := by unfold wrap64; omega
    have w2 : wrap64 (((d + 1 : Nat) : Int) - 1) = (d : Int) := by unfold wrap64; omega
    obtain ⟨m0, m1⟩ := mixF_range s
    have t1 : Int.tmod (mixF s) ((d : Int) + 2) = mixF s % ((d : Int) + 2) := Int.tmod_eq_emod_of_nonneg m0
    have q0 : 0 ≤ mixF s % ((d : Int) + 2) := Int.emod_nonneg _ (by omega)
    have q1 : mixF s % ((d : Int) + 2) < (d : Int) + 2 := Int.emod_lt_of_pos _ (by omega)
    have g1 : ¬ ((d : Int) + 2 = 0) := by omega
    have g2 : mixF s % ((d : Int) + 2) < (x.length : Int) := by omega
    have g3 : 0 ≤ ((d + 1 : Nat) : Int) := by omega
    have g4 : ((d + 1 : Nat) : Int) < (x.length : Int) := by omega
    have e1 : (((d + 1 : Nat) : Int)).toNat = d + 1 := by omega
    have e2 : ((d + 1 : Nat) : Int) = (d : Int) + 1 := by omega
    simp only [impl_Shuffle.l0, if_pos h, implMix_eq, Option.bind_some, w1, w2, t1, if_neg g1, if_pos q0, if_pos g2, if_pos g3, if_pos g4, e1]
    rw [e2]
    exact ih _ _ (by omega) (by simp [hx])
theorem implShuffle_ev (l : List Int) (s : Int) : Ev (fun k => impl_Shuffle.f k l s) (if l.length ≤ 12 ∧ 0 ≤ s ∧ s ≤ 2147483647 then shufF l s else ([], 0)) := by
  unfold impl_Shuffle.f
  have jt : Ev (fun k => impl_Shuffle.j0 k l s true) (([] : List Int), 0) := by
    refine evPos ?_
    simp only [impl_Shuffle.j0, if_true]
    exact Ev.now _
  by_cases h : (l.length : Int) > 12
  · simp only [if_pos h]
    refine evVal jt ?_
    rw [if_neg (by omega)]
  · simp only [if_neg h, isSeed_eq, Option.bind_some]
    by_cases h2 : 0 ≤ s ∧ s ≤ 2147483647
    · obtain ⟨a, b⟩ := h2
      simp only [a, b, decide_true, Bool.and_true, Bool.not_true]
      rw [if_pos ⟨by omega, trivial, trivial⟩]
      refine evPos ?_
      have hlt : l.length < 17592186044416 := by omega
      simp only [impl_Shuffle.j0, Bool.false_eq_true, if_false, slices_Clone_int_int.f, if_pos hlt, Option.bind_some]
      by_cases z : l.length = 0
      · have w : wrap64 ((l.length : Int) - 1) = -1 := by unfold wrap64; omega
        refine evPos ?_
        have c : ¬ ((-1 : Int) > 0) := by omega
        simp only [w, impl_Shuffle.l0, if_neg c]
        refine evConst ?_
        unfold shufF
        rw [z]; rfl
      · have w : wrap64 ((l.length : Int) - 1) = ((l.length - 1 : Nat) : Int) := by unfold wrap64; omega
        simp only [w]
        exact implShuffle_loop l.length (by omega) (l.length - 1) s l (by omega) rfl
    · have e : (decide (0 ≤ s) && decide (s ≤ 2147483647)) = false := by
        rw [Bool.and_eq_false_iff]; simp only [decide_eq_false_iff_not]; omega
      simp only [e, Bool.not_false]
      refine evVal jt ?_
      rw [if_neg (by omega)]
theorem specShuffle_loop (n : Nat) (hn : n ≤ 12) (d : Nat) : ∀ (s : Int) (x : List Int), d < n → x.length = n →
    Ev (fun k => spec_l11shuffle.l0 k s x (d : Int)) (shufAux d s x) := by
  induction d with
  | zero =>
    intro s x _ _
    refine evPos ?_
    have h : ¬ ((0 : Nat) : Int) > 0 := by omega
    simp only [spec_l11shuffle.l0, if_neg h]
    exact Ev.now _
  | succ d ih =>
    intro s x hd hx
    refine evPos ?_
    have h : (((d + 1 : Nat) : Int)) > 0 := by omega
    have w1 : wrap64 (((d + 1 : Nat) : Int) + 1) = (d : Int) + 2 := by unfold wrap64; omega
    have w2 : wrap64 (((d + 1 : Nat) : Int) - 1) = (d : Int) := by unfold wrap64; omega
    obtain ⟨m0, m1⟩ := mixF_range s
    have t1 : Int.tmod (mixF s) ((d : Int) + 2) = mixF s % ((d : Int) + 2) := Int.tmod_eq_emod_of_nonneg m0
    have q0 : 0 ≤ mixF s % ((d : Int) + 2) := Int.emod_nonneg _ (by omega)
    have q1 : mixF s % ((d : Int) + 2) < (d : Int) + 2 := Int.emod_lt_of_pos _ (by omega)
    have g1 : ¬ ((d : Int) + 2 = 0) := by omega
    have g2 : mixF s % ((d : Int) + 2) < (x.length : Int) := by omega
    have g3 : 0 ≤ ((d + 1 : Nat) : Int) := by omega
    have g4 : ((d + 1 : Nat) : Int) < (x.length : Int) := by omega
    have e1 : (((d + 1 : Nat) : Int)).toNat = d + 1 := by omega
    have e2 : ((d + 1 : Nat) : Int) = (d : Int) + 1 := by omega
    simp only [spec_l11shuffle.l0, if_pos h, specMix_eq, Option.bind_some, w1, w2, t1, if_neg g1, if_pos q0, if_pos g2, if_pos g3, if_pos g4, e1]
    rw [e2]
    exact ih _ _ (by omega) (by simp [hx])
theorem specl11shuffle_ev (l : List Int) (s : Int) (hl : l.length ≤ 12) : Ev (fun k => spec_l11shuffle.f k l s) (shufF l s) := by
  unfold spec_l11shuffle.f
  have hlt : ([] : List Int).length + l.length < 17592186044416 := by simp; omega
  simp only [Option.bind_some, if_pos hlt, List.nil_append]
  by_cases z : l.length = 0
  · have w : wrap64 ((l.length : Int) - 1) = -1 := by unfold wrap64; omega
    refine evPos ?_
    have c : ¬ ((-1 : Int) > 0) := by omega
    simp only [w, spec_l11shuffle.l0, if_neg c]
    refine evConst ?_
    unfold shufF
    rw [z]; rfl
  · have w : wrap64 ((l.length : Int) - 1) = ((l.length - 1 : Nat) : Int) := by unfold wrap64; omega
    simp only [w]
    exact specShuffle_loop l.length (by omega) (l.length - 1) s l (by omega) rfl
/-! slices.Index and slices.Contains of whole numbers. -/
theorem Index_loop (l : List Int) (a : Int) (hl : l.length ≤ 9223372036854775807) (d : Nat) : ∀ (i : Int), 0 ≤ i → i ≤ l.length → (l.length : Int) - i = d →
    ∃ r, Ev (fun k => slices_Index_int_int.l0 k l a (l.length : Int) i) r ∧ (r ≥ 0 ↔ a ∈ l.drop i.toNat) := by
  induction d with
  | zero =>
    intro i h0 h1 hd
    refine ⟨-1, ?_, ?_⟩
    · refine evPos ?_
      have hge : ¬ i < (l.length : Int) := by omega
      simp only [slices_Index_int_int.l0, if_neg hge]
      exact Ev.now _
    · rw [List.drop_eq_nil_of_le (by omega)]; simp
  | succ d ih =>
    intro i h0 h1 hd
    have hlt : i < (l.length : Int) := by omega
    have hw : wrap64 (i + 1) = i + 1 := wrap_up h0 hlt hl
    have e : (i + 1).toNat = i.toNat + 1 := by omega
    have ed : l.drop i.toNat = rd l i :: l.drop (i + 1).toNat := by
      rw [e, List.drop_eq_getElem_cons (by omega), rd_lt h0 hlt]
    by_cases c : a = rd l i
    · refine ⟨i, ?_, ?_⟩
      · refine evPos ?_
        simp only [slices_Index_int_int.l0, if_pos hlt, if_pos h0, if_pos c]
        exact Ev.now _
      · rw [ed]; simp [← c, h0]
    · obtain ⟨r, hr, hm⟩ := ih (i + 1) (by omega) (by omega) (by omega)
      refine ⟨r, ?_, ?_⟩
      · refine evPos ?_
        simp only [slices_Index_int_int.l0, if_pos hlt, if_pos h0, if_neg c, hw]
        exact hr
      · rw [ed, hm]; simp [c]
theorem Contains_ev (l : List Int) (a : Int) (hl : l.length ≤ 9223372036854775807) : Ev (fun k => slices_Contains_int_int.f k l a) (decide (a ∈ l)) := by
  unfold slices_Contains_int_int.f slices_Index_int_int.f
  obtain ⟨r, hr, hm⟩ := Index_loop l a hl l.length 0 (by omega) (by omega) (by omega)
  refine Ev.bind hr (evConst ?_)
  simp only [Int.toNat_zero, List.drop_zero] at hm
  simp [hm]
/-! A prober: what the program asks and what the reference asks is one. -/
/-- The first i of l are members' numbers, all different. -/
def fine (l : List Int) : Bool := l.all (fun c => decide (0 ≤ c) && decide (c ≤ 11)) && decide l.Nodup
def tailB (n : Nat) (next seed state who wait : Int) : Bool :=
  decide (0 ≤ next) && decide (next ≤ n) && (decide (0 ≤ seed) && decide (seed ≤ 2147483647)) && (decide (0 ≤ state) && decide (state ≤ 2)) && (decide (0 ≤ who) && decide (who ≤ 11)) && (decide (0 ≤ wait) && decide (wait ≤ 4)) && (!decide (state = 0) || decide (who = 0) && decide (wait = 0))
def probB (l : List Int) (next seed state who wait : Int) : Bool := fine l && tailB l.length next seed state who wait
theorem fine_length {l : List Int} (h : fine l = true) : l.length ≤ 12 := by
  simp only [fine, Bool.and_eq_true, List.all_eq_true, decide_eq_true_eq] at h
  obtain ⟨h1, h2⟩ := h
  have hs : l ⊆ (List.range 12).map (fun (i : Nat) => (i : Int)) := by
    intro x hx
    have := h1 x hx
    rw [List.mem_map]
    exact ⟨x.toNat, by simp; omega, by omega⟩
  have := h2.length_le_of_subset hs
  simpa using this
theorem fine_take_succ {l : List Int} {i : Int} (h0 : 0 ≤ i) (h : i < (l.length : Int)) : fine (l.take (i + 1).toNat) = (fine (l.take i.toNat) && (decide (0 ≤ rd l i) && decide (rd l i ≤ 11) && !decide (rd l i ∈ l.take i.toNat))) := by
  have e : (i + 1).toNat = i.toNat + 1 := by omega
  rw [e, List.take_succ_eq_append_getElem (by omega), ← rd_lt h0 h]
  generalize rd l i = x
  generalize l.take i.toNat = m
  rw [Bool.eq_iff_iff]
  simp only [fine, List.all_append, List.all_cons, List.all_nil, Bool.and_true, Bool.and_eq_true, decide_eq_true_eq, List.nodup_append, Bool.not_eq_true', decide_eq_false_iff_not]
  constructor
  · rintro ⟨⟨h1, h2⟩, h3, h4, h5⟩
    refine ⟨⟨h1, h3⟩, h2, fun hm => h5 x hm x (by simp) rfl⟩
  · rintro ⟨⟨h1, h3⟩, h2, hm⟩
    exact ⟨⟨h1, h2⟩, h3, by simp, fun a ha b hb => by simp at hb; subst hb; intro e; subst e; exact hm ha⟩
theorem fine_false {l : List Int} {n : Nat} (h : fine (l.take n) = false) : fine l = false := by
  rw [Bool.eq_false_iff] at h ⊢
  intro hf
  apply h
  simp only [fine, Bool.and_eq_true, List.all_eq_true, decide_eq_true_eq] at hf ⊢
  exact ⟨fun x hx => hf.1 x (List.mem_of_mem_take hx), hf.2.sublist (List.take_sublist _ _)⟩
theorem implTail (l : List Int) (a b c d e : Int) :
    ((impl_within.f a 0 (l.length : Int)).bind fun t132 => (if t132 = true then ((impl_isSeed.f b).bind fun t133 => (if t133 = true then ((impl_within.f c 0 2).bind fun t134 => (if t134 = true then ((impl_within.f d 0 11).bind fun t135 => (if t135 = true then ((impl_within.f e 0 4).bind fun t136 => (if t136 = true then (if c = 0 then (if d = 0 then (some (e == 0)) else (some false)) else (some true)) else (some false))) else (some false))) else (some false))) else (some false))) else (some false))) = some (tailB l.length a b c d e) := by
  simp only [within_eq, isSeed_eq, Option.bind_some, tailB]
  by_cases h1 : 0 ≤ a <;> by_cases h2 : a ≤ (l.length : Int) <;> simp only [h1, h2, decide_true, decide_false, Bool.true_and, Bool.false_and, Bool.and_true, Bool.and_false, Bool.false_eq_true, if_true, if_false]
  by_cases h3 : 0 ≤ b <;> by_cases h4 : b ≤ 2147483647 <;> simp only [h3, h4, decide_true, decide_false, Bool.true_and, Bool.false_and, Bool.and_true, Bool.and_false, Bool.false_eq_true, if_true, if_false]
  by_cases h5 : 0 ≤ c <;> by_cases h6 : c ≤ 2 <;> simp only [h5, h6, decide_true, decide_false, Bool.true_and, Bool.false_and, Bool.and_true, Bool.and_false, Bool.false_eq_true, if_true, if_false]
  by_cases h7 : 0 ≤ d <;> by_cases h8 : d ≤ 11 <;> simp only [h7, h8, decide_true, decide_false, Bool.true_and, Bool.false_and, Bool.and_true, Bool.and_false, Bool.false_eq_true, if_true, if_false]
  by_cases h9 : 0 ≤ e <;> by_cases h10 : e ≤ 4 <;> simp only [h9, h10, decide_true, decide_false, Bool.true_and, Bool.false_and, Bool.and_true, Bool.and_false, Bool.false_eq_true, if_true, if_false]
  by_cases h11 : c = 0 <;> by_cases h12 : d = 0 <;> by_cases h13 : e = 0 <;> simp [h11, h12, h13]
theorem implProberOk_loop (l : List Int) (a b c d e : Int) (hl : l.length ≤ 9223372036854775807) (n : Nat) : ∀ (i : Int), 0 ≤ i → i ≤ l.length → (l.length : Int) - i = n → fine (l.take i.toNat) = true →
    Ev (fun k => impl_ProberOk.l0 k l (l.length : Int) i l a b c d e) (probB l a b c d e) := by
  induction n with
  | zero =>
    intro i h0 h1 hd hf
    have hge : ¬ i < (l.length : Int) := by omega
    refine evPos ?_
    simp only [impl_ProberOk.l0, if_neg hge]
    rw [implTail]
    refine evConst ?_
    rw [List.take_of_length_le (by omega)] at hf
    simp [probB, hf]
  | succ n ih =>
    intro i h0 h1 hd hf
    have hlt : i < (l.length : Int) := by omega
    have hw : wrap64 (i + 1) = i + 1 := wrap_up h0 hlt hl
    have hs := fine_take_succ h0 hlt
    rw [hf, Bool.true_and] at hs
    refine evPos ?_
    simp only [impl_ProberOk.l0, if_pos hlt, if_pos h0, if_pos h1, within_eq, Option.bind_some, hw]
    cases hr : (decide (0 ≤ rd l i) && decide (rd l i ≤ 11)) with
    | false =>
      simp only [Bool.false_eq_true, if_false]
      refine evConst ?_
      rw [hr, Bool.false_and] at hs
      simp [probB, fine_false hs]
    | true =>
      simp only [if_true]
      rw [hr, Bool.true_and] at hs
      refine Ev.bind (Contains_ev (l.take i.toNat) (rd l i) (by rw [List.length_take]; omega)) ?_
      cases hm : decide (rd l i ∈ l.take i.toNat) with
      | true =>
        simp only [if_true]
        refine evConst ?_
        rw [hm] at hs
        simp [probB, fine_false hs]
      | false =>
        simp only [Bool.false_eq_true, if_false]
        rw [hm] at hs
        exact ih (i + 1) (by omega) (by omega) (by omega) hs
theorem implProberOk_ev (l : List Int) (a b c d e : Int) (hl : l.length ≤ 9223372036854775807) : Ev (fun k => impl_ProberOk.f k l a b c d e) (probB l a b c d e) := by
  unfold impl_ProberOk.f
  exact implProberOk_loop l a b c d e hl l.length 0 (by omega) (by omega) (by omega) (by simp [fine])
theorem specProberOk_l1 (l : List Int) (a b c d e : Int) (hl : l.length ≤ 12) (i : Int) (h0 : 0 ≤ i) (hi : i < (l.length : Int)) (R : Bool)
    (hin : rd l i ∈ l.take i.toNat → R = false) (hout : rd l i ∉ l.take i.toNat → Ev (fun k => spec_ProberOk.l0 k (i + 1) l a b c d e) R) (n : Nat) :
    ∀ (j : Int), 0 ≤ j → j ≤ i → i - j = n → rd l i ∉ l.take j.toNat → Ev (fun k => spec_ProberOk.l1 k i j l a b c d e) R := by
  induction n with
  | zero =>
    intro j j0 j1 hd hm
    have hge : ¬ j < i := by omega
    have hw : wrap64 (i + 1) = i + 1 := by unfold wrap64; omega
    refine evPos ?_
    simp only [spec_ProberOk.l1, if_neg hge, hw]
    have : j = i := by omega
    subst this
    exact hout hm
  | succ n ih =>
    intro j j0 j1 hd hm
    have hlt : j < i := by omega
    have hjl : j < (l.length : Int) := by omega
    have hw : wrap64 (j + 1) = j + 1 := by unfold wrap64; omega
    have ej : (j + 1).toNat = j.toNat + 1 := by omega
    refine evPos ?_
    simp only [spec_ProberOk.l1, if_pos hlt, if_pos j0, if_pos hjl, if_pos h0, if_pos hi, hw]
    have et : l.take (j + 1).toNat = l.take j.toNat ++ [rd l j] := by
      rw [ej, List.take_succ_eq_append_getElem (by omega), ← rd_lt j0 hjl]
    by_cases q : rd l j = rd l i
    · simp only [if_pos q]
      refine evConst ?_
      rw [hin]
      have h2 : rd l i ∈ l.take (j + 1).toNat := by rw [et, ← q]; simp
      exact List.take_subset_take_left l (by omega) h2
    · simp only [if_neg q]
      refine ih (j + 1) (by omega) (by omega) (by omega) ?_
      rw [et, List.mem_append]
      rintro (h | h)
      · exact hm h
      · simp at h; exact q h.symm
theorem specProberOk_loop (l : List Int) (a b c d e : Int) (hl : l.length ≤ 12) (R : Bool) (hR : R = (fine l && (!decide (c = 0) || decide (d = 0) && decide (e = 0)))) (n : Nat) : ∀ (i : Int), 0 ≤ i → i ≤ l.length → (l.length : Int) - i = n → fine (l.take i.toNat) = true →
    Ev (fun k => spec_ProberOk.l0 k i l a b c d e) R := by
  induction n with
  | zero =>
    intro i h0 h1 hd hf
    have hge : ¬ i < (l.length : Int) := by omega
    refine evPos ?_
    simp only [spec_ProberOk.l0, if_neg hge]
    refine evConst ?_
    rw [List.take_of_length_le (by omega)] at hf
    rw [hR, hf]
    by_cases h11 : c = 0 <;> by_cases h12 : d = 0 <;> by_cases h13 : e = 0 <;> simp [h11, h12, h13]
  | succ n ih =>
    intro i h0 h1 hd hf
    have hlt : i < (l.length : Int) := by omega
    have hs := fine_take_succ h0 hlt
    rw [hf, Bool.true_and] at hs
    refine evPos ?_
    simp only [spec_ProberOk.l0, if_pos hlt, if_pos h0]
    have jt : (decide (0 ≤ rd l i) && decide (rd l i ≤ 11)) = false → Ev (fun k => spec_ProberOk.j2 k i true l a b c d e) R := by
      intro hr
      refine evPos ?_
      simp only [spec_ProberOk.j2, if_true]
      refine evConst ?_
      rw [hr, Bool.false_and] at hs
      rw [hR, fine_false hs]; rfl
    by_cases g1 : rd l i < 0
    · simp only [if_pos g1]
      exact jt (by have : ¬ 0 ≤ rd l i := (by omega); simp [this])
    · simp only [if_neg g1]
      by_cases g2 : rd l i ≥ 12
      · simp only [g2, decide_true]
        exact jt (by have : ¬ rd l i ≤ 11 := (by omega); simp [this])
      · simp only [g2, decide_false]
        refine evPos ?_
        simp only [spec_ProberOk.j2, Bool.false_eq_true, if_false]
        have hr : (decide (0 ≤ rd l i) && decide (rd l i ≤ 11)) = true := by
          have x : 0 ≤ rd l i := by omega
          have y : rd l i ≤ 11 := by omega
          simp [x, y]
        rw [hr, Bool.true_and] at hs
        refine specProberOk_l1 l a b c d e hl i h0 hlt R ?_ ?_ i.toNat 0 (by omega) (by omega) (by omega) (by simp)
        · intro hm
          simp only [hm, decide_true, Bool.not_true] at hs
          rw [hR, fine_false hs]; rfl
        · intro hm
          simp only [hm, decide_false, Bool.not_false] at hs
          exact ih (i + 1) (by omega) (by omega) (by omega) hs
theorem specProberOk_ev (l : List Int) (a b c d e : Int) (hl : l.length ≤ 9223372036854775807) : Ev (fun k => spec_ProberOk.f k l a b c d e) (probB l a b c d e) := by
  unfold spec_ProberOk.f
  have jt : Ev (fun k => spec_ProberOk.j0 k true l a b c d e) false := by
    refine evPos ?_
    simp only [spec_ProberOk.j0, if_true]
    exact Ev.now _
  by_cases h0 : (l.length : Int) > 12
  · simp only [if_pos h0]
    refine evVal jt ?_
    cases hf : fine l with
    | false => simp [probB, hf]
    | true => have := fine_length hf; omega
  simp only [if_neg h0]
  have step : ∀ (p : Prop) [Decidable p] (f : Nat → Option Bool), (p → tailB l.length a b c d e = false) → (¬ p → Ev f (probB l a b c d e)) → Ev (fun k => if p then spec_ProberOk.j0 k true l a b c d e else f k) (probB l a b c d e) := by
    intro p _ f h1 h2
    by_cases hp : p
    · simp only [if_pos hp]; exact evVal jt (by simp [probB, h1 hp])
    · simp only [if_neg hp]; exact h2 hp
  refine step _ _ (fun h => by have : ¬ 0 ≤ a := (by omega); simp [tailB, this]) fun g1 => ?_
  refine step _ _ (fun h => by have : ¬ a ≤ (l.length : Int) := (by omega); simp [tailB, this]) fun g2 => ?_
  refine step _ _ (fun h => by have : ¬ 0 ≤ b := (by omega); simp [tailB, this]) fun g3 => ?_
  refine step _ _ (fun h => by have : ¬ b ≤ 2147483647 := (by omega); simp [tailB, this]) fun g4 => ?_
  refine step _ _ (fun h => by have : ¬ 0 ≤ c := (by omega); simp [tailB, this]) fun g5 => ?_
  refine step _ _ (fun h => by have : ¬ c ≤ 2 := (by omega); simp [tailB, this]) fun g6 => ?_
  refine step _ _ (fun h => by have : ¬ 0 ≤ e := (by omega); simp [tailB, this]) fun g7 => ?_
  refine step _ _ (fun h => by have : ¬ e ≤ 4 := (by omega); simp [tailB, this]) fun g8 => ?_
  refine step _ _ (fun h => by have : ¬ 0 ≤ d := (by omega); simp [tailB, this]) fun g9 => ?_
  by_cases g10 : d ≥ 12
  · simp only [g10, decide_true]
    refine evVal jt ?_
    have : ¬ d ≤ 11 := by omega
    simp [probB, tailB, this]
  · simp only [g10, decide_false]
    refine evPos ?_
    simp only [spec_ProberOk.j0, Bool.false_eq_true, if_false]
    refine specProberOk_loop l a b c d e (by omega) _ ?_ l.length 0 (by omega) (by omega) (by omega) (by simp [fine])
    have k1 : 0 ≤ a := by omega
    have k2 : a ≤ (l.length : Int) := by omega
    have k3 : 0 ≤ b := by omega
    have k4 : b ≤ 2147483647 := by omega
    have k5 : 0 ≤ c := by omega
    have k6 : c ≤ 2 := by omega
    have k7 : 0 ≤ e := by omega
    have k8 : e ≤ 4 := by omega
    have k9 : 0 ≤ d := by omega
    have k10 : d ≤ 11 := by omega
    simp only [probB, tailB, k1, k2, k3, k4, k5, k6, k7, k8, k9, k10, decide_true, Bool.true_and]
theorem toProber_ev (l : List Int) (a b c d e : Int) (hl : l.length ≤ 35184372088832) : Ev (fun k => laws_toProber.f k l a b c d e) (l, a, b, c, d, e) := by
  unfold laws_toProber.f
  exact Ev.bind (toIntS_ev l hl) (Ev.now _)
theorem eqProber_ev (l : List Int) (a b c d e : Int) (hl : l.length ≤ 35184372088832) : Ev (fun k => laws_eqProber.f k l a b c d e l a b c d e) true := by
  unfold laws_eqProber.f
  refine Ev.bind (eqIntS_ev l hl) ?_
  exact evConst (by simp)
theorem szProber_eq (l : List Int) (a b c d e x : Int) (hl : l.length ≤ 9223372036854775807) (hx : -1 ≤ x) (hx' : x ≤ 1048576) : laws_szProber.f l a b c d e x = some (if (l.length : Int) ≤ x then x - l.length else -1) := by
  unfold laws_szProber.f
  rw [szIntS_eq l x hl hx hx', Option.bind_some]
  by_cases h : (l.length : Int) ≤ x
  · rw [if_pos h, if_neg (by omega)]
  · rw [if_neg h, if_pos (by omega)]
theorem markProber_ev (l : List Int) (a b c d e x : Int) (ha : 0 ≤ x) (hn : x + l.length ≤ 9223372036854775807) : Ev (fun k => laws_markProber.f k l a b c d e x) (x + l.length, marks x l.length) := by
  unfold laws_markProber.f
  exact Ev.bind (markIntS_ev l x ha hn) (Ev.now _)
theorem heldProber_ev (n : Nat) (a b c d e x : Int) (ha : 0 ≤ x) (hn : x + n ≤ 9223372036854775807) : Ev (fun k => laws_heldProber.f k (marks x n) a b c d e x) (x + n) := by
  unfold laws_heldProber.f
  refine Ev.bind (heldIntS_ev x n ha hn) ?_
  have c1 : ¬ (x + n < 0) := by omega
  simp only [if_neg c1]
  exact Ev.now _
theorem clonei_eq (l : List Int) (h : l.length ≤ 1048576) : slices_Clone_int_int.f l = some l := by
  unfold slices_Clone_int_int.f
  exact if_pos (by omega)
theorem implOwnP_eq (l : List Int) (a b c d e : Int) (h : l.length ≤ 1048576) : impl_Prober_own.f l a b c d e = some (l, a, b, c, d, e) := by
  unfold impl_Prober_own.f
  rw [clonei_eq l h, Option.bind_some]
theorem specOwnP_eq (l : List Int) (a b c d e : Int) (h : l.length ≤ 1048576) : spec_l11own.f l a b c d e = some (l, a, b, c, d, e) := by
  unfold spec_l11own.f
  simp only [Option.bind_some, List.nil_append, List.length_nil, Nat.zero_add]
  exact if_pos (by omega)
def memB (a b c : Int) : Bool := decide (0 ≤ a) && decide (a ≤ 11) && (decide (0 ≤ b) && decide (b ≤ 3)) && (decide (0 ≤ c) && decide (c ≤ 1000))
theorem specMemberOk_eq (a b c : Int) : spec_MemberOk.f a b c = some (memB a b c) := by
  unfold spec_MemberOk.f memB
  by_cases h1 : 0 ≤ a <;> by_cases h2 : a ≤ 11 <;> by_cases h3 : 0 ≤ b <;> by_cases h4 : b ≤ 3 <;> by_cases h5 : 0 ≤ c <;> simp [h1, h2, h3, h4, h5] <;> omega
theorem implMemberOk_eq (a b c : Int) : impl_MemberOk.f a b c = some (memB a b c) := by
  unfold impl_MemberOk.f memB
  simp only [within_eq, Option.bind_some]
  by_cases h1 : 0 ≤ a <;> by_cases h2 : a ≤ 11 <;> by_cases h3 : 0 ≤ b <;> by_cases h4 : b ≤ 3 <;> simp [h1, h2, h3, h4]
/-! Tables of members: their size, copied, compared. -/
def cvM (x : S80) : S82 := ⟨x.f0, x.f1, x.f2⟩
theorem rdML_lt {l : List S80} {i : Int} (h0 : 0 ≤ i) (h : i < (l.length : Int)) : rd_T80 l i = l[i.toNat]'(by omega) := by
  unfold rd_T80; rw [List.getD_eq_getElem?_getD, List.getElem?_eq_getElem (by omega)]; rfl
theorem szTable_at (a x : Int) (l : List S80) (hl : l.length ≤ 9223372036854775807) (hx : -1 ≤ x) (hx' : x ≤ 1048576) : laws_szTable.f a l x = some (if (l.length : Int) ≤ x then x - (l.length : Int) else -1) := by
  unfold laws_szTable.f laws_szMemberS.f
  have w : wrap64 (x - (l.length : Int)) = x - l.length := by unfold wrap64; omega
  rw [w]
  by_cases h : (l.length : Int) ≤ x
  · rw [if_neg (by omega), if_pos h, Option.bind_some, if_neg (by omega)]
  · rw [if_pos (by omega), if_neg h, Option.bind_some, if_pos (by omega)]
theorem szTable_eq (a : Int) (l : List S80) (hl : l.length ≤ 9223372036854775807) : laws_szTable.f a l 1048576 = some (if (l.length : Int) ≤ 1048576 then 1048576 - (l.length : Int) else -1) := szTable_at a 1048576 l hl (by omega) (by omega)
theorem toMemberS_loop (l : List S80) (hl : l.length ≤ 1048576) (d : Nat) : ∀ (x : List S82) (i : Int), 0 ≤ i → i ≤ l.length → (l.length : Int) - i = d → x.length = l.length → x.take i.toNat = (l.map cvM).take i.toNat →
    Ev (fun k => laws_toMemberS.l0 k l x i) (l.map cvM) := by
  induction d with
  | zero =>
    intro x i h0 h1 hd hx ht
    have hge : ¬ i < (l.length : Int) := by omega
    refine evPos ?_
    simp only [laws_toMemberS.l0, if_neg hge]
    refine evConst ?_
    rw [List.take_of_length_le (by omega), List.take_of_length_le (by simp; omega)] at ht
    rw [ht]
  | succ d ih =>
    intro x i h0 h1 hd hx ht
    have hlt : i < (l.length : Int) := by omega
    have hlt' : i < (x.length : Int) := by omega
    refine evPos ?_
    have hw : wrap64 (i + 1) = i + 1 := wrap_up h0 hlt (by omega)
    simp only [laws_toMemberS.l0, if_pos hlt, if_pos h0, rdML_lt h0 hlt, if_pos hlt', laws_toMember.f, Option.bind_some, hw]
    refine ih _ (i + 1) (by omega) (by omega) (by omega) (by simp [hx]) ?_
    have e : (i + 1).toNat = i.toNat + 1 := by omega
    rw [e, List.take_succ_eq_append_getElem (by simp; omega), List.take_succ_eq_append_getElem (by simp; omega)]
    rw [List.take_set_of_le (Nat.le_refl _), ht, List.getElem_set_self, List.getElem_map]
    rfl
theorem toTable_ev (a : Int) (l : List S80) (hl : l.length ≤ 1048576) : Ev (fun k => laws_toTable.f k a l) (a, l.map cvM) := by
  unfold laws_toTable.f
  have h : Ev (fun k => laws_toMemberS.f k l) (l.map cvM) := by
    unfold laws_toMemberS.f
    have h1 : 0 ≤ (l.length : Int) := by omega
    have h2 : ((l.length : Int)).toNat ≤ 11728124029610 := by omega
    simp only [if_pos h1, if_pos h2]
    exact toMemberS_loop l hl l.length _ 0 (by omega) (by omega) (by omega) (by simp) (by simp)
  exact Ev.bind h (Ev.now _)
theorem eqMemberS_loop (l : List S82) (hl : l.length ≤ 1048576) (d : Nat) : ∀ (i : Int), 0 ≤ i → i ≤ l.length → (l.length : Int) - i = d → Ev (fun k => laws_eqMemberS.l0 k l l i) true := by
  induction d with
  | zero =>
    intro i h0 h1 hd
    have hge : ¬ i < (l.length : Int) := by omega
    refine evPos ?_
    simp only [laws_eqMemberS.l0, if_neg hge]
    exact Ev.now _
  | succ d ih =>
    intro i h0 h1 hd
    have hlt : i < (l.length : Int) := by omega
    refine evPos ?_
    have hw : wrap64 (i + 1) = i + 1 := wrap_up h0 hlt (by omega)
    simp only [laws_eqMemberS.l0, if_pos hlt, if_pos h0, hw, laws_eqMember.f, if_true, Option.bind_some]
    exact ih (i + 1) (by omega) (by omega) (by omega)
theorem eqTable_ev (a : Int) (l : List S82) (hl : l.length ≤ 1048576) : Ev (fun k => laws_eqTable.f k a l a l) true := by
  unfold laws_eqTable.f
  simp only [if_true]
  have h : Ev (fun k => laws_eqMemberS.f k l l) true := by
    unfold laws_eqMemberS.f
    simp only [if_true]
    exact eqMemberS_loop l hl l.length 0 (by omega) (by omega) (by omega)
  refine Ev.bind h ?_
  simp only [if_true]
  exact Ev.now _
/-! A table marked and found: what was marked is found so. -/
def marksM (a : Int) (n : Nat) : List S82 := (List.range n).map fun (i : Nat) => ⟨a + 3 * (i : Int), a + 3 * (i : Int) + 1, a + 3 * (i : Int) + 2⟩
theorem marksM_length (a : Int) (n : Nat) : (marksM a n).length = n := by simp [marksM]
theorem rdM_lt {l : List S82} {i : Int} (h0 : 0 ≤ i) (h : i < (l.length : Int)) : rd_T82 l i = l[i.toNat]'(by omega) := by
  unfold rd_T82; rw [List.getD_eq_getElem?_getD, List.getElem?_eq_getElem (by omega)]; rfl
theorem rdM_set {l : List S82} {i : Int} (h0 : 0 ≤ i) (h : i < (l.length : Int)) (v : S82) : rd_T82 (l.set i.toNat v) i = v := by
  rw [rdM_lt h0 (by simpa using h), List.getElem_set_self]
theorem marksM_rd (a : Int) (n : Nat) {i : Int} (h0 : 0 ≤ i) (h : i < (n : Int)) : rd_T82 (marksM a n) i = ⟨a + 3 * i, a + 3 * i + 1, a + 3 * i + 2⟩ := by
  rw [rdM_lt h0 (by rw [marksM_length]; exact h)]
  simp only [marksM, List.getElem_map, List.getElem_range]
  have e : ((i.toNat : Nat) : Int) = i := by omega
  rw [e]
theorem markMS_loop (n : Nat) (a : Int) (ha : 0 ≤ a) (hn : a + 3 * n ≤ 4611686018427387904) (d : Nat) : ∀ (x : List S82) (i : Int), 0 ≤ i → i ≤ n → (n : Int) - i = d → x.length = n → x.take i.toNat = (marksM a n).take i.toNat →
    Ev (fun k => laws_markMemberS.l0 k x (a + 3 * i) i) (a + 3 * n, marksM a n) := by
  induction d with
  | zero =>
    intro x i h0 h1 hd hx ht
    have hge : ¬ i < (x.length : Int) := by omega
    refine evPos ?_
    simp only [laws_markMemberS.l0, if_neg hge]
    refine evConst ?_
    have e : i.toNat = n := by omega
    have ei : i = n := by omega
    rw [e] at ht
    rw [List.take_of_length_le (by omega), List.take_of_length_le (by rw [marksM_length]; omega)] at ht
    rw [ht, ei]
  | succ d ih =>
    intro x i h0 h1 hd hx ht
    refine evPos ?_
    have hlt : i < (x.length : Int) := by omega
    have hw : wrap64 (i + 1) = i + 1 := by unfold wrap64; omega
    have w1 : wrap64 (a + 3 * i + 1) = a + 3 * i + 1 := by unfold wrap64; omega
    have w2 : wrap64 (a + 3 * i + 1 + 1) = a + 3 * i + 2 := by unfold wrap64; omega
    have w3 : wrap64 (a + 3 * i + 2 + 1) = a + 3 * (i + 1) := by unfold wrap64; omega
    simp only [laws_markMemberS.l0, if_pos hlt, if_pos h0, Option.bind_some, w1, w2, w3, hw, List.set_set, rdM_set h0 hlt]
    refine ih _ (i + 1) (by omega) (by omega) (by omega) (by simp [hx]) ?_
    have e : (i + 1).toNat = i.toNat + 1 := by omega
    have hi : i.toNat < (marksM a n).length := by rw [marksM_length]; omega
    have hi' : i.toNat < x.length := by omega
    rw [e, List.take_succ_eq_append_getElem hi, List.take_succ_eq_append_getElem (by simpa using hi'), List.take_set_of_le (Nat.le_refl _), ht, List.getElem_set_self, ← rdM_lt h0 (by rw [marksM_length]; omega), marksM_rd a n h0 (by omega)]
theorem markTab_ev (s : Int) (l : List S82) (a : Int) (ha : 0 ≤ a) (hn : a + 3 * l.length ≤ 4611686018427387904) : Ev (fun k => laws_markTable.f k s l a) (a + 3 * l.length, marksM a l.length) := by
  have h : Ev (fun k => laws_markMemberS.f k l a) (a + 3 * l.length, marksM a l.length) := by
    unfold laws_markMemberS.f
    have := markMS_loop l.length a ha hn l.length l 0 (by omega) (by omega) (by omega) rfl (by simp)
    simpa using this
  unfold laws_markTable.f
  refine Ev.bind h ?_
  exact Ev.now _
/-! Where a member is: step by step, and by halves: one answer, of an ascending list. -/
abbrev MT := S82
def Rm (l : List MT) (i : Int) : MT := rd_T82 l i
/-- One step's test: a valid member, behind the one before it. -/
def chk (l : List MT) (i : Int) : Bool := memB (Rm l i).f0 (Rm l i).f1 (Rm l i).f2 && (decide (i = 0) || decide ((Rm l (i - 1)).f0 < (Rm l i).f0))
def Chk (l : List MT) : Prop := ∀ i : Int, 0 ≤ i → i < l.length → chk l i = true
theorem Chk.asc {l : List MT} (h : Chk l) : ∀ (d : Nat) (a b : Int), 0 ≤ a → a < b → b < l.length → b - a = d + 1 → (Rm l a).f0 < (Rm l b).f0 := by
  intro d
  induction d with
  | zero =>
    intro a b h0 h1 h2 hd
    have := h b (by omega) h2
    simp only [chk, Bool.and_eq_true, Bool.or_eq_true, decide_eq_true_eq] at this
    obtain rfl : a = b - 1 := by omega
    rcases this.2 with e | e
    · omega
    · exact e
  | succ d ih =>
    intro a b h0 h1 h2 hd
    have r := ih a (b - 1) h0 (by omega) (by omega) (by omega)
    have := h b (by omega) h2
    simp only [chk, Bool.and_eq_true, Bool.or_eq_true, decide_eq_true_eq] at this
    rcases this.2 with e | e
    · omega
    · omega
theorem Chk.lt {l : List MT} (h : Chk l) {a b : Int} (h0 : 0 ≤ a) (h1 : a < b) (h2 : b < l.length) : (Rm l a).f0 < (Rm l b).f0 := h.asc (b - a - 1).toNat a b h0 h1 h2 (by omega)
theorem Chk.uniq {l : List MT} (h : Chk l) {a b : Int} (h0 : 0 ≤ a) (h1 : a < l.length) (h2 : 0 ≤ b) (h3 : b < l.length) (e : (Rm l a).f0 = (Rm l b).f0) : a = b := by
  rcases Int.lt_trichotomy a b with c | c | c
  · have := h.lt h0 c h3; omega
  · exact c
  · have := h.lt h2 c h1; omega
/-- Where the number is: its place, or none. -/
def At (l : List MT) (id r : Int) : Prop := 0 ≤ r ∧ r < l.length ∧ (Rm l r).f0 = id
def Non (l : List MT) (id : Int) : Prop := ∀ j : Int, 0 ≤ j → j < l.length → (Rm l j).f0 ≠ id
theorem specFind_loop (l : List MT) (hl : l.length ≤ 1048576) (s id : Int) (d : Nat) : ∀ (i : Int), 0 ≤ i → i ≤ l.length → (l.length : Int) - i = d → (∀ j : Int, 0 ≤ j → j < i → (Rm l j).f0 ≠ id) →
    ∃ r, Ev (fun k => spec_l10find.l0 k id i s l) r ∧ (At l id r ∨ r = -1 ∧ Non l id) := by
  induction d with
  | zero =>
    intro i h0 h1 hd hn
    have hge : ¬ i < (l.length : Int) := by omega
    refine ⟨-1, evPos ?_, Or.inr ⟨rfl, fun j j0 j1 => hn j j0 (by omega)⟩⟩
    simp only [spec_l10find.l0, if_neg hge]
    exact Ev.now _
  | succ d ih =>
    intro i h0 h1 hd hn
    have hlt : i < (l.length : Int) := by omega
    by_cases c : (rd_T82 l i).f0 = id
    · refine ⟨i, evPos ?_, Or.inl ⟨h0, hlt, c⟩⟩
      simp only [spec_l10find.l0, if_pos hlt, if_pos h0, if_pos c]
      exact Ev.now _
    · obtain ⟨r, hr, hp⟩ := ih (i + 1) (by omega) (by omega) (by omega) (fun j j0 j1 => by
        by_cases e : j = i
        · subst e; exact c
        · exact hn j j0 (by omega))
      refine ⟨r, evPos ?_, hp⟩
      have hw : wrap64 (i + 1) = i + 1 := wrap_up h0 hlt (by omega)
      simp only [spec_l10find.l0, if_pos hlt, if_pos h0, if_neg c, hw]
      exact hr
theorem specFind_ev (l : List MT) (hl : l.length ≤ 1048576) (s id : Int) : ∃ r, Ev (fun k => spec_l10find.f k s l id) r ∧ (At l id r ∨ r = -1 ∧ Non l id) := by
  unfold spec_l10find.f
  exact specFind_loop l hl s id l.length 0 (by omega) (by omega) (by omega) (fun j j0 j1 => by omega)
theorem cmpI_neg (a b : Int) : impl_Table_member.cmpI a b < 0 ↔ a < b := by
  unfold impl_Table_member.cmpI
  by_cases h : a < b
  · simp [h]
  · by_cases h2 : a > b <;> simp [h, h2]
theorem cmpI_zero (a b : Int) : (impl_Table_member.cmpI a b == 0) = decide (a = b) := by
  unfold impl_Table_member.cmpI
  by_cases h : a < b
  · have : a ≠ b := by omega
    simp [h, this]
  · by_cases h2 : a > b
    · have : a ≠ b := by omega
      simp [h, h2, this]
    · have : a = b := by omega
      simp [this]
theorem srch_loop (l : List MT) (hl : l.length ≤ 1048576) (h : Chk l) (id : Int) (d : Nat) : ∀ (lo hi : Nat), lo ≤ hi → hi ≤ l.length → hi - lo ≤ d → (∀ j : Int, 0 ≤ j → j < lo → (Rm l j).f0 < id) → (∀ j : Int, hi ≤ j → j < l.length → id ≤ (Rm l j).f0) →
    ∃ r : Nat, r ≤ l.length ∧ (∀ j : Int, 0 ≤ j → j < r → (Rm l j).f0 < id) ∧ (∀ j : Int, r ≤ j → j < l.length → id ≤ (Rm l j).f0) ∧
      Ev (fun k => impl_Table_member.srchl0 k l id lo hi) ((r : Int), decide (r < l.length) && decide ((Rm l r).f0 = id)) := by
  induction d with
  | zero =>
    intro lo hi h0 h1 hd a b
    obtain rfl : hi = lo := by omega
    refine ⟨hi, h1, a, b, evPos ?_⟩
    have hge : ¬ hi < hi := by omega
    simp only [impl_Table_member.srchl0, if_neg hge, cmpI_zero]
    exact Ev.now _
  | succ d ih =>
    intro lo hi h0 h1 hd a b
    by_cases c : lo < hi
    · have em : ((lo : Int) + (hi : Int)) / 2 = (((lo + hi) / 2 : Nat) : Int) := by omega
      by_cases c2 : (Rm l (((lo : Int) + (hi : Int)) / 2)).f0 < id
      · obtain ⟨r, r1, ra, rb, hr⟩ := ih ((lo + hi) / 2 + 1) hi (by omega) h1 (by omega) (fun j j0 j1 => by
          by_cases e : j = ((lo : Int) + (hi : Int)) / 2
          · subst e; exact c2
          · have := h.lt j0 (show j < ((lo : Int) + (hi : Int)) / 2 by omega) (by omega); omega) b
        refine ⟨r, r1, ra, rb, evPos ?_⟩
        have c3 := (cmpI_neg (rd_T82 l (((lo : Int) + (hi : Int)) / 2)).f0 id).mpr c2
        simp only [impl_Table_member.srchl0, if_pos c, if_pos c3]
        exact hr
      · obtain ⟨r, r1, ra, rb, hr⟩ := ih lo ((lo + hi) / 2) (by omega) (by omega) (by omega) a (fun j j0 j1 => by
          by_cases e : j = ((lo : Int) + (hi : Int)) / 2
          · subst e; omega
          · have := h.lt (show 0 ≤ ((lo : Int) + (hi : Int)) / 2 by omega) (show ((lo : Int) + (hi : Int)) / 2 < j by omega) j1; omega)
        refine ⟨r, r1, ra, rb, evPos ?_⟩
        have c3 : ¬ impl_Table_member.cmpI (rd_T82 l (((lo : Int) + (hi : Int)) / 2)).f0 id < 0 := fun z => c2 ((cmpI_neg _ _).mp z)
        simp only [impl_Table_member.srchl0, if_pos c, if_neg c3]
        exact hr
    · obtain rfl : hi = lo := by omega
      refine ⟨hi, h1, a, b, evPos ?_⟩
      simp only [impl_Table_member.srchl0, if_neg c, cmpI_zero]
      exact Ev.now _
/-- By halves: the place, or where it would be. -/
theorem member_ev (l : List MT) (hl : l.length ≤ 1048576) (h : Chk l) (s id : Int) :
    ∃ r b, Ev (fun k => impl_Table_member.f k s l id) (r, b) ∧ 0 ≤ r ∧ r ≤ l.length ∧ (∀ j : Int, 0 ≤ j → j < r → (Rm l j).f0 < id) ∧ (∀ j : Int, r ≤ j → j < l.length → id ≤ (Rm l j).f0) ∧ (b = true ∧ At l id r ∨ b = false ∧ Non l id) := by
  unfold impl_Table_member.f impl_Table_member.srchf
  have h2 : l.length < 4611686018427387904 := by omega
  simp only [if_pos h2]
  obtain ⟨r, r1, ra, rb, hr⟩ := srch_loop l hl h id l.length 0 l.length (by omega) (by omega) (by omega) (fun j j0 j1 => by omega) (fun j j0 j1 => by omega)
  refine ⟨r, _, hr, by omega, by omega, ra, rb, ?_⟩
  by_cases c : r < l.length ∧ (Rm l r).f0 = id
  · left
    exact ⟨by simp [c.1, c.2], by omega, by omega, c.2⟩
  · right
    refine ⟨by
      by_cases c1 : r < l.length
      · have c2 : ¬ (Rm l r).f0 = id := fun z => c ⟨c1, z⟩
        simp [c2]
      · simp [c1], fun j j0 j1 e => ?_⟩
    have p1 := ra j j0
    have p2 := rb j
    by_cases z : j < r
    · have := p1 z; omega
    · have := rb r (by omega) (by omega)
      by_cases y : (r : Int) = j
      · subst y; exact c ⟨by omega, e⟩
      · have := h.lt (show (0 : Int) ≤ r by omega) (show (r : Int) < j by omega) j1; omega
/-! A table: what the program asks and what the reference asks is one. -/
def tailV (x : MT) : Bool := decide (x.f1 = 0) || decide (x.f1 = 3) || decide (x.f2 = 1000)
/-- A table is valid: as a proposition. -/
def TabP (s : Int) (l : List MT) : Prop := l.length ≤ 12 ∧ Chk l ∧ ∃ r, At l s r ∧ tailV (Rm l r) = true
theorem tail_if (x : MT) : (if x.f1 = 0 then (some true) else (if x.f1 = 3 then (some true) else (some (x.f2 == 1000)))) = some (tailV x) := by
  unfold tailV
  by_cases h1 : x.f1 = 0
  · simp [h1]
  · by_cases h2 : x.f1 = 3
    · simp [h2]
    · by_cases h3 : x.f2 = 1000 <;> simp [h1, h2, h3]
theorem specTab_loop (s : Int) (l : List MT) (hl : l.length ≤ 12) (d : Nat) : ∀ (i : Int), 0 ≤ i → i ≤ l.length → (l.length : Int) - i = d → (∀ j : Int, 0 ≤ j → j < i → chk l j = true) →
    ∃ b, Ev (fun k => spec_TableOk.l0 k i s l) b ∧ (b = true ↔ TabP s l) := by
  induction d with
  | zero =>
    intro i h0 h1 hd hc
    have hge : ¬ i < (l.length : Int) := by omega
    have hC : Chk l := fun j j0 j1 => hc j j0 (by omega)
    obtain ⟨r, hr, hp⟩ := specFind_ev l (by omega) s s
    rcases hp with hp | ⟨rfl, hp⟩
    · have g1 : r ≥ 0 := hp.1
      have g2 : 0 ≤ r := hp.1
      refine ⟨tailV (Rm l r), evPos ?_, fun h => ⟨hl, hC, r, hp, h⟩, fun ⟨_, _, r2, q, h⟩ => ?_⟩
      · simp only [spec_TableOk.l0, if_neg hge]
        refine Ev.bind hr ?_
        simp only [if_pos g1, if_pos g2, if_pos hp.2.1]
        exact evConst (tail_if (rd_T82 l r))
      · have := hC.uniq hp.1 hp.2.1 q.1 q.2.1 (hp.2.2.trans q.2.2.symm)
        rw [this]; exact h
    · refine ⟨false, evPos ?_, fun h => absurd h (by decide), fun ⟨_, _, r2, q, h⟩ => absurd q.2.2 (hp r2 q.1 q.2.1)⟩
      simp only [spec_TableOk.l0, if_neg hge]
      refine Ev.bind hr ?_
      have g1 : ¬ ((-1 : Int) ≥ 0) := by omega
      simp only [if_neg g1]
      exact Ev.now _
  | succ d ih =>
    intro i h0 h1 hd hc
    have hlt : i < (l.length : Int) := by omega
    have hw : wrap64 (i + 1) = i + 1 := wrap_up h0 hlt (by omega)
    have hw2 : wrap64 (i - 1) = i - 1 := by unfold wrap64; omega
    by_cases c : chk l i = true
    · obtain ⟨b, hb, hp⟩ := ih (i + 1) (by omega) (by omega) (by omega) (fun j j0 j1 => by
        by_cases e : j = i
        · subst e; exact c
        · exact hc j j0 (by omega))
      refine ⟨b, evPos ?_, hp⟩
      simp only [chk, Bool.and_eq_true, Bool.or_eq_true, decide_eq_true_eq] at c
      have c1 : memB (rd_T82 l i).f0 (rd_T82 l i).f1 (rd_T82 l i).f2 = true := c.1
      simp only [spec_TableOk.l0, if_pos hlt, if_pos h0, specMemberOk_eq, Option.bind_some, c1, if_true, hw, hw2]
      by_cases c2 : i > 0
      · have g1 : 0 ≤ i - 1 := by omega
        have g2 : i - 1 < (l.length : Int) := by omega
        have g3 : ¬ (rd_T82 l (i - 1)).f0 ≥ (rd_T82 l i).f0 := by
          rcases c.2 with e | e
          · omega
          · have e' : (rd_T82 l (i - 1)).f0 < (rd_T82 l i).f0 := e
            omega
        simp only [if_pos c2, if_pos g1, if_pos g2, if_neg g3]
        exact hb
      · simp only [if_neg c2]; exact hb
    · refine ⟨false, evPos ?_, fun h => absurd h (by decide), fun ⟨_, q, _⟩ => absurd (q i h0 hlt) c⟩
      simp only [spec_TableOk.l0, if_pos hlt, if_pos h0, specMemberOk_eq, Option.bind_some, hw, hw2]
      by_cases c1 : memB (rd_T82 l i).f0 (rd_T82 l i).f1 (rd_T82 l i).f2 = true
      · simp only [c1, if_true]
        have c2 : ¬ (i = 0) ∧ ¬ ((Rm l (i - 1)).f0 < (Rm l i).f0) := by
          simp only [chk, Bool.and_eq_true, Bool.or_eq_true, decide_eq_true_eq] at c
          have c1' : memB (Rm l i).f0 (Rm l i).f1 (Rm l i).f2 = true := c1
          exact ⟨fun e => c ⟨c1', Or.inl e⟩, fun e => c ⟨c1', Or.inr e⟩⟩
        have g0 : i > 0 := by omega
        have g1 : 0 ≤ i - 1 := by omega
        have g2 : i - 1 < (l.length : Int) := by omega
        have g3 : (rd_T82 l (i - 1)).f0 ≥ (rd_T82 l i).f0 := by
          have e' : ¬ ((rd_T82 l (i - 1)).f0 < (rd_T82 l i).f0) := c2.2
          omega
        simp only [if_pos g0, if_pos g1, if_pos g2, if_pos g3]
        exact Ev.now _
      · simp only [if_neg c1]
        exact Ev.now _
theorem implTab_loop (s : Int) (l : List MT) (hl : l.length ≤ 12) (d : Nat) : ∀ (i : Int), 0 ≤ i → i ≤ l.length → (l.length : Int) - i = d → (∀ j : Int, 0 ≤ j → j < i → chk l j = true) →
    ∃ b, Ev (fun k => impl_TableOk.l0 k l (l.length : Int) i s l) b ∧ (b = true ↔ TabP s l) := by
  induction d with
  | zero =>
    intro i h0 h1 hd hc
    have hge : ¬ i < (l.length : Int) := by omega
    have hC : Chk l := fun j j0 j1 => hc j j0 (by omega)
    obtain ⟨r, b, hr, _, _, _, _, hp⟩ := member_ev l (by omega) hC s s
    rcases hp with ⟨rfl, hp⟩ | ⟨rfl, hp⟩
    · have g2 : 0 ≤ r := hp.1
      refine ⟨tailV (Rm l r), evPos ?_, fun h => ⟨hl, hC, r, hp, h⟩, fun ⟨_, _, r2, q, h⟩ => ?_⟩
      · simp only [impl_TableOk.l0, if_neg hge]
        refine Ev.bind hr ?_
        simp only [if_true, if_pos g2, if_pos hp.2.1]
        exact evConst (tail_if (rd_T82 l r))
      · have := hC.uniq hp.1 hp.2.1 q.1 q.2.1 (hp.2.2.trans q.2.2.symm)
        rw [this]; exact h
    · refine ⟨false, evPos ?_, fun h => absurd h (by decide), fun ⟨_, _, r2, q, h⟩ => absurd q.2.2 (hp r2 q.1 q.2.1)⟩
      simp only [impl_TableOk.l0, if_neg hge]
      refine Ev.bind hr ?_
      simp only [Bool.false_eq_true, if_false]
      exact Ev.now _
  | succ d ih =>
    intro i h0 h1 hd hc
    have hlt : i < (l.length : Int) := by omega
    have hw : wrap64 (i + 1) = i + 1 := wrap_up h0 hlt (by omega)
    have hw2 : wrap64 (i - 1) = i - 1 := by unfold wrap64; omega
    by_cases c : chk l i = true
    · obtain ⟨b, hb, hp⟩ := ih (i + 1) (by omega) (by omega) (by omega) (fun j j0 j1 => by
        by_cases e : j = i
        · subst e; exact c
        · exact hc j j0 (by omega))
      refine ⟨b, evPos ?_, hp⟩
      simp only [chk, Bool.and_eq_true, Bool.or_eq_true, decide_eq_true_eq] at c
      have c1 : memB (rd_T82 l i).f0 (rd_T82 l i).f1 (rd_T82 l i).f2 = true := c.1
      simp only [impl_TableOk.l0, if_pos hlt, if_pos h0, implMemberOk_eq, Option.bind_some, c1, if_true, hw, hw2]
      by_cases c2 : i > 0
      · have g1 : 0 ≤ i - 1 := by omega
        have g2 : i - 1 < (l.length : Int) := by omega
        have g3 : ¬ (rd_T82 l (i - 1)).f0 ≥ (rd_T82 l i).f0 := by
          rcases c.2 with e | e
          · omega
          · have e' : (rd_T82 l (i - 1)).f0 < (rd_T82 l i).f0 := e
            omega
        simp only [if_pos c2, if_pos g1, if_pos g2, if_neg g3]
        exact hb
      · simp only [if_neg c2]; exact hb
    · refine ⟨false, evPos ?_, fun h => absurd h (by decide), fun ⟨_, q, _⟩ => absurd (q i h0 hlt) c⟩
      simp only [impl_TableOk.l0, if_pos hlt, if_pos h0, implMemberOk_eq, Option.bind_some, hw, hw2]
      by_cases c1 : memB (rd_T82 l i).f0 (rd_T82 l i).f1 (rd_T82 l i).f2 = true
      · simp only [c1, if_true]
        have c2 : ¬ (i = 0) ∧ ¬ ((Rm l (i - 1)).f0 < (Rm l i).f0) := by
          simp only [chk, Bool.and_eq_true, Bool.or_eq_true, decide_eq_true_eq] at c
          have c1' : memB (Rm l i).f0 (Rm l i).f1 (Rm l i).f2 = true := c1
          exact ⟨fun e => c ⟨c1', Or.inl e⟩, fun e => c ⟨c1', Or.inr e⟩⟩
        have g0 : i > 0 := by omega
        have g1 : 0 ≤ i - 1 := by omega
        have g2 : i - 1 < (l.length : Int) := by omega
        have g3 : (rd_T82 l (i - 1)).f0 ≥ (rd_T82 l i).f0 := by
          have e' : ¬ ((rd_T82 l (i - 1)).f0 < (rd_T82 l i).f0) := c2.2
          omega
        simp only [if_pos g0, if_pos g1, if_pos g2, if_pos g3]
        exact Ev.now _
      · simp only [if_neg c1]
        exact Ev.now _
/-- Both say one thing: whether the table is valid. -/
theorem tableOk_ev (s : Int) (l : List MT) (hl : l.length ≤ 1048576) : ∃ b, Ev (fun k => spec_TableOk.f k s l) b ∧ Ev (fun k => impl_TableOk.f k s l) b ∧ (b = true ↔ TabP s l) := by
  unfold spec_TableOk.f impl_TableOk.f
  by_cases c : (l.length : Int) > 12
  · refine ⟨false, by simp only [if_pos c]; exact Ev.now _, by simp only [if_pos c]; exact Ev.now _, fun h => absurd h (by decide), fun h => ?_⟩
    have := h.1; omega
  · obtain ⟨b1, e1, p1⟩ := specTab_loop s l (by omega) l.length 0 (by omega) (by omega) (by omega) (fun j j0 j1 => by omega)
    obtain ⟨b2, e2, p2⟩ := implTab_loop s l (by omega) l.length 0 (by omega) (by omega) (by omega) (fun j j0 j1 => by omega)
    have : b1 = b2 := by
      cases b1 <;> cases b2 <;> simp_all
    subst this
    exact ⟨b1, by simp only [if_neg c]; exact e1, by simp only [if_neg c]; exact e2, p1⟩
/-! Those that live, and of them the others: the program's and the reference's are one list. -/
theorem live2_loop (s : Int) (l : List MT) (hl : l.length ≤ 12) (hC : Chk l) (d : Nat) : ∀ (x : List Int) (i : Int), 0 ≤ i → i ≤ l.length → (l.length : Int) - i = d → x.length ≤ i.toNat → (∀ y ∈ x, 0 ≤ y) →
    ∃ r, Ev (fun k => spec_Live.l0 k x i s l) r ∧ Ev (fun k => impl_Table_live.l0 k x l (l.length : Int) i) r ∧ r.length ≤ 12 ∧ ∀ y ∈ r, 0 ≤ y := by
  induction d with
  | zero =>
    intro x i h0 h1 hd hx hx2
    have hge : ¬ i < (l.length : Int) := by omega
    refine ⟨x, evPos ?_, evPos ?_, by omega, hx2⟩
    · simp only [spec_Live.l0, if_neg hge]; exact Ev.now _
    · simp only [impl_Table_live.l0, if_neg hge]; exact Ev.now _
  | succ d ih =>
    intro x i h0 h1 hd hx hx2
    have hlt : i < (l.length : Int) := by omega
    have hw : wrap64 (i + 1) = i + 1 := wrap_up h0 hlt (by omega)
    have hm := hC i h0 hlt
    simp only [chk, memB, Bool.and_eq_true, decide_eq_true_eq] at hm
    have p0 : 0 ≤ (rd_T82 l i).f1 := hm.1.1.2.1
    have p1 : 0 ≤ (rd_T82 l i).f0 := hm.1.1.1.1
    have g : x.length < 17592186044416 := by omega
    by_cases c : (rd_T82 l i).f1 ≤ 1
    · obtain ⟨r, e1, e2, hr⟩ := ih (x ++ [(rd_T82 l i).f0]) (i + 1) (by omega) (by omega) (by omega) (by simp; omega) (fun y hy => by
        rcases List.mem_append.1 hy with hy | hy
        · exact hx2 y hy
        · rw [List.mem_singleton.1 hy]; exact p1)
      refine ⟨r, evPos ?_, evPos ?_, hr⟩
      · simp only [spec_Live.l0, if_pos hlt, if_pos h0, if_pos c, if_pos g, hw]; exact e1
      · by_cases c0 : (rd_T82 l i).f1 = 0
        · simp only [impl_Table_live.l0, if_pos hlt, if_pos h0, if_pos c0, if_pos g, hw]; exact e2
        · have c1 : (rd_T82 l i).f1 = 1 := by omega
          simp only [impl_Table_live.l0, if_pos hlt, if_pos h0, if_neg c0, if_pos c1, if_pos g, hw]; exact e2
    · obtain ⟨r, e1, e2, hr⟩ := ih x (i + 1) (by omega) (by omega) (by omega) (by omega) hx2
      refine ⟨r, evPos ?_, evPos ?_, hr⟩
      · simp only [spec_Live.l0, if_pos hlt, if_pos h0, if_neg c, hw]; exact e1
      · have c0 : ¬ (rd_T82 l i).f1 = 0 := by omega
        have c1 : ¬ (rd_T82 l i).f1 = 1 := by omega
        simp only [impl_Table_live.l0, if_pos hlt, if_pos h0, if_neg c0, if_neg c1, hw]; exact e2
theorem live2_ev (s : Int) (l : List MT) (hl : l.length ≤ 1048576) (hT : TabP s l) : ∃ r, Ev (fun k => spec_Live.f k s l) r ∧ Ev (fun k => impl_Table_live.f k s l) r ∧ r.length ≤ 12 ∧ ∀ y ∈ r, 0 ≤ y := by
  obtain ⟨b, e1, e2, hb⟩ := tableOk_ev s l hl
  obtain rfl : b = true := hb.mpr hT
  obtain ⟨h12, hC, _⟩ := hT
  obtain ⟨r, f1, f2, hr⟩ := live2_loop s l h12 hC l.length [] 0 (by omega) (by omega) (by omega) (by simp) (by simp)
  refine ⟨r, ?_, ?_, hr⟩
  · unfold spec_Live.f
    refine Ev.bind e1 ?_
    simp only [if_true]
    exact f1
  · unfold impl_Table_live.f
    exact f2
theorem others_loop (s : Int) (l : List MT) (t : List Int) (ht : t.length ≤ 12) (d : Nat) : ∀ (x : List Int) (i : Int), 0 ≤ i → i ≤ t.length → (t.length : Int) - i = d → x.length ≤ i.toNat →
    Ev (fun k => spec_l11others.l0 k x t i s l) (x ++ (t.drop i.toNat).filter fun y => !(y == s)) := by
  induction d with
  | zero =>
    intro x i h0 h1 hd hx
    have hge : ¬ i < (t.length : Int) := by omega
    refine evPos ?_
    simp only [spec_l11others.l0, if_neg hge]
    refine evConst ?_
    rw [List.drop_eq_nil_of_le (by omega)]; simp
  | succ d ih =>
    intro x i h0 h1 hd hx
    have hlt : i < (t.length : Int) := by omega
    have hw : wrap64 (i + 1) = i + 1 := wrap_up h0 hlt (by omega)
    have g : x.length < 17592186044416 := by omega
    have e : (i + 1).toNat = i.toNat + 1 := by omega
    have ed : t.drop i.toNat = rd t i :: t.drop (i + 1).toNat := by
      rw [e, List.drop_eq_getElem_cons (by omega), rd_lt h0 hlt]
    refine evPos ?_
    by_cases c : rd t i = s
    · simp only [spec_l11others.l0, if_pos hlt, if_pos h0, if_pos c, hw]
      refine evVal (ih x (i + 1) (by omega) (by omega) (by omega) (by omega)) ?_
      rw [ed]; simp [c]
    · simp only [spec_l11others.l0, if_pos hlt, if_pos h0, if_neg c, if_pos g, hw]
      refine evVal (ih (x ++ [rd t i]) (i + 1) (by omega) (by omega) (by omega) (by simp; omega)) ?_
      rw [ed]; simp [c]
/-- The others: those that live, but oneself and one more. -/
theorem others_ev (s b : Int) (l : List MT) (hl : l.length ≤ 1048576) (hT : TabP s l) : ∃ r : List Int, r.length ≤ 12 ∧ (∀ y ∈ r, 0 ≤ y) ∧ Ev (fun k => spec_l11others.f k s l) r ∧ Ev (fun k => impl_Table_others.f k s l b) (r.filter fun y => !(y == b)) := by
  obtain ⟨r, e1, e2, hr, hp⟩ := live2_ev s l hl hT
  refine ⟨r.filter fun y => !(y == s), Nat.le_trans (List.length_filter_le _ _) hr, fun y hy => hp y (List.mem_filter.1 hy).1, ?_, ?_⟩
  · unfold spec_l11others.f
    refine Ev.bind e1 ?_
    have := others_loop s l r hr r.length [] 0 (by omega) (by omega) (by omega) (by simp)
    simpa using this
  · unfold impl_Table_others.f
    refine Ev.bind e2 ?_
    have g : r.length < 4611686018427387904 := by omega
    simp only [if_pos g]
    refine evConst ?_
    rw [List.filter_filter]
    congr 1
    refine List.filter_congr fun y _ => ?_
    unfold impl_Table_others_c.p
    cases y == s <;> cases y == b <;> rfl
theorem filter_none (r : List Int) (hp : ∀ y ∈ r, 0 ≤ y) : (r.filter fun y => !(y == -1)) = r := by
  rw [List.filter_eq_self]
  intro y hy
  have := hp y hy
  have h : (y == -1) = false := beq_eq_false_iff_ne.mpr (by omega)
  rw [h]; rfl
theorem helpers_loop (x n : Int) (o : List Int) (ho : o.length ≤ 12) (l : List Int) (a s c e : Int) (n0 : 0 ≤ n) (d : Nat) : ∀ (i : Int) (y : List Int), 0 ≤ i → i ≤ o.length → (o.length : Int) - i = d → y.length ≤ i →
    Ev (fun k => spec_l11helpers.l0 k n o y i l a s c x e) (((shufF (y ++ ((o.drop i.toNat).filter fun z => !(z == x))) s).1.take n.toNat), l, a, (shufF (y ++ ((o.drop i.toNat).filter fun z => !(z == x))) s).2, c, x, e) := by
  induction d with
  | zero =>
    intro i y h0 h1 hd hy
    have hge : ¬ i < (o.length : Int) := by omega
    have hz : o.drop i.toNat = [] := List.drop_eq_nil_of_le (by omega)
    refine evPos ?_
    simp only [spec_l11helpers.l0, if_neg hge, hz, List.filter_nil, List.append_nil]
    have hl := shufF_length y s
    refine Ev.bind (specl11shuffle_ev y s (by omega)) ?_
    by_cases g : ((shufF y s).1.length : Int) > n
    · have g2 : n ≤ ((shufF y s).1.length : Int) := by omega
      simp only [if_pos g, if_pos n0, if_pos g2]
      exact Ev.now _
    · simp only [if_neg g]
      have : (shufF y s).1.take n.toNat = (shufF y s).1 := List.take_of_length_le (by omega)
      rw [this]
      exact Ev.now _
  | succ d ih =>
    intro i y h0 h1 hd hy
    have hlt : i < (o.length : Int) := by omega
    have hw : wrap64 (i + 1) = i + 1 := wrap_up h0 hlt (by omega)
    have hdr : o.drop i.toNat = o[i.toNat]'(by omega) :: o.drop (i + 1).toNat := by
      rw [List.drop_eq_getElem_cons (by omega)]
      congr 2; omega
    refine evPos ?_
    simp only [spec_l11helpers.l0, if_pos hlt, if_pos h0, hw, rd_lt h0 hlt]
    rw [hdr, List.filter_cons]
    by_cases g : o[i.toNat]'(by omega) = x
    · have g' : (o[i.toNat]'(by omega) == x) = true := beq_iff_eq.mpr g
      simp only [if_pos g, g', Bool.not_true, Bool.false_eq_true, if_false]
      exact ih (i + 1) y (by omega) (by omega) (by omega) (by omega)
    · have g' : (o[i.toNat]'(by omega) == x) = false := beq_eq_false_iff_ne.mpr g
      have gl : y.length < 17592186044416 := by omega
      simp only [if_neg g, g', Bool.not_false, if_true, if_pos gl]
      have := ih (i + 1) (y ++ [o[i.toNat]'(by omega)]) (by omega) (by omega) (by omega) (by simp; omega)
      simpa only [List.append_assoc, List.singleton_append] using this
theorem helpers_ev (l : List Int) (a b c d e : Int) (s : Int) (m : List MT) (n : Int) (n0 : 0 ≤ n) (n1 : n ≤ 3) (hm : m.length ≤ 1048576) (hT : TabP s m) (hP : probB l a b c d e = true) :
    ∃ R : List Int × List Int × Int × Int × Int × Int × Int, R.1.length ≤ 12 ∧ R.2.1.length ≤ 12 ∧ Ev (fun k => spec_l11helpers.f k l a b c d e s m n) R ∧ Ev (fun k => impl_Prober_helpers.f k l a b c d e s m n) R := by
  obtain ⟨o, ho, hp, e1, e2⟩ := others_ev s d m hm hT
  have h12 : l.length ≤ 12 := by
    have := hP
    simp only [probB, Bool.and_eq_true] at this
    exact fine_length this.1
  have hz : 0 ≤ b ∧ b ≤ 2147483647 := by
    simp only [probB, tailB, Bool.and_eq_true, decide_eq_true_eq] at hP
    omega
  have hf : (o.filter fun y => !(y == d)).length ≤ 12 := Nat.le_trans (List.length_filter_le _ _) ho
  have hl := shufF_length (o.filter fun y => !(y == d)) b
  refine ⟨((shufF (o.filter fun y => !(y == d)) b).1.take n.toNat, l, a, (shufF (o.filter fun y => !(y == d)) b).2, c, d, e), by simp only [List.length_take]; omega, h12, Ev.bind e1 ?_, Ev.bind e2 ?_⟩
  · have := helpers_loop d n o ho l a b c e n0 o.length 0 [] (by omega) (by omega) (by omega) (by simp)
    simpa using this
  · have sh := implShuffle_ev (o.filter fun y => !(y == d)) b
    rw [if_pos ⟨hf, hz.1, hz.2⟩] at sh
    refine Ev.bind sh ?_
    generalize shufF (o.filter fun y => !(y == d)) b = Z at *
    by_cases g : n ≤ (Z.1.length : Int)
    · have hm : mn n (Z.1.length : Int) = n := by unfold mn; exact if_neg (by omega)
      simp only [hm, if_pos n0, if_pos g]
      exact Ev.now _
    · have hm : mn n (Z.1.length : Int) = (Z.1.length : Int) := by unfold mn; exact if_pos (by omega)
      have g0 : (0 : Int) ≤ (Z.1.length : Int) := by omega
      have g1 : (Z.1.length : Int) ≤ (Z.1.length : Int) := by omega
      simp only [hm, if_pos g0, if_pos g1]
      have t1 : Z.1.take n.toNat = Z.1 := List.take_of_length_le (by omega)
      have t2 : Z.1.take (Z.1.length : Int).toNat = Z.1 := List.take_of_length_le (by omega)
      rw [t1, t2]
      exact Ev.now _
theorem both_ev (l : List Int) (a b c d e : Int) (s : Int) (m : List MT) (n : Int) (hl : l.length ≤ 9223372036854775807) (hm : m.length ≤ 1048576) :
    ∃ R : List Int × Int × Int × Int × Int × Int × List Int, R.1.length ≤ 12 ∧ R.2.2.2.2.2.2.length ≤ 12 ∧ Ev (fun k => spec_Helpers.f k l a b c d e s m n) R ∧ Ev (fun k => impl_Helpers.f k l a b c d e s m n) R := by
  have p1 := specProberOk_ev l a b c d e hl
  have p2 := implProberOk_ev l a b c d e hl
  obtain ⟨t, t1, t2, ht⟩ := tableOk_ev s m hm
  unfold spec_Helpers.f impl_Helpers.f
  simp only [within_eq, Option.bind_some]
  have j1 : Ev (fun k => spec_Helpers.j0 k n true l a b c d e s m) (([] : List Int), 0, 0, 0, 0, 0, ([] : List Int)) := by
    refine evPos ?_
    simp only [spec_Helpers.j0, if_true]; exact Ev.now _
  have j2 : Ev (fun k => impl_Helpers.j0 k n true l a b c d e s m) (([] : List Int), 0, 0, 0, 0, 0, ([] : List Int)) := by
    refine evPos ?_
    simp only [impl_Helpers.j0, if_true]; exact Ev.now _
  cases hP : probB l a b c d e with
  | false =>
    rw [hP] at p1 p2
    refine ⟨(([] : List Int), 0, 0, 0, 0, 0, ([] : List Int)), by simp, by simp, Ev.bind p1 ?_, Ev.bind p2 ?_⟩
    · simp only [Bool.false_eq_true, if_false]; exact j1
    · simp only [Bool.false_eq_true, if_false]; exact j2
  | true =>
    rw [hP] at p1 p2
    cases t with
    | false =>
      refine ⟨(([] : List Int), 0, 0, 0, 0, 0, ([] : List Int)), by simp, by simp, Ev.bind p1 ?_, Ev.bind p2 ?_⟩
      · simp only [if_true]
        refine Ev.bind t1 ?_
        simp only [Bool.false_eq_true, if_false]; exact j1
      · simp only [if_true]
        refine Ev.bind t2 ?_
        simp only [Bool.false_eq_true, if_false]; exact j2
    | true =>
      by_cases n0 : n < 0
      · refine ⟨(([] : List Int), 0, 0, 0, 0, 0, ([] : List Int)), by simp, by simp, Ev.bind p1 ?_, Ev.bind p2 ?_⟩
        · simp only [if_true]
          refine Ev.bind t1 ?_
          simp only [if_true, if_pos n0]; exact j1
        · simp only [if_true]
          refine Ev.bind t2 ?_
          have : (decide ((0 : Int) ≤ n) && decide (n ≤ 3)) = false := by
            rw [decide_eq_false (by omega : ¬ (0 : Int) ≤ n)]; rfl
          simp only [if_true, this, Bool.not_false]; exact j2
      · by_cases n1 : n > 3
        · refine ⟨(([] : List Int), 0, 0, 0, 0, 0, ([] : List Int)), by simp, by simp, Ev.bind p1 ?_, Ev.bind p2 ?_⟩
          · simp only [if_true]
            refine Ev.bind t1 ?_
            have : decide (n > 3) = true := decide_eq_true n1
            simp only [if_true, if_neg n0, this]; exact j1
          · simp only [if_true]
            refine Ev.bind t2 ?_
            have : (decide ((0 : Int) ≤ n) && decide (n ≤ 3)) = false := by
              rw [decide_eq_false (by omega : ¬ n ≤ 3)]; simp
            simp only [if_true, this, Bool.not_false]; exact j2
        · obtain ⟨R, hR, hR2, q1, q2⟩ := helpers_ev l a b c d e s m n (by omega) (by omega) hm (ht.mp rfl) hP
          have h12 : l.length ≤ 12 := by
            simp only [probB, Bool.and_eq_true] at hP
            exact fine_length hP.1
          refine ⟨(R.2.1, R.2.2.1, R.2.2.2.1, R.2.2.2.2.1, R.2.2.2.2.2.1, R.2.2.2.2.2.2, R.1), hR2, hR, Ev.bind p1 ?_, Ev.bind p2 ?_⟩
          · simp only [if_true]
            refine Ev.bind t1 ?_
            have : decide (n > 3) = false := decide_eq_false n1
            simp only [if_true, if_neg n0, this]
            refine evPos ?_
            simp only [spec_Helpers.j0, Bool.false_eq_true, if_false, specOwnP_eq l a b c d e (by omega), Option.bind_some]
            refine Ev.bind q1 ?_
            have hz : ([] : List Int).length + R.1.length < 17592186044416 := by simp only [List.length_nil]; omega
            simp only [if_pos hz, List.nil_append]
            exact Ev.now _
          · simp only [if_true]
            refine Ev.bind t2 ?_
            have : (decide ((0 : Int) ≤ n) && decide (n ≤ 3)) = true := by
              rw [decide_eq_true (by omega : (0 : Int) ≤ n), decide_eq_true (by omega : n ≤ 3)]; rfl
            simp only [if_true, this, Bool.not_true]
            refine evPos ?_
            simp only [impl_Helpers.j0, Bool.false_eq_true, if_false, implOwnP_eq l a b c d e (by omega), Option.bind_some]
            exact Ev.bind q2 (Ev.now _)
theorem FnExactHelpers : AFnExactHelpers.Stmt := by
  intro l a b c d e s m n hl _ _ _ _ _ _ _ hm _
  intros
  suffices h : Ev (fun k => laws_FnExactHelpers.f k l a b c d e s m n) true from h.rounds
  unfold laws_FnExactHelpers.f
  rw [szProber_eq l a b c d e 1048576 hl (by omega) (by omega)]
  simp only [Option.bind_some]
  by_cases h : (l.length : Int) ≤ 1048576
  · have h2 : ¬ ((1048576 : Int) - l.length < 0) := by omega
    simp only [if_pos h, if_neg h2]
    rw [szTable_at s (1048576 - l.length) m hm (by omega) (by omega)]
    simp only [Option.bind_some]
    by_cases h3 : (m.length : Int) ≤ 1048576 - l.length
    · have h4 : ¬ ((1048576 : Int) - l.length - m.length < 0) := by omega
      simp only [if_pos h3, if_neg h4]
      have tP := toProber_ev l a b c d e (by omega)
      have tT := toTable_ev s m (by omega)
      obtain ⟨⟨R0, R1, R2, R3, R4, R5, R6⟩, hR, hR6, hs, hi⟩ := both_ev l a b c d e s (m.map cvM) n (by omega) (by simp; omega)
      simp only at hR hR6
      have e' := eqProber_ev R0 R1 R2 R3 R4 R5 (by omega)
      have e6 := eqIntS_ev R6 (by omega)
      refine Ev.bind tP ?_
      refine Ev.bind tT ?_
      refine Ev.bind hs ?_
      refine Ev.bind tP ?_
      refine Ev.bind tT ?_
      refine Ev.bind hi ?_
      refine Ev.bind e' ?_
      simp only [if_true]
      refine Ev.bind e6 ?_
      simp only [Bool.not_true]
      refine evPos ?_
      simp only [laws_FnExactHelpers.j0, Bool.false_eq_true, if_false]
      refine Ev.bind tP ?_
      refine Ev.bind (eqProber_ev l a b c d e (by omega)) ?_
      simp only [if_true]
      refine Ev.bind tT ?_
      refine Ev.bind (eqTable_ev s (m.map cvM) (by simp; omega)) ?_
      simp only [if_true]
      refine Ev.bind (markProber_ev l a b c d e 1 (by omega) (by omega)) ?_
      refine Ev.bind (markTab_ev s (m.map cvM) (1 + l.length) (by omega) (by simp; omega)) ?_
      have c1 : ¬ ((1 : Int) + l.length + 3 * ((m.map cvM).length : Int) < 0) := by omega
      simp only [if_neg c1]
      refine Ev.bind e' ?_
      simp only [if_true]
      refine Ev.bind e6 ?_
      simp only [Bool.not_true]
      refine evPos ?_
      simp only [laws_FnExactHelpers.j1, Bool.false_eq_true, if_false]
      refine Ev.bind (markProber_ev R0 R1 R2 R3 R4 R5 1 (by omega) (by omega)) ?_
      refine Ev.bind (markIntS_ev R6 (1 + R0.length) (by omega) (by omega)) ?_
      refine Ev.bind (heldProber_ev R0.length R1 R2 R3 R4 R5 1 (by omega) (by omega)) ?_
      have c2 : ¬ ((1 : Int) + R0.length < 0) := by omega
      simp only [if_neg c2]
      refine Ev.bind (heldIntS_ev (1 + R0.length) R6.length (by omega) (by omega)) ?_
      have c3 : ¬ ((1 : Int) + R0.length + R6.length < 0) := by omega
      simp only [if_neg c3, if_true]
      refine Ev.bind tP ?_
      refine Ev.bind tT ?_
      refine Ev.bind hi ?_
      refine Ev.bind e' ?_
      simp only [if_true]
      refine Ev.bind e6 ?_
      simp only [Bool.not_true]
      refine evPos ?_
      simp only [laws_FnExactHelpers.j2, Bool.false_eq_true, if_false]
      refine Ev.bind (heldProber_ev R0.length R1 R2 R3 R4 R5 1 (by omega) (by omega)) ?_
      simp only [if_neg c2]
      refine Ev.bind (heldIntS_ev (1 + R0.length) R6.length (by omega) (by omega)) ?_
      simp only [if_neg c3, if_true]
      exact Ev.now _
    · simp only [if_neg h3]
      exact Ev.now _
  · simp only [if_neg h]
    exact Ev.now _

end Go.Proofs.Ytigoajblljolcaa.Pure
