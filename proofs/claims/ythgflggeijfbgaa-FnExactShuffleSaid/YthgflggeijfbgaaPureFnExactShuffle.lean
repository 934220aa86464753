/- The program's Shuffle gives what the reference's Shuffle gives, for every argument; its result shares no memory with the argument or another result. No condition. -/
import Derived.Test.YthgflggeijfbgaaArgsFnExactShuffle
namespace Go.Proofs.Ythgflggeijfbgaa.Pure
open Go.RowKit Go.Proofs.Ythgflggeijfbgaa.AFnExactShuffle Go.Proofs.Ythgflggeijfbgaa.XFnExactShuffle Go.Proofs.YthgflggeijfbgaaW.PrintWords Go.Proofs.YthgflggeijfbgaaW.PrintLast
set_option linter.unusedSimpArgs false
set_option linter.unusedVariables false
theorem wrap_up {i : Int} {n : Nat} (h0 : 0 ≤ i) (h : i < (n : Int)) (hn : n ≤ 9223372036854775807) : wrap64 (i + 1) = i + 1 := by
  unfold wrap64; omega
theorem evPos {α : Type} {g : Nat → Option α} {r : α} (h : Ev (fun k => g (k + 1)) r) : Ev g r := by
  obtain ⟨K, hK⟩ := h
  refine ⟨K + 1, fun k hk => ?_⟩
  obtain ⟨m, rfl⟩ : ∃ m, k = m + 1 := ⟨k - 1, by omega⟩
  exact hK m (by omega)
theorem evConst {α : Type} {a : Option α} {r : α} (h : a = some r) : Ev (fun _ => a) r := ⟨0, fun _ _ => h⟩
theorem evShift {α : Type} {g : Nat → Option α} {r : α} (h : Ev g r) : Ev (fun k => g (k + 1)) r := by
  obtain ⟨K, hK⟩ := h
  exact ⟨K, fun k hk => hK (k + 1) (by omega)⟩
theorem evVal {α : Type} {g : Nat → Option α} {r r' : α} (h : Ev g r) (e : r = r') : Ev g r' := e ▸ h
theorem rd_lt {l : List Int} {i : Int} (h0 : 0 ≤ i) (h : i < (l.length : Int)) : rd l i = l[i.toNat]'(by omega) := by
  unfold rd; rw [List.getD_eq_getElem?_getD, List.getElem?_eq_getElem (by omega)]; rfl
/-! toIntS, eqIntS: a copy is what it copies; two lists are equal. -/
theorem toIntS_loop (l : List Int) (hl : l.length ≤ 35184372088832) (d : Nat) : ∀ (x : List Int) (i : Int), 0 ≤ i → i ≤ l.length → (l.length : Int) - i = d → x.length = l.length → x.take i.toNat = l.take i.toNat →
    Ev (fun k => laws_toIntS.l0 k l x i) l := by
  induction d with
  | zero =>
    intro x i h0 h1 hd hx ht
    have hge : ¬ i < (l.length : Int) := by omega
    refine evPos ?_
    simp only [laws_toIntS.l0, if_neg hge]
    refine evConst ?_
    have e : i.toNat = l.length := by omega
    rw [e, List.take_length] at ht
    rw [← hx, List.take_length] at ht
    rw [ht]
  | succ d ih =>
    intro x i h0 h1 hd hx ht
    refine evPos ?_
    simp only [laws_toIntS.l0]
    have hlt : i < (l.length : Int) := by omega
    have hlt' : i < (x.length : Int) := by omega
    have hw : wrap64 (i + 1) = i + 1 := wrap_up h0 hlt (by omega)
    simp only [if_pos hlt, if_pos h0, if_pos hlt', hw]
    refine ih _ (i + 1) (by omega) (by omega) (by omega) (by simp [hx]) ?_
    have e : (i + 1).toNat = i.toNat + 1 := by omega
    have hi : i.toNat < l.length := by omega
    have hi' : i.toNat < x.length := by omega
    rw [e, List.take_succ_eq_append_getElem hi, List.take_succ_eq_append_getElem (by simpa using hi')]
    rw [List.take_set_of_le (Nat.le_refl _), ht, List.getElem_set_self, rd_lt h0 hlt]
theorem toIntS_ev (l : List Int) (hl : l.length ≤ 35184372088832) : Ev (fun k => laws_toIntS.f k l) l := by
  unfold laws_toIntS.f
  have h1 : 0 ≤ (l.length : Int) := by omega
  have h2 : ((l.length : Int)).toNat ≤ 35184372088832 := by omega
  simp only [if_pos h1, if_pos h2]
  exact toIntS_loop l hl l.length _ 0 (by omega) (by omega) (by omega) (by simp) (by simp)
theorem eqIntS_loop (l : List Int) (hl : l.length ≤ 35184372088832) (d : Nat) : ∀ (i : Int), 0 ≤ i → i ≤ l.length → (l.length : Int) - i = d → Ev (fun k => laws_eqIntS.l0 k l l i) true := by
  induction d with
  | zero =>
    intro i h0 h1 hd
    have hge : ¬ i < (l.length : Int) := by omega
    refine evPos ?_
    simp only [laws_eqIntS.l0, if_neg hge]
    exact Ev.now _
  | succ d ih =>
    intro i h0 h1 hd
    refine evPos ?_
    simp only [laws_eqIntS.l0]
    have hlt : i < (l.length : Int) := by omega
    have hw : wrap64 (i + 1) = i + 1 := wrap_up h0 hlt (by omega)
    simp only [if_pos hlt, if_pos h0, if_true, hw]
    exact ih (i + 1) (by omega) (by omega) (by omega)
theorem eqIntS_ev (l : List Int) (hl : l.length ≤ 35184372088832) : Ev (fun k => laws_eqIntS.f k l l) true := by
  unfold laws_eqIntS.f
  simp only [if_true]
  exact eqIntS_loop l hl l.length 0 (by omega) (by omega) (by omega)
/-! markIntS, heldIntS: what was marked is found so. -/
def marks (a : Int) (n : Nat) : List Int := (List.range n).map fun (i : Nat) => a + (i : Int)
theorem marks_length (a : Int) (n : Nat) : (marks a n).length = n := by simp [marks]
theorem marks_rd (a : Int) (n : Nat) {i : Int} (h0 : 0 ≤ i) (h : i < (n : Int)) : rd (marks a n) i = a + i := by
  rw [rd_lt h0 (by rw [marks_length]; exact h)]
  simp only [marks, List.getElem_map, List.getElem_range]
  omega
theorem markIntS_loop (n : Nat) (a : Int) (ha : 0 ≤ a) (hn : a + n ≤ 9223372036854775807) (d : Nat) : ∀ (x : List Int) (i : Int), 0 ≤ i → i ≤ n → (n : Int) - i = d → x.length = n → x.take i.toNat = (marks a n).take i.toNat →
    Ev (fun k => laws_markIntS.l0 k x (a + i) i) (a + n, marks a n) := by
  induction d with
  | zero =>
    intro x i h0 h1 hd hx ht
    have hge : ¬ i < (x.length : Int) := by omega
    refine evPos ?_
    simp only [laws_markIntS.l0, if_neg hge]
    refine evConst ?_
    have e : i.toNat = n := by omega
    have ei : i = n := by omega
    rw [e] at ht
    rw [List.take_of_length_le (by omega), List.take_of_length_le (by rw [marks_length]; omega)] at ht
    rw [ht, ei]
  | succ d ih =>
    intro x i h0 h1 hd hx ht
    refine evPos ?_
    have hlt : i < (x.length : Int) := by omega
    have hw : wrap64 (i + 1) = i + 1 := by unfold wrap64; omega
    have hw2 : wrap64 (a + i + 1) = a + (i + 1) := by unfold wrap64; omega
    simp only [laws_markIntS.l0, if_pos hlt, if_pos h0, hw, hw2]
    refine ih _ (i + 1) (by omega) (by omega) (by omega) (by simp [hx]) ?_
    have e : (i + 1).toNat = i.toNat + 1 := by omega
    have hi : i.toNat < (marks a n).length := by rw [marks_length]; omega
    have hi' : i.toNat < x.length := by omega
    rw [e, List.take_succ_eq_append_getElem hi, List.take_succ_eq_append_getElem (by simpa using hi'), List.take_set_of_le (Nat.le_refl _), ht, List.getElem_set_self, ← rd_lt h0 (by rw [marks_length]; omega), marks_rd a n h0 (by omega)]
theorem markIntS_ev (l : List Int) (a : Int) (ha : 0 ≤ a) (hn : a + l.length ≤ 9223372036854775807) : Ev (fun k => laws_markIntS.f k l a) (a + l.length, marks a l.length) := by
  unfold laws_markIntS.f
  have := markIntS_loop l.length a ha hn l.length l 0 (by omega) (by omega) (by omega) rfl (by simp)
  simpa using this
theorem heldIntS_loop (n : Nat) (a : Int) (ha : 0 ≤ a) (hn : a + n ≤ 9223372036854775807) (d : Nat) : ∀ (i : Int), 0 ≤ i → i ≤ n → (n : Int) - i = d →
    Ev (fun k => laws_heldIntS.l0 k (marks a n) (a + i) i) (a + n) := by
  induction d with
  | zero =>
    intro i h0 h1 hd
    have hge : ¬ i < ((marks a n).length : Int) := by rw [marks_length]; omega
    refine evPos ?_
    simp only [laws_heldIntS.l0, if_neg hge]
    exact evConst (by congr 1; omega)
  | succ d ih =>
    intro i h0 h1 hd
    refine evPos ?_
    have hlt : i < ((marks a n).length : Int) := by rw [marks_length]; omega
    have hw : wrap64 (i + 1) = i + 1 := by unfold wrap64; omega
    have hw2 : wrap64 (a + i + 1) = a + (i + 1) := by unfold wrap64; omega
    have hr := marks_rd a n h0 (by omega)
    simp only [laws_heldIntS.l0, if_pos hlt, if_pos h0, hr, if_true, hw, hw2]
    exact ih (i + 1) (by omega) (by omega) (by omega)
theorem heldIntS_ev (a : Int) (n : Nat) (ha : 0 ≤ a) (hn : a + n ≤ 9223372036854775807) : Ev (fun k => laws_heldIntS.f k (marks a n) a) (a + n) := by
  unfold laws_heldIntS.f
  have := heldIntS_loop n a ha hn n 0 (by omega) (by omega) (by omega)
  simpa using this
theorem within_eq (a b c : Int) : impl_within.f a b c = some (decide (b ≤ a) && decide (a ≤ c)) := by
  unfold impl_within.f
  by_cases h : b ≤ a <;> simp [h]
/-! Mix and Shuffle: what the program makes and what the reference makes is one. -/
def mixF (s : Int) : Int := if 0 ≤ s then if s ≤ 2147483647 then (16807 * s + 11) % 2147483647 else 0 else 0
theorem mixF_range (s : Int) : 0 ≤ mixF s ∧ mixF s ≤ 2147483647 := by unfold mixF; split <;> (try split) <;> omega
theorem isSeed_eq (s : Int) : impl_isSeed.f s = some (decide (0 ≤ s) && decide (s ≤ 2147483647)) := by
  unfold impl_isSeed.f; rw [within_eq]; rfl
theorem wrap_mix {s : Int} (h0 : 0 ≤ s) (h1 : s ≤ 2147483647) : Int.tmod (wrap64 (wrap64 (16807 * s) + 11)) 2147483647 = (16807 * s + 11) % 2147483647 := by
  have e1 : wrap64 (16807 * s) = 16807 * s := by unfold wrap64; omega
  have e2 : wrap64 (16807 * s + 11) = 16807 * s + 11 := by unfold wrap64; omega
  rw [e1, e2, Int.tmod_eq_emod_of_nonneg (by omega)]
theorem implMix_eq (s : Int) : impl_Mix.f s = some (mixF s) := by
  unfold impl_Mix.f mixF
  rw [isSeed_eq]
  simp only [Option.bind_some]
  by_cases h0 : 0 ≤ s
  · by_cases h1 : s ≤ 2147483647
    · simp only [h0, h1, decide_true, Bool.and_true, if_true, wrap_mix h0 h1]
    · simp [h0, h1]
  · simp [h0]
theorem specMix_eq (s : Int) : spec_Mix.f s = some (mixF s) := by
  unfold spec_Mix.f mixF
  by_cases h0 : s < 0
  · have : ¬ 0 ≤ s := by omega
    simp [h0, this]
  · by_cases h1 : s > 2147483647
    · have a : 0 ≤ s := by omega
      have b : ¬ s ≤ 2147483647 := by omega
      simp [h0, h1, a, b]
    · have a : 0 ≤ s := by omega
      have b : s ≤ 2147483647 := by omega
      simp only [if_neg h0, if_neg h1, if_pos a, if_pos b]
      rw [Int.mul_comm, wrap_mix a b]
def shufAux : Nat → Int → List Int → List Int × Int
  | 0, s, x => (x, s)
  | d + 1, s, x => shufAux d (mixF s) ((x.set (d + 1) (rd x (mixF s % ((d : Int) + 2)))).set (mixF s % ((d : Int) + 2)).toNat (rd x ((d : Int) + 1)))
def shufF (l : List Int) (s : Int) : List Int × Int := shufAux (l.length - 1) s l
theorem shufAux_length (d : Nat) : ∀ (s : Int) (x : List Int), (shufAux d s x).1.length = x.length := by
  induction d with
  | zero => intro s x; rfl
  | succ d ih => intro s x; simp only [shufAux]; rw [ih]; simp
theorem shufF_length (l : List Int) (s : Int) : (shufF l s).1.length = l.length := shufAux_length _ _ _
theorem implShuffle_loop (n : Nat) (hn : n ≤ 12) (d : Nat) : ∀ (s : Int) (x : List Int), d < n → x.length = n →
    Ev (fun k => impl_Shuffle.l0 k s x (d : Int)) (shufAux d s x) := by
  induction d with
  | zero =>
    intro s x _ _
    refine evPos ?_
    have h : ¬ ((0 : Nat) : Int) > 0 := by omega
    simp only [impl_Shuffle.l0, if_neg h]
    exact Ev.now _
  | succ d ih =>
    intro s x hd hx
    refine evPos ?_
    have h : (((d + 1 : Nat) : Int)) > 0 := by omega
    have w1 : wrap64 (((d + 1 : Nat) : Int) + 1) = (d : Int) + 2 := by unfold wrap64; omega
    have w2 : wrap64 (((d + 1 : Nat) : Int) - 1) = (d : Int) := by unfold wrap64; omega
    obtain ⟨m0, m1⟩ := mixF_range s
    have t1 : Int.tmod (mixF s) ((d : Int) + 2) = mixF s % ((d : Int) + 2) := Int.tmod_eq_emod_of_nonneg m0
    have q0 : 0 ≤ mixF s % ((d : Int) + 2) := Int.emod_nonneg _ (by omega)
    have q1 : mixF s % ((d : Int) + 2) < (d : Int) + 2 := Int.emod_lt_of_pos _ (by omega)
    have g1 : ¬ ((d : Int) + 2 = 0) := by omega
    have g2 : mixF s % ((d : Int) + 2) < (x.length : Int) := by omega
    have g3 : 0 ≤ ((d + 1 : Nat) : Int) := by omega
    have g4 : ((d + 1 : Nat) : Int) < (x.length : Int) := by omega
    have e1 : (((d + 1 : Nat) : Int)).toNat = d + 1 := by omega
    have e2 : ((d + 1 : Nat) : Int) = (d : Int) + 1 := by omega
    simp only [impl_Shuffle.l0, if_pos h, implMix_eq, Option.bind_some, w1, w2, t1, if_neg g1, if_pos q0, if_pos g2, if_pos g3, if_pos g4, e1]
    rw [e2]
    exact ih _ _ (by omega) (by simp [hx])
theorem implShuffle_ev (l : List Int) (s : Int) : Ev (fun k => impl_Shuffle.f k l s) (if l.length ≤ 12 ∧ 0 ≤ s ∧ s ≤ 2147483647 then shufF l s else ([], 0)) := by
  unfold impl_Shuffle.f
  have jt : Ev (fun k => impl_Shuffle.j0 k l s true) (([] : List Int), 0) := by
    refine evPos ?_
    simp only [impl_Shuffle.j0, if_true]
    exact Ev.now _
  by_cases h : (l.length : Int) > 12
  · simp only [if_pos h]
    refine evVal jt ?_
    rw [if_neg (by omega)]
  · simp only [if_neg h, isSeed_eq, Option.bind_some]
    by_cases h2 : 0 ≤ s ∧ s ≤ 2147483647
    · obtain ⟨a, b⟩ := h2
      simp only [a, b, decide_true, Bool.and_true, Bool.not_true]
      rw [if_pos ⟨by omega, trivial, trivial⟩]
      refine evPos ?_
      have hlt : l.length < 17592186044416 := by omega
      simp only [impl_Shuffle.j0, Bool.false_eq_true, if_false, slices_Clone_int_int.f, if_pos hlt, Option.bind_some]
      by_cases z : l.length = 0
      · have w : wrap64 ((l.length : Int) - 1) = -1 := by unfold wrap64; omega
        refine evPos ?_
        have c : ¬ ((-1 : Int) > 0) := by omega
        simp only [w, impl_Shuffle.l0, if_neg c]
        refine evConst ?_
        unfold shufF
        rw [z]; rfl
      · have w : wrap64 ((l.length : Int) - 1) = ((l.length - 1 : Nat) : Int) := by unfold wrap64; omega
        simp only [w]
        exact implShuffle_loop l.length (by omega) (l.length - 1) s l (by omega) rfl
    · have e : (decide (0 ≤ s) && decide (s ≤ 2147483647)) = false := by
        rw [Bool.and_eq_false_iff]; simp only [decide_eq_false_iff_not]; omega
      simp only [e, Bool.not_false]
      refine evVal jt ?_
      rw [if_neg (by omega)]
theorem specShuffle_loop (n : Nat) (hn : n ≤ 12) (d : Nat) : ∀ (s : Int) (x : List Int), d < n → x.length = n →
    Ev (fun k => spec_l11shuffle.l0 k s x (d : Int)) (shufAux d s x) := by
  induction d with
  | zero =>
    intro s x _ _
    refine evPos ?_
    have h : ¬ ((0 : Nat) : Int) > 0 := by omega
    simp only [spec_l11shuffle.l0, if_neg h]
    exact Ev.now _
  | succ d ih =>
    intro s x hd hx
    refine evPos ?_
    have h : (((d + 1 : Nat) : Int)) > 0 := by omega
    have w1 : wrap64 (((d + 1 : Nat) : Int) + 1) = (d : Int) + 2 := by unfold wrap64; omega
    have w2 : wrap64 (((d + 1 : Nat) : Int) - 1) = (d : Int) := by unfold wrap64; omega
    obtain ⟨m0, m1⟩ := mixF_range s
    have t1 : Int.tmod (mixF s) ((d : Int) + 2) = mixF s % ((d : Int) + 2) := Int.tmod_eq_emod_of_nonneg m0
    have q0 : 0 ≤ mixF s % ((d : Int) + 2) := Int.emod_nonneg _ (by omega)
    have q1 : mixF s % ((d : Int) + 2) < (d : Int) + 2 := Int.emod_lt_of_pos _ (by omega)
    have g1 : ¬ ((d : Int) + 2 = 0) := by omega
    have g2 : mixF s % ((d : Int) + 2) < (x.length : Int) := by omega
    have g3 : 0 ≤ ((d + 1 : Nat) : Int) := by omega
    have g4 : ((d + 1 : Nat) : Int) < (x.length : Int) := by omega
    have e1 : (((d + 1 : Nat) : Int)).toNat = d + 1 := by omega
    have e2 : ((d + 1 : Nat) : Int) = (d : Int) + 1 := by omega
    simp only [spec_l11shuffle.l0, if_pos h, specMix_eq, Option.bind_some, w1, w2, t1, if_neg g1, if_pos q0, if_pos g2, if_pos g3, if_pos g4, e1]
    rw [e2]
    exact ih _ _ (by omega) (by simp [hx])
theorem specl11shuffle_ev (l : List Int) (s : Int) (hl : l.length ≤ 12) : Ev (fun k => spec_l11shuffle.f k l s) (shufF l s) := by
  unfold spec_l11shuffle.f
  have hlt : ([] : List Int).length + l.length < 17592186044416 := by simp; omega
  simp only [Option.bind_some, if_pos hlt, List.nil_append]
  by_cases z : l.length = 0
  · have w : wrap64 ((l.length : Int) - 1) = -1 := by unfold wrap64; omega
    refine evPos ?_
    have c : ¬ ((-1 : Int) > 0) := by omega
    simp only [w, spec_l11shuffle.l0, if_neg c]
    refine evConst ?_
    unfold shufF
    rw [z]; rfl
  · have w : wrap64 ((l.length : Int) - 1) = ((l.length - 1 : Nat) : Int) := by unfold wrap64; omega
    simp only [w]
    exact specShuffle_loop l.length (by omega) (l.length - 1) s l (by omega) rfl
theorem specShuffle_ev (l : List Int) (s : Int) : Ev (fun k => spec_Shuffle.f k l s) (if l.length ≤ 12 ∧ 0 ≤ s ∧ s ≤ 2147483647 then shufF l s else ([], 0)) := by
  unfold spec_Shuffle.f
  by_cases h : (l.length : Int) > 12
  · simp only [if_pos h]
    refine evConst ?_
    rw [if_neg (by omega)]
  · simp only [if_neg h]
    by_cases h1 : s < 0
    · simp only [if_pos h1]
      refine evConst ?_
      rw [if_neg (by omega)]
    · simp only [if_neg h1]
      by_cases h2 : s > 2147483647
      · simp only [if_pos h2]
        refine evConst ?_
        rw [if_neg (by omega)]
      · simp only [if_neg h2]
        rw [if_pos (by omega)]
        exact Ev.bind (specl11shuffle_ev l s (by omega)) (Ev.now _)
theorem FnExactShuffle : AFnExactShuffle.Stmt := by
  intro l s hl _ _
  suffices h : Ev (fun k => laws_FnExactShuffle.f k l s) true from h.rounds
  unfold laws_FnExactShuffle.f
  by_cases h : (l.length : Int) > 1048576
  · simp only [if_pos h]; exact Ev.now _
  · simp only [if_neg h]
    have hl' : l.length ≤ 35184372088832 := by omega
    obtain ⟨R, hR⟩ : ∃ R, R = (if l.length ≤ 12 ∧ 0 ≤ s ∧ s ≤ 2147483647 then shufF l s else (([] : List Int), 0)) := ⟨_, rfl⟩
    have hs := specShuffle_ev l s
    have hi := implShuffle_ev l s
    rw [← hR] at hs hi
    have hRl : R.1.length ≤ 12 := by
      rw [hR]; split
      · rename_i c; rw [shufF_length]; exact c.1
      · simp
    have t := toIntS_ev l hl'
    refine Ev.bind t ?_
    refine Ev.bind hs ?_
    refine Ev.bind t ?_
    refine Ev.bind hi ?_
    have e : Ev (fun k => laws_eqIntS.f k R.1 R.1) true := eqIntS_ev R.1 (by omega)
    refine Ev.bind e ?_
    simp only [if_true, bne_self_eq_false]
    refine evPos ?_
    simp only [laws_FnExactShuffle.j0, Bool.false_eq_true, if_false]
    refine Ev.bind t ?_
    refine Ev.bind (eqIntS_ev l hl') ?_
    simp only [if_true]
    refine Ev.bind (markIntS_ev l 1 (by omega) (by omega)) ?_
    have c1 : ¬ ((1 : Int) + l.length < 0) := by omega
    simp only [if_neg c1]
    refine Ev.bind e ?_
    simp only [if_true, bne_self_eq_false]
    refine evPos ?_
    simp only [laws_FnExactShuffle.j1, Bool.false_eq_true, if_false]
    refine Ev.bind (markIntS_ev R.1 1 (by omega) (by omega)) ?_
    refine Ev.bind (heldIntS_ev 1 R.1.length (by omega) (by omega)) ?_
    have c2 : ¬ ((1 : Int) + R.1.length < 0) := by omega
    simp only [if_neg c2, if_true]
    refine Ev.bind t ?_
    refine Ev.bind hi ?_
    refine Ev.bind e ?_
    simp only [if_true, bne_self_eq_false]
    refine evPos ?_
    simp only [laws_FnExactShuffle.j2, Bool.false_eq_true, if_false]
    refine Ev.bind (heldIntS_ev 1 R.1.length (by omega) (by omega)) ?_
    simp only [if_neg c2, if_true]
    exact Ev.now _

end Go.Proofs.Ythgflggeijfbgaa.Pure
