/- In a round of a new prober every other live member is probed once: FnRounds is true of every input. No condition. -/
import Derived.Test.YtpoedoefbeabkaaXFnRoundsx
namespace Go.Proofs.Ytpoedoefbeabkaa.Pure
open Go.RowKit Go.Proofs.Ytpoedoefbeabkaa.XFnRounds Go.Proofs.YtpoedoefbeabkaaW.PrintWords Go.Proofs.YtpoedoefbeabkaaW.PrintLast
set_option linter.unusedSimpArgs false
set_option linter.unusedVariables false
theorem wrap_up {i : Int} {n : Nat} (h0 : 0 ≤ i) (h : i < (n : Int)) (hn : n ≤ 9223372036854775807) : wrap64 (i + 1) = i + 1 := by
 unfold wrap64; omega
theorem evPos {α : Type} {g : Nat → Option α} {r : α} (h : Ev (fun k => g (k + 1)) r) : Ev g r := by
 obtain ⟨K, hK⟩ := h
 refine ⟨K + 1, fun k hk => ?_⟩
 obtain ⟨m, rfl⟩ : ∃ m, k = m + 1 := ⟨k - 1, by omega⟩
 exact hK m (by omega)
theorem evConst {α : Type} {a : Option α} {r : α} (h : a = some r) : Ev (fun _ => a) r := ⟨0, fun _ _ => h⟩
theorem evVal {α : Type} {g : Nat → Option α} {r r' : α} (h : Ev g r) (e : r = r') : Ev g r' := e ▸ h
theorem rd_lt {l : List Int} {i : Int} (h0 : 0 ≤ i) (h : i < (l.length : Int)) : rd l i = l[i.toNat]'(by omega) := by
 unfold rd; rw [List.getD_eq_getElem?_getD, List.getElem?_eq_getElem (by omega)]; rfl
theorem and255 (n : Int) : 0 ≤ Go.bits .and .i64 n 255 ∧ Go.bits .and .i64 n 255 ≤ 255 := by
 have h255 : (BitVec.ofInt 64 255).toNat = 2 ^ 8 - 1 := by decide
 have key : (BitVec.ofInt 64 n &&& BitVec.ofInt 64 255).toNat = (n % ((2 ^ 64 : Nat) : Int)).toNat % 2 ^ 8 := by
  rw [BitVec.toNat_and, BitVec.toNat_ofInt, h255, Nat.and_two_pow_sub_one_eq_mod]
 have e : Go.bits .and .i64 n 255 = n % 256 := by
  show IntKind.i64.wrap ((BitVec.ofInt 64 n &&& BitVec.ofInt 64 255).toNat : Nat) = n % 256
  rw [key, IntKind.wrap_i64]
  omega
 rw [e]; omega

/-- A place in the bytes: one that they have, or the first behind them. -/
def Ok (b : List Int) (i : Int) : Prop := 0 ≤ i ∧ i ≤ b.length

theorem byte_some (b : List Int) (i h : Int) (hb : b.length ≤ 140737488355328) (hi : Ok b i) :
  ∃ x i' h', spec_l1Byte.f b i h = some (x, i', h') ∧ 0 ≤ x ∧ x ≤ 255 ∧ Ok b i' := by
 obtain ⟨h0, h1⟩ := hi
 unfold spec_l1Byte.f
 by_cases c : i < (b.length : Int)
 ·rw [if_pos c, if_pos h0]
  exact ⟨_, _, _, rfl, (and255 _).1, (and255 _).2, by rw [wrap_up h0 c (by omega)]; exact ⟨by omega, by omega⟩⟩
 ·rw [if_neg c]
  exact ⟨_, _, _, rfl, (and255 _).1, (and255 _).2, h0, h1⟩

theorem below_some (b : List Int) (i h n : Int) (hb : b.length ≤ 140737488355328) (hi : Ok b i) (hn0 : 0 < n) (hn : n ≤ 256) :
  ∃ x i' h', spec_l1Below.f b i h n = some (x, i', h') ∧ 0 ≤ x ∧ x < n ∧ Ok b i' := by
 obtain ⟨x, i', h', e, x0, x1, hi'⟩ := byte_some b i h hb hi
 unfold spec_l1Below.f
 rw [if_neg (by omega), if_pos hn, e]
 simp only [Option.bind_some]
 rw [if_neg (by omega)]
 refine ⟨_, _, _, rfl, ?_, ?_, hi'⟩
 ·rw [Int.tmod_eq_emod_of_nonneg x0]; exact Int.emod_nonneg _ (by omega)
 ·rw [Int.tmod_eq_emod_of_nonneg x0]; exact Int.emod_lt_of_pos _ hn0

theorem once_some (b : List Int) (i h n : Int) (hb : b.length ≤ 140737488355328) (hi : Ok b i) (hn0 : 0 < n) (hn : n ≤ 256) :
  ∃ x i' h', spec_l1Once.f b i h n = some (x, i', h') ∧ Ok b i' := by
 obtain ⟨x, i', h', e, _, _, hi'⟩ := below_some b i h n hb hi hn0 hn
 unfold spec_l1Once.f
 rw [e]
 exact ⟨_, _, _, rfl, hi'⟩

theorem pick_some (b : List Int) (i h : Int) (l : List Int) (hb : b.length ≤ 140737488355328) (hi : Ok b i) (hn0 : 0 < l.length) (hn : l.length ≤ 256) :
  ∃ x i' h', spec_l1PickInt.f b i h l = some (x, i', h') ∧ Ok b i' := by
 obtain ⟨x, i', h', e, x0, x1, hi'⟩ := below_some b i h l.length hb hi (by omega) (by omega)
 unfold spec_l1PickInt.f
 rw [e]
 simp only [Option.bind_some]
 rw [if_pos x0, if_pos x1]
 exact ⟨_, _, _, rfl, hi'⟩

theorem new_some (b : List Int) (hb : b.length ≤ 140737488355328) (d : Nat) :
  ∀ (k : Nat) (h i : Int), 0 ≤ i → i ≤ b.length → (b.length : Int) - i = d → d < k → ∃ h', spec_l1New.l0 k b h i = some (b, 0, h') := by
 induction d with
 | zero =>
  intro k h i h0 h1 hd hk
  obtain ⟨k, rfl⟩ : ∃ m, k = m + 1 := ⟨k - 1, by omega⟩
  exact ⟨h, by simp only [spec_l1New.l0]; rw [if_neg (by omega)]⟩
 | succ d ih =>
  intro k h i h0 h1 hd hk
  obtain ⟨k, rfl⟩ : ∃ m, k = m + 1 := ⟨k - 1, by omega⟩
  have hlt : i < (b.length : Int) := by omega
  simp only [spec_l1New.l0]
  rw [if_pos hlt]
  by_cases c : i < 4000
  ·rw [if_pos c, if_pos h0, wrap_up h0 hlt (by omega)]
   exact ih k _ (i + 1) (by omega) (by omega) (by omega) (by omega)
  ·rw [if_neg c]
   exact ⟨h, rfl⟩

theorem within_eq (a b c : Int) : impl_within.f a b c = some (decide (b ≤ a) && decide (a ≤ c)) := by
 unfold impl_within.f
 by_cases h : b ≤ a <;> simp [h]
theorem isSeed_eq (s : Int) : impl_isSeed.f s = some (decide (0 ≤ s) && decide (s ≤ 2147483647)) := by
 unfold impl_isSeed.f; rw [within_eq]; rfl
def mixF (s : Int) : Int := if 0 ≤ s then if s ≤ 2147483647 then (16807 * s + 11) % 2147483647 else 0 else 0
theorem mixF_range (s : Int) : 0 ≤ mixF s ∧ mixF s ≤ 2147483647 := by unfold mixF; split <;> (try split) <;> omega
theorem wrap_mix {s : Int} (h0 : 0 ≤ s) (h1 : s ≤ 2147483647) : Int.tmod (wrap64 (wrap64 (16807 * s) + 11)) 2147483647 = (16807 * s + 11) % 2147483647 := by
 have e1 : wrap64 (16807 * s) = 16807 * s := by unfold wrap64; omega
 have e2 : wrap64 (16807 * s + 11) = 16807 * s + 11 := by unfold wrap64; omega
 rw [e1, e2, Int.tmod_eq_emod_of_nonneg (by omega)]
theorem implMix_eq (s : Int) : impl_Mix.f s = some (mixF s) := by
 unfold impl_Mix.f mixF
 rw [isSeed_eq]
 simp only [Option.bind_some]
 by_cases h0 : 0 ≤ s
 ·by_cases h1 : s ≤ 2147483647
  ·simp only [h0, h1, decide_true, Bool.and_true, if_true, wrap_mix h0 h1]
  ·simp [h0, h1]
 ·simp [h0]
theorem specMix_eq (s : Int) : spec_Mix.f s = some (mixF s) := by
 unfold spec_Mix.f mixF
 by_cases h0 : s < 0
 ·have : ¬ 0 ≤ s := by omega
  simp [h0, this]
 ·by_cases h1 : s > 2147483647
  ·have a : 0 ≤ s := by omega
   have b : ¬ s ≤ 2147483647 := by omega
   simp [h0, h1, a, b]
  ·have a : 0 ≤ s := by omega
   have b : s ≤ 2147483647 := by omega
   simp only [if_neg h0, if_neg h1, if_pos a, if_pos b]
   rw [Int.mul_comm, wrap_mix a b]
def shufAux : Nat → Int → List Int → List Int × Int
  | 0, s, x => (x, s)
  | d + 1, s, x => shufAux d (mixF s) ((x.set (d + 1) (rd x (mixF s % ((d : Int) + 2)))).set (mixF s % ((d : Int) + 2)).toNat (rd x ((d : Int) + 1)))
def shufF (l : List Int) (s : Int) : List Int × Int := shufAux (l.length - 1) s l
theorem shufAux_length (d : Nat) : ∀ (s : Int) (x : List Int), (shufAux d s x).1.length = x.length := by
 induction d with
 | zero => intro s x; rfl
 | succ d ih => intro s x; simp only [shufAux]; rw [ih]; simp
theorem shufF_length (l : List Int) (s : Int) : (shufF l s).1.length = l.length := shufAux_length _ _ _
theorem shufAux_perm (d : Nat) : ∀ (s : Int) (x : List Int), d < x.length ∨ x.length = 0 ∧ d = 0 → (shufAux d s x).1.Perm x := by
 induction d with
 | zero => intro s x _; exact List.Perm.refl _
 | succ d ih =>
  intro s x h
  have hd : d + 1 < x.length := by omega
  simp only [shufAux]
  have m0 : 0 ≤ mixF s % ((d : Int) + 2) := Int.emod_nonneg _ (by omega)
  have m1 : mixF s % ((d : Int) + 2) < (d : Int) + 2 := Int.emod_lt_of_pos _ (by omega)
  refine (ih _ _ (by left; simp; omega)).trans ?_
  rw [rd_lt m0 (by omega), rd_lt (show 0 ≤ (d : Int) + 1 by omega) (by omega)]
  have e : ((d : Int) + 1).toNat = d + 1 := by omega
  simp only [e]
  exact List.set_set_perm hd (by omega)
theorem shufF_perm (l : List Int) (s : Int) : (shufF l s).1.Perm l := by
 unfold shufF
 refine shufAux_perm _ _ _ ?_
 omega
theorem shufAux_seed (d : Nat) : ∀ (s : Int) (x : List Int), 0 ≤ s → s ≤ 2147483647 → 0 ≤ (shufAux d s x).2 ∧ (shufAux d s x).2 ≤ 2147483647 := by
 induction d with
 | zero => intro s x h0 h1; exact ⟨h0, h1⟩
 | succ d ih => intro s x h0 h1; simp only [shufAux]; exact ih _ _ (mixF_range s).1 (mixF_range s).2
theorem shufF_seed (l : List Int) (s : Int) (h0 : 0 ≤ s) (h1 : s ≤ 2147483647) : 0 ≤ (shufF l s).2 ∧ (shufF l s).2 ≤ 2147483647 := shufAux_seed _ _ _ h0 h1
theorem implShuffle_loop (n : Nat) (hn : n ≤ 12) (d : Nat) : ∀ (s : Int) (x : List Int), d < n → x.length = n →
  Ev (fun k => impl_Shuffle.l0 k s x (d : Int)) (shufAux d s x) := by
 induction d with
 | zero =>
  intro s x _ _
  refine evPos ?_
  have h : ¬ ((0 : Nat) : Int) > 0 := by omega
  simp only [impl_Shuffle.l0, if_neg h]
  exact Ev.now _
 | succ d ih =>
  intro s x hd hx
  refine evPos ?_
  have h : (((d + 1 : Nat) : Int)) > 0 := by omega
  have w1 : wrap64 (((d + 1 : Nat) : Int) + 1) = (d : Int) + 2 := by unfold wrap64; omega
  have w2 : wrap64 (((d + 1 : Nat) : Int) - 1) = (d : Int) := by unfold wrap64; omega
  obtain ⟨m0, m1⟩ := mixF_range s
  have t1 : Int.tmod (mixF s) ((d : Int) + 2) = mixF s % ((d : Int) + 2) := Int.tmod_eq_emod_of_nonneg m0
  have q0 : 0 ≤ mixF s % ((d : Int) + 2) := Int.emod_nonneg _ (by omega)
  have q1 : mixF s % ((d : Int) + 2) < (d : Int) + 2 := Int.emod_lt_of_pos _ (by omega)
  have g1 : ¬ ((d : Int) + 2 = 0) := by omega
  have g2 : mixF s % ((d : Int) + 2) < (x.length : Int) := by omega
  have g3 : 0 ≤ ((d + 1 : Nat) : Int) := by omega
  have g4 : ((d + 1 : Nat) : Int) < (x.length : Int) := by omega
  have e1 : (((d + 1 : Nat) : Int)).toNat = d + 1 := by omega
  have e2 : ((d + 1 : Nat) : Int) = (d : Int) + 1 := by omega
  simp only [impl_Shuffle.l0, if_pos h, implMix_eq, Option.bind_some, w1, w2, t1, if_neg g1, if_pos q0, if_pos g2, if_pos g3, if_pos g4, e1]
  rw [e2]
  exact ih _ _ (by omega) (by simp [hx])
theorem implShuffle_ev (l : List Int) (s : Int) : Ev (fun k => impl_Shuffle.f k l s) (if l.length ≤ 12 ∧ 0 ≤ s ∧ s ≤ 2147483647 then shufF l s else ([], 0)) := by
 unfold impl_Shuffle.f
 have jt : Ev (fun k => impl_Shuffle.j0 k l s true) (([] : List Int), 0) := by
  refine evPos ?_
  simp only [impl_Shuffle.j0, if_true]
  exact Ev.now _
 by_cases h : (l.length : Int) > 12
 ·simp only [if_pos h]
  refine evVal jt ?_
  rw [if_neg (by omega)]
 ·simp only [if_neg h, isSeed_eq, Option.bind_some]
  by_cases h2 : 0 ≤ s ∧ s ≤ 2147483647
  ·obtain ⟨a, b⟩ := h2
   simp only [a, b, decide_true, Bool.and_true, Bool.not_true]
   rw [if_pos ⟨by omega, trivial, trivial⟩]
   refine evPos ?_
   have hlt : l.length < 17592186044416 := by omega
   simp only [impl_Shuffle.j0, Bool.false_eq_true, if_false, slices_Clone_int_int.f, if_pos hlt, Option.bind_some]
   by_cases z : l.length = 0
   ·have w : wrap64 ((l.length : Int) - 1) = -1 := by unfold wrap64; omega
    refine evPos ?_
    have c : ¬ ((-1 : Int) > 0) := by omega
    simp only [w, impl_Shuffle.l0, if_neg c]
    refine evConst ?_
    unfold shufF
    rw [z]; rfl
   ·have w : wrap64 ((l.length : Int) - 1) = ((l.length - 1 : Nat) : Int) := by unfold wrap64; omega
    simp only [w]
    exact implShuffle_loop l.length (by omega) (l.length - 1) s l (by omega) rfl
  ·have e : (decide (0 ≤ s) && decide (s ≤ 2147483647)) = false := by
    rw [Bool.and_eq_false_iff]; simp only [decide_eq_false_iff_not]; omega
   simp only [e, Bool.not_false]
   refine evVal jt ?_
   rw [if_neg (by omega)]
theorem specShuffle_loop (n : Nat) (hn : n ≤ 12) (d : Nat) : ∀ (s : Int) (x : List Int), d < n → x.length = n →
  Ev (fun k => spec_l11shuffle.l0 k s x (d : Int)) (shufAux d s x) := by
 induction d with
 | zero =>
  intro s x _ _
  refine evPos ?_
  have h : ¬ ((0 : Nat) : Int) > 0 := by omega
  simp only [spec_l11shuffle.l0, if_neg h]
  exact Ev.now _
 | succ d ih =>
  intro s x hd hx
  refine evPos ?_
  have h : (((d + 1 : Nat) : Int)) > 0 := by omega
  have w1 : wrap64 (((d + 1 : Nat) : Int) + 1) = (d : Int) + 2 := by unfold wrap64; omega
  have w2 : wrap64 (((d + 1 : Nat) : Int) - 1) = (d : Int) := by unfold wrap64; omega
  obtain ⟨m0, m1⟩ := mixF_range s
  have t1 : Int.tmod (mixF s) ((d : Int) + 2) = mixF s % ((d : Int) + 2) := Int.tmod_eq_emod_of_nonneg m0
  have q0 : 0 ≤ mixF s % ((d : Int) + 2) := Int.emod_nonneg _ (by omega)
  have q1 : mixF s % ((d : Int) + 2) < (d : Int) + 2 := Int.emod_lt_of_pos _ (by omega)
  have g1 : ¬ ((d : Int) + 2 = 0) := by omega
  have g2 : mixF s % ((d : Int) + 2) < (x.length : Int) := by omega
  have g3 : 0 ≤ ((d + 1 : Nat) : Int) := by omega
  have g4 : ((d + 1 : Nat) : Int) < (x.length : Int) := by omega
  have e1 : (((d + 1 : Nat) : Int)).toNat = d + 1 := by omega
  have e2 : ((d + 1 : Nat) : Int) = (d : Int) + 1 := by omega
  simp only [spec_l11shuffle.l0, if_pos h, specMix_eq, Option.bind_some, w1, w2, t1, if_neg g1, if_pos q0, if_pos g2, if_pos g3, if_pos g4, e1]
  rw [e2]
  exact ih _ _ (by omega) (by simp [hx])
theorem specl11shuffle_ev (l : List Int) (s : Int) (hl : l.length ≤ 12) : Ev (fun k => spec_l11shuffle.f k l s) (shufF l s) := by
 unfold spec_l11shuffle.f
 have hlt : ([] : List Int).length + l.length < 17592186044416 := by simp; omega
 simp only [Option.bind_some, if_pos hlt, List.nil_append]
 by_cases z : l.length = 0
 ·have w : wrap64 ((l.length : Int) - 1) = -1 := by unfold wrap64; omega
  refine evPos ?_
  have c : ¬ ((-1 : Int) > 0) := by omega
  simp only [w, spec_l11shuffle.l0, if_neg c]
  refine evConst ?_
  unfold shufF
  rw [z]; rfl
 ·have w : wrap64 ((l.length : Int) - 1) = ((l.length - 1 : Nat) : Int) := by unfold wrap64; omega
  simp only [w]
  exact specShuffle_loop l.length (by omega) (l.length - 1) s l (by omega) rfl
theorem Index_loop (l : List Int) (a : Int) (hl : l.length ≤ 9223372036854775807) (d : Nat) : ∀ (i : Int), 0 ≤ i → i ≤ l.length → (l.length : Int) - i = d →
  ∃ r, Ev (fun k => slices_Index_int_int.l0 k l a (l.length : Int) i) r ∧ (r ≥ 0 ↔ a ∈ l.drop i.toNat) := by
 induction d with
 | zero =>
  intro i h0 h1 hd
  refine ⟨-1, ?_, ?_⟩
  ·refine evPos ?_
   have hge : ¬ i < (l.length : Int) := by omega
   simp only [slices_Index_int_int.l0, if_neg hge]
   exact Ev.now _
  ·rw [List.drop_eq_nil_of_le (by omega)]; simp
 | succ d ih =>
  intro i h0 h1 hd
  have hlt : i < (l.length : Int) := by omega
  have hw : wrap64 (i + 1) = i + 1 := wrap_up h0 hlt hl
  have e : (i + 1).toNat = i.toNat + 1 := by omega
  have ed : l.drop i.toNat = rd l i :: l.drop (i + 1).toNat := by
   rw [e, List.drop_eq_getElem_cons (by omega), rd_lt h0 hlt]
  by_cases c : a = rd l i
  ·refine ⟨i, ?_, ?_⟩
   ·refine evPos ?_
    simp only [slices_Index_int_int.l0, if_pos hlt, if_pos h0, if_pos c]
    exact Ev.now _
   ·rw [ed]; simp [← c, h0]
  ·obtain ⟨r, hr, hm⟩ := ih (i + 1) (by omega) (by omega) (by omega)
   refine ⟨r, ?_, ?_⟩
   ·refine evPos ?_
    simp only [slices_Index_int_int.l0, if_pos hlt, if_pos h0, if_neg c, hw]
    exact hr
   ·rw [ed, hm]; simp [c]
theorem Contains_ev (l : List Int) (a : Int) (hl : l.length ≤ 9223372036854775807) : Ev (fun k => slices_Contains_int_int.f k l a) (decide (a ∈ l)) := by
 unfold slices_Contains_int_int.f slices_Index_int_int.f
 obtain ⟨r, hr, hm⟩ := Index_loop l a hl l.length 0 (by omega) (by omega) (by omega)
 refine Ev.bind hr (evConst ?_)
 simp only [Int.toNat_zero, List.drop_zero] at hm
 simp [hm]
/-- The first i of l are members' numbers, all different. -/
def fine (l : List Int) : Bool := l.all (fun c => decide (0 ≤ c) && decide (c ≤ 11)) && decide l.Nodup
def tailB (n : Nat) (next seed state who wait : Int) : Bool :=
  decide (0 ≤ next) && decide (next ≤ n) && (decide (0 ≤ seed) && decide (seed ≤ 2147483647)) && (decide (0 ≤ state) && decide (state ≤ 2)) && (decide (0 ≤ who) && decide (who ≤ 11)) && (decide (0 ≤ wait) && decide (wait ≤ 4)) && (!decide (state = 0) || decide (who = 0) && decide (wait = 0))
def probB (l : List Int) (next seed state who wait : Int) : Bool := fine l && tailB l.length next seed state who wait
theorem fine_length {l : List Int} (h : fine l = true) : l.length ≤ 12 := by
 simp only [fine, Bool.and_eq_true, List.all_eq_true, decide_eq_true_eq] at h
 obtain ⟨h1, h2⟩ := h
 have hs : l ⊆ (List.range 12).map (fun (i : Nat) => (i : Int)) := by
  intro x hx
  have := h1 x hx
  rw [List.mem_map]
  exact ⟨x.toNat, by simp; omega, by omega⟩
 have := h2.length_le_of_subset hs
 simpa using this
theorem fine_take_succ {l : List Int} {i : Int} (h0 : 0 ≤ i) (h : i < (l.length : Int)) : fine (l.take (i + 1).toNat) = (fine (l.take i.toNat) && (decide (0 ≤ rd l i) && decide (rd l i ≤ 11) && !decide (rd l i ∈ l.take i.toNat))) := by
 have e : (i + 1).toNat = i.toNat + 1 := by omega
 rw [e, List.take_succ_eq_append_getElem (by omega), ← rd_lt h0 h]
 generalize rd l i = x
 generalize l.take i.toNat = m
 rw [Bool.eq_iff_iff]
 simp only [fine, List.all_append, List.all_cons, List.all_nil, Bool.and_true, Bool.and_eq_true, decide_eq_true_eq, List.nodup_append, Bool.not_eq_true', decide_eq_false_iff_not]
 constructor
 ·rintro ⟨⟨h1, h2⟩, h3, h4, h5⟩
  refine ⟨⟨h1, h3⟩, h2, fun hm => h5 x hm x (by simp) rfl⟩
 ·rintro ⟨⟨h1, h3⟩, h2, hm⟩
  exact ⟨⟨h1, h2⟩, h3, by simp, fun a ha b hb => by simp at hb; subst hb; intro e; subst e; exact hm ha⟩
theorem fine_false {l : List Int} {n : Nat} (h : fine (l.take n) = false) : fine l = false := by
 rw [Bool.eq_false_iff] at h ⊢
 intro hf
 apply h
 simp only [fine, Bool.and_eq_true, List.all_eq_true, decide_eq_true_eq] at hf ⊢
 exact ⟨fun x hx => hf.1 x (List.mem_of_mem_take hx), hf.2.sublist (List.take_sublist _ _)⟩
theorem implTail (l : List Int) (a b c d e : Int) :
  ((impl_within.f a 0 (l.length : Int)).bind fun t132 => (if t132 = true then ((impl_isSeed.f b).bind fun t133 => (if t133 = true then ((impl_within.f c 0 2).bind fun t134 => (if t134 = true then ((impl_within.f d 0 11).bind fun t135 => (if t135 = true then ((impl_within.f e 0 4).bind fun t136 => (if t136 = true then (if c = 0 then (if d = 0 then (some (e == 0)) else (some false)) else (some true)) else (some false))) else (some false))) else (some false))) else (some false))) else (some false))) = some (tailB l.length a b c d e) := by
 simp only [within_eq, isSeed_eq, Option.bind_some, tailB]
 by_cases h1 : 0 ≤ a <;> by_cases h2 : a ≤ (l.length : Int) <;> simp only [h1, h2, decide_true, decide_false, Bool.true_and, Bool.false_and, Bool.and_true, Bool.and_false, Bool.false_eq_true, if_true, if_false]
 by_cases h3 : 0 ≤ b <;> by_cases h4 : b ≤ 2147483647 <;> simp only [h3, h4, decide_true, decide_false, Bool.true_and, Bool.false_and, Bool.and_true, Bool.and_false, Bool.false_eq_true, if_true, if_false]
 by_cases h5 : 0 ≤ c <;> by_cases h6 : c ≤ 2 <;> simp only [h5, h6, decide_true, decide_false, Bool.true_and, Bool.false_and, Bool.and_true, Bool.and_false, Bool.false_eq_true, if_true, if_false]
 by_cases h7 : 0 ≤ d <;> by_cases h8 : d ≤ 11 <;> simp only [h7, h8, decide_true, decide_false, Bool.true_and, Bool.false_and, Bool.and_true, Bool.and_false, Bool.false_eq_true, if_true, if_false]
 by_cases h9 : 0 ≤ e <;> by_cases h10 : e ≤ 4 <;> simp only [h9, h10, decide_true, decide_false, Bool.true_and, Bool.false_and, Bool.and_true, Bool.and_false, Bool.false_eq_true, if_true, if_false]
 by_cases h11 : c = 0 <;> by_cases h12 : d = 0 <;> by_cases h13 : e = 0 <;> simp [h11, h12, h13]
theorem implProberOk_loop (l : List Int) (a b c d e : Int) (hl : l.length ≤ 9223372036854775807) (n : Nat) : ∀ (i : Int), 0 ≤ i → i ≤ l.length → (l.length : Int) - i = n → fine (l.take i.toNat) = true →
  Ev (fun k => impl_ProberOk.l0 k l (l.length : Int) i l a b c d e) (probB l a b c d e) := by
 induction n with
 | zero =>
  intro i h0 h1 hd hf
  have hge : ¬ i < (l.length : Int) := by omega
  refine evPos ?_
  simp only [impl_ProberOk.l0, if_neg hge]
  rw [implTail]
  refine evConst ?_
  rw [List.take_of_length_le (by omega)] at hf
  simp [probB, hf]
 | succ n ih =>
  intro i h0 h1 hd hf
  have hlt : i < (l.length : Int) := by omega
  have hw : wrap64 (i + 1) = i + 1 := wrap_up h0 hlt hl
  have hs := fine_take_succ h0 hlt
  rw [hf, Bool.true_and] at hs
  refine evPos ?_
  simp only [impl_ProberOk.l0, if_pos hlt, if_pos h0, if_pos h1, within_eq, Option.bind_some, hw]
  cases hr : (decide (0 ≤ rd l i) && decide (rd l i ≤ 11)) with
  | false =>
   simp only [Bool.false_eq_true, if_false]
   refine evConst ?_
   rw [hr, Bool.false_and] at hs
   simp [probB, fine_false hs]
  | true =>
   simp only [if_true]
   rw [hr, Bool.true_and] at hs
   refine Ev.bind (Contains_ev (l.take i.toNat) (rd l i) (by rw [List.length_take]; omega)) ?_
   cases hm : decide (rd l i ∈ l.take i.toNat) with
   | true =>
    simp only [if_true]
    refine evConst ?_
    rw [hm] at hs
    simp [probB, fine_false hs]
   | false =>
    simp only [Bool.false_eq_true, if_false]
    rw [hm] at hs
    exact ih (i + 1) (by omega) (by omega) (by omega) hs
theorem implProberOk_ev (l : List Int) (a b c d e : Int) (hl : l.length ≤ 9223372036854775807) : Ev (fun k => impl_ProberOk.f k l a b c d e) (probB l a b c d e) := by
 unfold impl_ProberOk.f
 exact implProberOk_loop l a b c d e hl l.length 0 (by omega) (by omega) (by omega) (by simp [fine])
def memB (a b c : Int) : Bool := decide (0 ≤ a) && decide (a ≤ 11) && (decide (0 ≤ b) && decide (b ≤ 3)) && (decide (0 ≤ c) && decide (c ≤ 1000))
theorem specMemberOk_eq (a b c : Int) : spec_MemberOk.f a b c = some (memB a b c) := by
 unfold spec_MemberOk.f memB
 by_cases h1 : 0 ≤ a <;> by_cases h2 : a ≤ 11 <;> by_cases h3 : 0 ≤ b <;> by_cases h4 : b ≤ 3 <;> by_cases h5 : 0 ≤ c <;> simp [h1, h2, h3, h4, h5] <;> omega
theorem implMemberOk_eq (a b c : Int) : impl_MemberOk.f a b c = some (memB a b c) := by
 unfold impl_MemberOk.f memB
 simp only [within_eq, Option.bind_some]
 by_cases h1 : 0 ≤ a <;> by_cases h2 : a ≤ 11 <;> by_cases h3 : 0 ≤ b <;> by_cases h4 : b ≤ 3 <;> simp [h1, h2, h3, h4]
abbrev MT := S40
def Rm (l : List MT) (i : Int) : MT := rd_T40 l i
/-- One step's test: a valid member, behind the one before it. -/
def chk (l : List MT) (i : Int) : Bool := memB (Rm l i).f0 (Rm l i).f1 (Rm l i).f2 && (decide (i = 0) || decide ((Rm l (i - 1)).f0 < (Rm l i).f0))
def Chk (l : List MT) : Prop := ∀ i : Int, 0 ≤ i → i < l.length → chk l i = true
theorem Chk.asc {l : List MT} (h : Chk l) : ∀ (d : Nat) (a b : Int), 0 ≤ a → a < b → b < l.length → b - a = d + 1 → (Rm l a).f0 < (Rm l b).f0 := by
 intro d
 induction d with
 | zero =>
  intro a b h0 h1 h2 hd
  have := h b (by omega) h2
  simp only [chk, Bool.and_eq_true, Bool.or_eq_true, decide_eq_true_eq] at this
  obtain rfl : a = b - 1 := by omega
  rcases this.2 with e | e
  ·omega
  ·exact e
 | succ d ih =>
  intro a b h0 h1 h2 hd
  have r := ih a (b - 1) h0 (by omega) (by omega) (by omega)
  have := h b (by omega) h2
  simp only [chk, Bool.and_eq_true, Bool.or_eq_true, decide_eq_true_eq] at this
  rcases this.2 with e | e
  ·omega
  ·omega
theorem Chk.lt {l : List MT} (h : Chk l) {a b : Int} (h0 : 0 ≤ a) (h1 : a < b) (h2 : b < l.length) : (Rm l a).f0 < (Rm l b).f0 := h.asc (b - a - 1).toNat a b h0 h1 h2 (by omega)
theorem Chk.uniq {l : List MT} (h : Chk l) {a b : Int} (h0 : 0 ≤ a) (h1 : a < l.length) (h2 : 0 ≤ b) (h3 : b < l.length) (e : (Rm l a).f0 = (Rm l b).f0) : a = b := by
 rcases Int.lt_trichotomy a b with c | c | c
 ·have := h.lt h0 c h3; omega
 ·exact c
 ·have := h.lt h2 c h1; omega
/-- Where the number is: its place, or none. -/
def At (l : List MT) (id r : Int) : Prop := 0 ≤ r ∧ r < l.length ∧ (Rm l r).f0 = id
def Non (l : List MT) (id : Int) : Prop := ∀ j : Int, 0 ≤ j → j < l.length → (Rm l j).f0 ≠ id
theorem specFind_loop (l : List MT) (hl : l.length ≤ 1048576) (s id : Int) (d : Nat) : ∀ (i : Int), 0 ≤ i → i ≤ l.length → (l.length : Int) - i = d → (∀ j : Int, 0 ≤ j → j < i → (Rm l j).f0 ≠ id) →
  ∃ r, Ev (fun k => spec_l10find.l0 k id i s l) r ∧ (At l id r ∨ r = -1 ∧ Non l id) := by
 induction d with
 | zero =>
  intro i h0 h1 hd hn
  have hge : ¬ i < (l.length : Int) := by omega
  refine ⟨-1, evPos ?_, Or.inr ⟨rfl, fun j j0 j1 => hn j j0 (by omega)⟩⟩
  simp only [spec_l10find.l0, if_neg hge]
  exact Ev.now _
 | succ d ih =>
  intro i h0 h1 hd hn
  have hlt : i < (l.length : Int) := by omega
  by_cases c : (rd_T40 l i).f0 = id
  ·refine ⟨i, evPos ?_, Or.inl ⟨h0, hlt, c⟩⟩
   simp only [spec_l10find.l0, if_pos hlt, if_pos h0, if_pos c]
   exact Ev.now _
  ·obtain ⟨r, hr, hp⟩ := ih (i + 1) (by omega) (by omega) (by omega) (fun j j0 j1 => by
    by_cases e : j = i
    ·subst e; exact c
    ·exact hn j j0 (by omega))
   refine ⟨r, evPos ?_, hp⟩
   have hw : wrap64 (i + 1) = i + 1 := wrap_up h0 hlt (by omega)
   simp only [spec_l10find.l0, if_pos hlt, if_pos h0, if_neg c, hw]
   exact hr
theorem specFind_ev (l : List MT) (hl : l.length ≤ 1048576) (s id : Int) : ∃ r, Ev (fun k => spec_l10find.f k s l id) r ∧ (At l id r ∨ r = -1 ∧ Non l id) := by
 unfold spec_l10find.f
 exact specFind_loop l hl s id l.length 0 (by omega) (by omega) (by omega) (fun j j0 j1 => by omega)
theorem cmpI_neg (a b : Int) : impl_Table_member.cmpI a b < 0 ↔ a < b := by
 unfold impl_Table_member.cmpI
 by_cases h : a < b
 ·simp [h]
 ·by_cases h2 : a > b <;> simp [h, h2]
theorem cmpI_zero (a b : Int) : (impl_Table_member.cmpI a b == 0) = decide (a = b) := by
 unfold impl_Table_member.cmpI
 by_cases h : a < b
 ·have : a ≠ b := by omega
  simp [h, this]
 ·by_cases h2 : a > b
  ·have : a ≠ b := by omega
   simp [h, h2, this]
  ·have : a = b := by omega
   simp [this]
theorem srch_loop (l : List MT) (hl : l.length ≤ 1048576) (h : Chk l) (id : Int) (d : Nat) : ∀ (lo hi : Nat), lo ≤ hi → hi ≤ l.length → hi - lo ≤ d → (∀ j : Int, 0 ≤ j → j < lo → (Rm l j).f0 < id) → (∀ j : Int, hi ≤ j → j < l.length → id ≤ (Rm l j).f0) →
  ∃ r : Nat, r ≤ l.length ∧ (∀ j : Int, 0 ≤ j → j < r → (Rm l j).f0 < id) ∧ (∀ j : Int, r ≤ j → j < l.length → id ≤ (Rm l j).f0) ∧
   Ev (fun k => impl_Table_member.srchl0 k l id lo hi) ((r : Int), decide (r < l.length) && decide ((Rm l r).f0 = id)) := by
 induction d with
 | zero =>
  intro lo hi h0 h1 hd a b
  obtain rfl : hi = lo := by omega
  refine ⟨hi, h1, a, b, evPos ?_⟩
  have hge : ¬ hi < hi := by omega
  simp only [impl_Table_member.srchl0, if_neg hge, cmpI_zero]
  exact Ev.now _
 | succ d ih =>
  intro lo hi h0 h1 hd a b
  by_cases c : lo < hi
  ·have em : ((lo : Int) + (hi : Int)) / 2 = (((lo + hi) / 2 : Nat) : Int) := by omega
   by_cases c2 : (Rm l (((lo : Int) + (hi : Int)) / 2)).f0 < id
   ·obtain ⟨r, r1, ra, rb, hr⟩ := ih ((lo + hi) / 2 + 1) hi (by omega) h1 (by omega) (fun j j0 j1 => by
     by_cases e : j = ((lo : Int) + (hi : Int)) / 2
     ·subst e; exact c2
     ·have := h.lt j0 (show j < ((lo : Int) + (hi : Int)) / 2 by omega) (by omega); omega) b
    refine ⟨r, r1, ra, rb, evPos ?_⟩
    have c3 := (cmpI_neg (rd_T40 l (((lo : Int) + (hi : Int)) / 2)).f0 id).mpr c2
    simp only [impl_Table_member.srchl0, if_pos c, if_pos c3]
    exact hr
   ·obtain ⟨r, r1, ra, rb, hr⟩ := ih lo ((lo + hi) / 2) (by omega) (by omega) (by omega) a (fun j j0 j1 => by
     by_cases e : j = ((lo : Int) + (hi : Int)) / 2
     ·subst e; omega
     ·have := h.lt (show 0 ≤ ((lo : Int) + (hi : Int)) / 2 by omega) (show ((lo : Int) + (hi : Int)) / 2 < j by omega) j1; omega)
    refine ⟨r, r1, ra, rb, evPos ?_⟩
    have c3 : ¬ impl_Table_member.cmpI (rd_T40 l (((lo : Int) + (hi : Int)) / 2)).f0 id < 0 := fun z => c2 ((cmpI_neg _ _).mp z)
    simp only [impl_Table_member.srchl0, if_pos c, if_neg c3]
    exact hr
  ·obtain rfl : hi = lo := by omega
   refine ⟨hi, h1, a, b, evPos ?_⟩
   simp only [impl_Table_member.srchl0, if_neg c, cmpI_zero]
   exact Ev.now _
/-- By halves: the place, or where it would be. -/
theorem member_ev (l : List MT) (hl : l.length ≤ 1048576) (h : Chk l) (s id : Int) :
  ∃ r b, Ev (fun k => impl_Table_member.f k s l id) (r, b) ∧ 0 ≤ r ∧ r ≤ l.length ∧ (∀ j : Int, 0 ≤ j → j < r → (Rm l j).f0 < id) ∧ (∀ j : Int, r ≤ j → j < l.length → id ≤ (Rm l j).f0) ∧ (b = true ∧ At l id r ∨ b = false ∧ Non l id) := by
 unfold impl_Table_member.f impl_Table_member.srchf
 have h2 : l.length < 4611686018427387904 := by omega
 simp only [if_pos h2]
 obtain ⟨r, r1, ra, rb, hr⟩ := srch_loop l hl h id l.length 0 l.length (by omega) (by omega) (by omega) (fun j j0 j1 => by omega) (fun j j0 j1 => by omega)
 refine ⟨r, _, hr, by omega, by omega, ra, rb, ?_⟩
 by_cases c : r < l.length ∧ (Rm l r).f0 = id
 ·left
  exact ⟨by simp [c.1, c.2], by omega, by omega, c.2⟩
 ·right
  refine ⟨by
   by_cases c1 : r < l.length
   ·have c2 : ¬ (Rm l r).f0 = id := fun z => c ⟨c1, z⟩
    simp [c2]
   ·simp [c1], fun j j0 j1 e => ?_⟩
  have p1 := ra j j0
  have p2 := rb j
  by_cases z : j < r
  ·have := p1 z; omega
  ·have := rb r (by omega) (by omega)
   by_cases y : (r : Int) = j
   ·subst y; exact c ⟨by omega, e⟩
   ·have := h.lt (show (0 : Int) ≤ r by omega) (show (r : Int) < j by omega) j1; omega
def tailV (x : MT) : Bool := decide (x.f1 = 0) || decide (x.f1 = 3) || decide (x.f2 = 1000)
/-- A table is valid: as a proposition. -/
def TabP (s : Int) (l : List MT) : Prop := l.length ≤ 12 ∧ Chk l ∧ ∃ r, At l s r ∧ tailV (Rm l r) = true
theorem tail_if (x : MT) : (if x.f1 = 0 then (some true) else (if x.f1 = 3 then (some true) else (some (x.f2 == 1000)))) = some (tailV x) := by
 unfold tailV
 by_cases h1 : x.f1 = 0
 ·simp [h1]
 ·by_cases h2 : x.f1 = 3
  ·simp [h2]
  ·by_cases h3 : x.f2 = 1000 <;> simp [h1, h2, h3]
theorem specTab_loop (s : Int) (l : List MT) (hl : l.length ≤ 12) (d : Nat) : ∀ (i : Int), 0 ≤ i → i ≤ l.length → (l.length : Int) - i = d → (∀ j : Int, 0 ≤ j → j < i → chk l j = true) →
  ∃ b, Ev (fun k => spec_TableOk.l0 k i s l) b ∧ (b = true ↔ TabP s l) := by
 induction d with
 | zero =>
  intro i h0 h1 hd hc
  have hge : ¬ i < (l.length : Int) := by omega
  have hC : Chk l := fun j j0 j1 => hc j j0 (by omega)
  obtain ⟨r, hr, hp⟩ := specFind_ev l (by omega) s s
  rcases hp with hp | ⟨rfl, hp⟩
  ·have g1 : r ≥ 0 := hp.1
   have g2 : 0 ≤ r := hp.1
   refine ⟨tailV (Rm l r), evPos ?_, fun h => ⟨hl, hC, r, hp, h⟩, fun ⟨_, _, r2, q, h⟩ => ?_⟩
   ·simp only [spec_TableOk.l0, if_neg hge]
    refine Ev.bind hr ?_
    simp only [if_pos g1, if_pos g2, if_pos hp.2.1]
    exact evConst (tail_if (rd_T40 l r))
   ·have := hC.uniq hp.1 hp.2.1 q.1 q.2.1 (hp.2.2.trans q.2.2.symm)
    rw [this]; exact h
  ·refine ⟨false, evPos ?_, fun h => absurd h (by decide), fun ⟨_, _, r2, q, h⟩ => absurd q.2.2 (hp r2 q.1 q.2.1)⟩
   simp only [spec_TableOk.l0, if_neg hge]
   refine Ev.bind hr ?_
   have g1 : ¬ ((-1 : Int) ≥ 0) := by omega
   simp only [if_neg g1]
   exact Ev.now _
 | succ d ih =>
  intro i h0 h1 hd hc
  have hlt : i < (l.length : Int) := by omega
  have hw : wrap64 (i + 1) = i + 1 := wrap_up h0 hlt (by omega)
  have hw2 : wrap64 (i - 1) = i - 1 := by unfold wrap64; omega
  by_cases c : chk l i = true
  ·obtain ⟨b, hb, hp⟩ := ih (i + 1) (by omega) (by omega) (by omega) (fun j j0 j1 => by
    by_cases e : j = i
    ·subst e; exact c
    ·exact hc j j0 (by omega))
   refine ⟨b, evPos ?_, hp⟩
   simp only [chk, Bool.and_eq_true, Bool.or_eq_true, decide_eq_true_eq] at c
   have c1 : memB (rd_T40 l i).f0 (rd_T40 l i).f1 (rd_T40 l i).f2 = true := c.1
   simp only [spec_TableOk.l0, if_pos hlt, if_pos h0, specMemberOk_eq, Option.bind_some, c1, if_true, hw, hw2]
   by_cases c2 : i > 0
   ·have g1 : 0 ≤ i - 1 := by omega
    have g2 : i - 1 < (l.length : Int) := by omega
    have g3 : ¬ (rd_T40 l (i - 1)).f0 ≥ (rd_T40 l i).f0 := by
     rcases c.2 with e | e
     ·omega
     ·have e' : (rd_T40 l (i - 1)).f0 < (rd_T40 l i).f0 := e
      omega
    simp only [if_pos c2, if_pos g1, if_pos g2, if_neg g3]
    exact hb
   ·simp only [if_neg c2]; exact hb
  ·refine ⟨false, evPos ?_, fun h => absurd h (by decide), fun ⟨_, q, _⟩ => absurd (q i h0 hlt) c⟩
   simp only [spec_TableOk.l0, if_pos hlt, if_pos h0, specMemberOk_eq, Option.bind_some, hw, hw2]
   by_cases c1 : memB (rd_T40 l i).f0 (rd_T40 l i).f1 (rd_T40 l i).f2 = true
   ·simp only [c1, if_true]
    have c2 : ¬ (i = 0) ∧ ¬ ((Rm l (i - 1)).f0 < (Rm l i).f0) := by
     simp only [chk, Bool.and_eq_true, Bool.or_eq_true, decide_eq_true_eq] at c
     have c1' : memB (Rm l i).f0 (Rm l i).f1 (Rm l i).f2 = true := c1
     exact ⟨fun e => c ⟨c1', Or.inl e⟩, fun e => c ⟨c1', Or.inr e⟩⟩
    have g0 : i > 0 := by omega
    have g1 : 0 ≤ i - 1 := by omega
    have g2 : i - 1 < (l.length : Int) := by omega
    have g3 : (rd_T40 l (i - 1)).f0 ≥ (rd_T40 l i).f0 := by
     have e' : ¬ ((rd_T40 l (i - 1)).f0 < (rd_T40 l i).f0) := c2.2
     omega
    simp only [if_pos g0, if_pos g1, if_pos g2, if_pos g3]
    exact Ev.now _
   ·simp only [if_neg c1]
    exact Ev.now _
theorem implTab_loop (s : Int) (l : List MT) (hl : l.length ≤ 12) (d : Nat) : ∀ (i : Int), 0 ≤ i → i ≤ l.length → (l.length : Int) - i = d → (∀ j : Int, 0 ≤ j → j < i → chk l j = true) →
  ∃ b, Ev (fun k => impl_TableOk.l0 k l (l.length : Int) i s l) b ∧ (b = true ↔ TabP s l) := by
 induction d with
 | zero =>
  intro i h0 h1 hd hc
  have hge : ¬ i < (l.length : Int) := by omega
  have hC : Chk l := fun j j0 j1 => hc j j0 (by omega)
  obtain ⟨r, b, hr, _, _, _, _, hp⟩ := member_ev l (by omega) hC s s
  rcases hp with ⟨rfl, hp⟩ | ⟨rfl, hp⟩
  ·have g2 : 0 ≤ r := hp.1
   refine ⟨tailV (Rm l r), evPos ?_, fun h => ⟨hl, hC, r, hp, h⟩, fun ⟨_, _, r2, q, h⟩ => ?_⟩
   ·simp only [impl_TableOk.l0, if_neg hge]
    refine Ev.bind hr ?_
    simp only [if_true, if_pos g2, if_pos hp.2.1]
    exact evConst (tail_if (rd_T40 l r))
   ·have := hC.uniq hp.1 hp.2.1 q.1 q.2.1 (hp.2.2.trans q.2.2.symm)
    rw [this]; exact h
  ·refine ⟨false, evPos ?_, fun h => absurd h (by decide), fun ⟨_, _, r2, q, h⟩ => absurd q.2.2 (hp r2 q.1 q.2.1)⟩
   simp only [impl_TableOk.l0, if_neg hge]
   refine Ev.bind hr ?_
   simp only [Bool.false_eq_true, if_false]
   exact Ev.now _
 | succ d ih =>
  intro i h0 h1 hd hc
  have hlt : i < (l.length : Int) := by omega
  have hw : wrap64 (i + 1) = i + 1 := wrap_up h0 hlt (by omega)
  have hw2 : wrap64 (i - 1) = i - 1 := by unfold wrap64; omega
  by_cases c : chk l i = true
  ·obtain ⟨b, hb, hp⟩ := ih (i + 1) (by omega) (by omega) (by omega) (fun j j0 j1 => by
    by_cases e : j = i
    ·subst e; exact c
    ·exact hc j j0 (by omega))
   refine ⟨b, evPos ?_, hp⟩
   simp only [chk, Bool.and_eq_true, Bool.or_eq_true, decide_eq_true_eq] at c
   have c1 : memB (rd_T40 l i).f0 (rd_T40 l i).f1 (rd_T40 l i).f2 = true := c.1
   simp only [impl_TableOk.l0, if_pos hlt, if_pos h0, implMemberOk_eq, Option.bind_some, c1, if_true, hw, hw2]
   by_cases c2 : i > 0
   ·have g1 : 0 ≤ i - 1 := by omega
    have g2 : i - 1 < (l.length : Int) := by omega
    have g3 : ¬ (rd_T40 l (i - 1)).f0 ≥ (rd_T40 l i).f0 := by
     rcases c.2 with e | e
     ·omega
     ·have e' : (rd_T40 l (i - 1)).f0 < (rd_T40 l i).f0 := e
      omega
    simp only [if_pos c2, if_pos g1, if_pos g2, if_neg g3]
    exact hb
   ·simp only [if_neg c2]; exact hb
  ·refine ⟨false, evPos ?_, fun h => absurd h (by decide), fun ⟨_, q, _⟩ => absurd (q i h0 hlt) c⟩
   simp only [impl_TableOk.l0, if_pos hlt, if_pos h0, implMemberOk_eq, Option.bind_some, hw, hw2]
   by_cases c1 : memB (rd_T40 l i).f0 (rd_T40 l i).f1 (rd_T40 l i).f2 = true
   ·simp only [c1, if_true]
    have c2 : ¬ (i = 0) ∧ ¬ ((Rm l (i - 1)).f0 < (Rm l i).f0) := by
     simp only [chk, Bool.and_eq_true, Bool.or_eq_true, decide_eq_true_eq] at c
     have c1' : memB (Rm l i).f0 (Rm l i).f1 (Rm l i).f2 = true := c1
     exact ⟨fun e => c ⟨c1', Or.inl e⟩, fun e => c ⟨c1', Or.inr e⟩⟩
    have g0 : i > 0 := by omega
    have g1 : 0 ≤ i - 1 := by omega
    have g2 : i - 1 < (l.length : Int) := by omega
    have g3 : (rd_T40 l (i - 1)).f0 ≥ (rd_T40 l i).f0 := by
     have e' : ¬ ((rd_T40 l (i - 1)).f0 < (rd_T40 l i).f0) := c2.2
     omega
    simp only [if_pos g0, if_pos g1, if_pos g2, if_pos g3]
    exact Ev.now _
   ·simp only [if_neg c1]
    exact Ev.now _
/-- Both say one thing: whether the table is valid. -/
theorem tableOk_ev (s : Int) (l : List MT) (hl : l.length ≤ 1048576) : ∃ b, Ev (fun k => spec_TableOk.f k s l) b ∧ Ev (fun k => impl_TableOk.f k s l) b ∧ (b = true ↔ TabP s l) := by
 unfold spec_TableOk.f impl_TableOk.f
 by_cases c : (l.length : Int) > 12
 ·refine ⟨false, by simp only [if_pos c]; exact Ev.now _, by simp only [if_pos c]; exact Ev.now _, fun h => absurd h (by decide), fun h => ?_⟩
  have := h.1; omega
 ·obtain ⟨b1, e1, p1⟩ := specTab_loop s l (by omega) l.length 0 (by omega) (by omega) (by omega) (fun j j0 j1 => by omega)
  obtain ⟨b2, e2, p2⟩ := implTab_loop s l (by omega) l.length 0 (by omega) (by omega) (by omega) (fun j j0 j1 => by omega)
  have : b1 = b2 := by
   cases b1 <;> cases b2 <;> simp_all
  subst this
  exact ⟨b1, by simp only [if_neg c]; exact e1, by simp only [if_neg c]; exact e2, p1⟩
theorem Rm_get {l : List MT} {i : Int} (h0 : 0 ≤ i) (h : i < (l.length : Int)) : Rm l i = l[i.toNat]'(by omega) := by
 unfold Rm rd_T40; rw [List.getD_eq_getElem?_getD, List.getElem?_eq_getElem (by omega)]; rfl
theorem Chk.mk' {l : List MT} (h1 : ∀ i : Int, 0 ≤ i → i < l.length → memB (Rm l i).f0 (Rm l i).f1 (Rm l i).f2 = true) (h2 : ∀ i : Int, 0 < i → i < l.length → (Rm l (i - 1)).f0 < (Rm l i).f0) : Chk l := by
 intro i h0 hl
 unfold chk
 rw [h1 i h0 hl]
 by_cases c : i = 0
 ·simp [c]
 ·simp [h2 i (by omega) hl]
theorem Chk.mem {l : List MT} (h : Chk l) {i : Int} (h0 : 0 ≤ i) (hl : i < l.length) : memB (Rm l i).f0 (Rm l i).f1 (Rm l i).f2 = true := by
 have := h i h0 hl
 simp only [chk, Bool.and_eq_true] at this
 exact this.1
theorem Rm_set_eq {l : List MT} {i : Int} (h0 : 0 ≤ i) (h : i < (l.length : Int)) (x : MT) : Rm (l.set i.toNat x) i = x := by
 rw [Rm_get h0 (by simpa using h), List.getElem_set_self]
theorem Rm_set_ne {l : List MT} {i j : Int} (h0 : 0 ≤ i) (j0 : 0 ≤ j) (j1 : j < (l.length : Int)) (h : j ≠ i) (x : MT) : Rm (l.set i.toNat x) j = Rm l j := by
 rw [Rm_get j0 (by simpa using j1), Rm_get j0 j1, List.getElem_set_ne (by omega)]
theorem Chk.set_ {l : List MT} (h : Chk l) {i : Int} (h0 : 0 ≤ i) (h1 : i < (l.length : Int)) (x : MT) (hx : memB x.f0 x.f1 x.f2 = true) (he : x.f0 = (Rm l i).f0) : Chk (l.set i.toNat x) := by
 have f : ∀ j : Int, 0 ≤ j → j < l.length → (Rm (l.set i.toNat x) j).f0 = (Rm l j).f0 := by
  intro j j0 j1
  by_cases c : j = i
  ·subst c; rw [Rm_set_eq j0 j1]; exact he
  ·rw [Rm_set_ne h0 j0 j1 c]
 refine Chk.mk' (fun j j0 j1 => ?_) (fun j j0 j1 => ?_)
 ·rw [List.length_set] at j1
  by_cases c : j = i
  ·subst c; rw [Rm_set_eq j0 j1]; exact hx
  ·rw [Rm_set_ne h0 j0 j1 c]; exact h.mem j0 j1
 ·rw [List.length_set] at j1
  rw [f j (by omega) j1, f (j - 1) (by omega) (by omega)]
  exact h.lt (by omega) (by omega) j1
def insV (l : List MT) (r : Nat) (x : MT) : List MT := l.take r ++ [x] ++ l.drop r
theorem insV_len (l : List MT) (r : Nat) (x : MT) (h : r ≤ l.length) : (insV l r x).length = l.length + 1 := by
 unfold insV; simp; omega
theorem Rm_ins_lt {l : List MT} {r j : Int} {x : MT} (h1 : r ≤ l.length) (j0 : 0 ≤ j) (j1 : j < r) : Rm (insV l r.toNat x) j = Rm l j := by
 rw [Rm_get j0 (by rw [insV_len _ _ _ (by omega)]; omega), Rm_get j0 (by omega)]
 simp only [insV]
 rw [List.getElem_append_left (by simp; omega), List.getElem_append_left (by simp; omega), List.getElem_take]
theorem Rm_ins_eq {l : List MT} {r : Int} {x : MT} (h0 : 0 ≤ r) (h1 : r ≤ l.length) : Rm (insV l r.toNat x) r = x := by
 rw [Rm_get h0 (by rw [insV_len _ _ _ (by omega)]; omega)]
 simp only [insV]
 rw [List.getElem_append_left (by simp; omega), List.getElem_append_right (by simp; omega)]
 simp
theorem Rm_ins_gt {l : List MT} {r j : Int} {x : MT} (h0 : 0 ≤ r) (h1 : r ≤ l.length) (j0 : r < j) (j1 : j ≤ l.length) : Rm (insV l r.toNat x) j = Rm l (j - 1) := by
 rw [Rm_get (by omega) (by rw [insV_len _ _ _ (by omega)]; omega), Rm_get (by omega) (by omega)]
 simp only [insV]
 rw [List.getElem_append_right (by simp; omega), List.getElem_drop]
 congr 1
 simp
 omega
theorem Chk.ins {l : List MT} (h : Chk l) {r : Int} (h0 : 0 ≤ r) (h1 : r ≤ (l.length : Int)) (x : MT) (hx : memB x.f0 x.f1 x.f2 = true) (ha : ∀ j : Int, 0 ≤ j → j < r → (Rm l j).f0 < x.f0) (hb : ∀ j : Int, r ≤ j → j < l.length → x.f0 < (Rm l j).f0) : Chk (insV l r.toNat x) := by
 have hn := insV_len l r.toNat x (by omega)
 refine Chk.mk' (fun j j0 j1 => ?_) (fun j j0 j1 => ?_)
 ·rcases Int.lt_trichotomy j r with c | c | c
  ·rw [Rm_ins_lt h1 j0 c]; exact h.mem j0 (by omega)
  ·subst c; rw [Rm_ins_eq h0 h1]; exact hx
  ·rw [Rm_ins_gt h0 h1 c (by omega)]; exact h.mem (by omega) (by omega)
 ·rcases Int.lt_trichotomy j r with c | c | c
  ·rw [Rm_ins_lt h1 (by omega) c, Rm_ins_lt h1 (by omega) (by omega)]; exact h.lt (by omega) (by omega) (by omega)
  ·subst c; rw [Rm_ins_eq h0 h1, Rm_ins_lt h1 (by omega) (by omega)]; exact ha _ (by omega) (by omega)
  ·rw [Rm_ins_gt h0 h1 c (by omega)]
   by_cases c2 : j - 1 = r
   ·rw [c2, Rm_ins_eq h0 h1]; exact hb r (by omega) (by omega)
   ·rw [Rm_ins_gt h0 h1 (by omega) (by omega)]; exact h.lt (by omega) (by omega) (by omega)
theorem say_loop (l : List MT) (hl : l.length ≤ 1048576) (s id b1 b2 : Int) (r : Int) (h1 : r ≤ l.length) (ha : ∀ j : Int, 0 ≤ j → j < r → (Rm l j).f0 < id) (hb : ∀ j : Int, r ≤ j → j < l.length → ¬ (Rm l j).f0 < id) (d : Nat) : ∀ i : Int, 0 ≤ i → i ≤ r → r - i = d →
  Ev (fun k => spec_l10say.l0 k i s l id b1 b2) (true, s, insV l r.toNat (⟨id, b1, b2⟩ : MT)) := by
 induction d with
 | zero =>
  intro i h0 hi hd
  obtain rfl : i = r := by omega
  refine evPos ?_
  have n1 : ([] : List (S40)).length + (l.take i.toNat).length < 5864062014805 := by simp; omega
  have n2 : (([] : List (S40)) ++ l.take i.toNat).length < 5864062014805 := by simp; omega
  have n3 : ((([] : List (S40)) ++ l.take i.toNat) ++ [(⟨id, b1, b2⟩ : S40)]).length + (l.drop i.toNat).length < 5864062014805 := by simp; omega
  by_cases c : i < (l.length : Int)
  ·have c2 : ¬ (rd_T40 l i).f0 < id := hb i (by omega) c
   simp only [spec_l10say.l0, if_pos c, if_pos h0, if_neg c2, if_pos h1, Option.bind_some, if_pos n1, if_pos n2, if_pos n3]
   exact Ev.now _
  ·simp only [spec_l10say.l0, if_neg c, if_pos h0, if_pos h1, Option.bind_some, if_pos n1, if_pos n2, if_pos n3]
   exact Ev.now _
 | succ d ih =>
  intro i h0 hi hd
  have c : i < (l.length : Int) := by omega
  have c2 : (rd_T40 l i).f0 < id := ha i h0 (by omega)
  have hw : wrap64 (i + 1) = i + 1 := wrap_up h0 c (by omega)
  refine evPos ?_
  simp only [spec_l10say.l0, if_pos c, if_pos h0, if_pos c2, hw]
  exact ih (i + 1) (by omega) (by omega) (by omega)
def beatV (a0 a1 a2 b0 b1 b2 : Int) : Bool := decide (a0 = b0) && (decide (a2 > b2) || decide (a2 = b2) && decide (a1 > b1))
theorem specBeats_eq (a0 a1 a2 b0 b1 b2 : Int) : spec_Beats.f a0 a1 a2 b0 b1 b2 = some (beatV a0 a1 a2 b0 b1 b2) := by
 unfold spec_Beats.f beatV
 by_cases h : a0 = b0 <;> by_cases h2 : a2 > b2 <;> by_cases h3 : a2 = b2 <;> simp [h, h2, h3]
def hearM (s : Int) (y : MT) (b0 b1 b2 : Int) : MT := if b0 = s then (if b2 < 1000 then (if y.f1 = 0 then (if b1 = 0 then ⟨b0, b1, b2⟩ else ⟨y.f0, y.f1, wrap64 (b2 + 1)⟩) else (if y.f1 = 3 then ⟨y.f0, y.f1, b2⟩ else ⟨b0, b1, b2⟩)) else ⟨b0, b1, b2⟩) else ⟨b0, b1, b2⟩
theorem hearM_low (s : Int) (y : MT) (b0 b1 b2 : Int) (e : b0 = s) (h : b2 < 1000) : hearM s y b0 b1 b2 = if y.f1 = 0 then (if b1 = 0 then ⟨b0, b1, b2⟩ else ⟨y.f0, y.f1, wrap64 (b2 + 1)⟩) else (if y.f1 = 3 then ⟨y.f0, y.f1, b2⟩ else ⟨b0, b1, b2⟩) := by
 unfold hearM
 rw [if_pos e, if_pos h]
theorem hearM_mem (s : Int) (y : MT) (b0 b1 b2 : Int) (hy : memB y.f0 y.f1 y.f2 = true) (hb : memB b0 b1 b2 = true) (e : y.f0 = b0) : memB (hearM s y b0 b1 b2).f0 (hearM s y b0 b1 b2).f1 (hearM s y b0 b1 b2).f2 = true ∧ (hearM s y b0 b1 b2).f0 = y.f0 := by
 have hb' := hb
 simp only [memB, Bool.and_eq_true, decide_eq_true_eq] at hy hb'
 unfold hearM
 have w : b2 < 1000 → wrap64 (b2 + 1) = b2 + 1 := by intro h; unfold wrap64; omega
 repeat' split
 all_goals first
  | exact ⟨hb, e.symm⟩
  | (refine ⟨?_, rfl⟩; simp only [memB, Bool.and_eq_true, decide_eq_true_eq]; first | (rw [w (by assumption)]; omega) | omega)
theorem hear_keep (s : Int) (l : List MT) (r q id b1 b2 : Int) (hC : Chk l) (hp : At l id r) (q1 : At l s q) (q2 : tailV (Rm l q) = true) (hb2 : b2 < 1000) (hv : beatV id b1 b2 (rd_T40 l r).f0 (rd_T40 l r).f1 (rd_T40 l r).f2 = true) :
  ∃ r', At (l.set r.toNat (hearM s (rd_T40 l r) id b1 b2)) s r' ∧ tailV (Rm (l.set r.toNat (hearM s (rd_T40 l r) id b1 b2)) r') = true := by
 refine ⟨q, ?_⟩
 unfold At at q1 ⊢
 by_cases c : q = r
 ·subst c
  have e : id = s := hp.2.2.symm.trans q1.2.2
  rw [Rm_set_eq q1.1 q1.2.1]
  have hv' : beatV id b1 b2 (Rm l q).f0 (Rm l q).f1 (Rm l q).f2 = true := hv
  simp only [beatV, Bool.and_eq_true, Bool.or_eq_true, decide_eq_true_eq] at hv'
  unfold tailV at q2 ⊢
  simp only [Bool.or_eq_true, decide_eq_true_eq] at q2
  have e0 := q1.2.2
  show (0 ≤ q ∧ q < _ ∧ (hearM s (Rm l q) id b1 b2).f0 = s) ∧ (decide ((hearM s (Rm l q) id b1 b2).f1 = 0) || decide ((hearM s (Rm l q) id b1 b2).f1 = 3) || decide ((hearM s (Rm l q) id b1 b2).f2 = 1000)) = true
  simp only [List.length_set]
  rw [hearM_low s (Rm l q) id b1 b2 e hb2]
  by_cases c1 : (Rm l q).f1 = 0
  ·rw [if_pos c1]
   by_cases c2 : b1 = 0
   ·rw [if_pos c2]; exact ⟨⟨q1.1, q1.2.1, e⟩, by simp [c2]⟩
   ·rw [if_neg c2]; exact ⟨⟨q1.1, q1.2.1, e0⟩, by simp [c1]⟩
  ·rw [if_neg c1]
   by_cases c2 : (Rm l q).f1 = 3
   ·rw [if_pos c2]; exact ⟨⟨q1.1, q1.2.1, e0⟩, by simp [c2]⟩
   ·omega
 ·rw [Rm_set_ne hp.1 q1.1 q1.2.1 c]
  exact ⟨⟨q1.1, by simpa using q1.2.1, q1.2.2⟩, q2⟩
theorem ins_keep (s : Int) (l : List MT) (r q : Int) (x : MT) (r0 : 0 ≤ r) (r1 : r ≤ l.length) (q1 : At l s q) (q2 : tailV (Rm l q) = true) :
  ∃ r', At (insV l r.toNat x) s r' ∧ tailV (Rm (insV l r.toNat x) r') = true := by
 have hn := insV_len l r.toNat x (by omega)
 unfold At at q1
 by_cases c : q < r
 ·refine ⟨q, ?_⟩
  unfold At
  rw [Rm_ins_lt r1 q1.1 c]
  exact ⟨⟨q1.1, by omega, q1.2.2⟩, q2⟩
 ·refine ⟨q + 1, ?_⟩
  unfold At
  rw [Rm_ins_gt r0 r1 (by omega) (by omega), show q + 1 - 1 = q by omega]
  exact ⟨⟨by omega, by omega, q1.2.2⟩, q2⟩
/-- One saying: the same answer, and a valid list again. -/
theorem say0_ev (s : Int) (l : List MT) (hl : l.length ≤ 1048576) (hC : Chk l) (id b1 b2 : Int) (hm : memB id b1 b2 = true) :
  ∃ (c : Bool) (l' : List MT), Chk l' ∧ l'.length ≤ l.length + 1 ∧ (b2 < 1000 → ∀ r, At l s r → tailV (Rm l r) = true → ∃ r', At l' s r' ∧ tailV (Rm l' r') = true) ∧ Ev (fun k => spec_l10say.f k s l id b1 b2) (c, s, l') := by
 obtain ⟨r, hr, hp⟩ := specFind_ev l hl s id
 obtain ⟨r2, b, hr2, r0, r1, ra, rb, hp2⟩ := member_ev l hl hC s id
 unfold spec_l10say.f
 rcases hp with hp | ⟨rfl, hp⟩
 ·rcases hp2 with ⟨rfl, hp2⟩ | ⟨rfl, hp2⟩
  ·have e := hC.uniq hp.1 hp.2.1 hp2.1 hp2.2.1 (hp.2.2.trans hp2.2.2.symm)
   subst e
   have g1 : ¬ r < 0 := by have := hp.1; omega
   have hbe : beatV id b1 b2 (rd_T40 l r).f0 (rd_T40 l r).f1 (rd_T40 l r).f2 = beatV id b1 b2 (Rm l r).f0 (Rm l r).f1 (Rm l r).f2 := rfl
   cases hv : beatV id b1 b2 (rd_T40 l r).f0 (rd_T40 l r).f1 (rd_T40 l r).f2 with
   | false =>
    refine ⟨false, l, hC, by omega, fun _ r h1 h2 => ⟨r, h1, h2⟩, ?_⟩
    ·refine Ev.bind hr ?_
     simp only [if_neg g1, if_pos hp.1, if_pos hp.2.1, specBeats_eq, hv, Option.bind_some, Bool.false_eq_true, if_false]
     exact Ev.now _
   | true =>
    have hh := hearM_mem s (Rm l r) id b1 b2 (hC.mem hp.1 hp.2.1) hm hp.2.2
    refine ⟨true, l.set r.toNat (hearM s (rd_T40 l r) id b1 b2), hC.set_ hp.1 hp.2.1 _ hh.1 hh.2, by simp, fun hb2 q q1 q2 => hear_keep s l r q id b1 b2 hC hp q1 q2 hb2 hv, ?_⟩
    ·refine Ev.bind hr ?_
     simp only [if_neg g1, if_pos hp.1, if_pos hp.2.1, specBeats_eq, hv, Option.bind_some, if_true]
     by_cases c1 : id = s
     ·by_cases c2 : (rd_T40 l r).f1 = 0
      ·have c2' : ¬ (rd_T40 l r).f1 = 3 := by omega
       by_cases c3 : b1 = 0
       ·simp only [if_pos c1, if_pos c2, if_pos c3]
        refine evPos ?_
        simp only [spec_l10say.j1, Bool.false_eq_true, if_false, if_pos c1, if_pos hp.1, if_pos hp.2.1, if_neg c2', hearM, if_pos c2, if_pos c3, ite_self]
        exact Ev.now _
       ·simp only [if_pos c1, if_pos c2, if_neg c3]
        refine evPos ?_
        by_cases c4 : b2 < 1000
        ·simp only [spec_l10say.j1, c4, decide_true, if_true, if_pos c1, if_pos hp.1, if_pos hp.2.1, hearM, if_pos c2, if_neg c3]
         exact Ev.now _
        ·simp only [spec_l10say.j1, c4, decide_false, Bool.false_eq_true, if_false, if_pos c1, if_pos hp.1, if_pos hp.2.1, if_neg c2', hearM]
         exact Ev.now _
      ·simp only [if_pos c1, if_neg c2]
       refine evPos ?_
       by_cases c3 : (rd_T40 l r).f1 = 3
       ·by_cases c4 : b2 < 1000
        ·simp only [spec_l10say.j1, Bool.false_eq_true, if_false, if_pos c1, if_pos hp.1, if_pos hp.2.1, if_pos c3, if_pos c4, hearM, if_neg c2]
         exact Ev.now _
        ·simp only [spec_l10say.j1, Bool.false_eq_true, if_false, if_pos c1, if_pos hp.1, if_pos hp.2.1, if_pos c3, if_neg c4, hearM]
         exact Ev.now _
       ·simp only [spec_l10say.j1, Bool.false_eq_true, if_false, if_pos c1, if_pos hp.1, if_pos hp.2.1, if_neg c3, hearM, if_neg c2, ite_self]
        exact Ev.now _
     ·simp only [if_neg c1]
      refine evPos ?_
      simp only [spec_l10say.j1, Bool.false_eq_true, if_false, if_neg c1, if_pos hp.1, if_pos hp.2.1, hearM]
      exact Ev.now _
  ·exact absurd hp.2.2 (hp2 r hp.1 hp.2.1)
 ·rcases hp2 with ⟨rfl, hp2⟩ | ⟨rfl, hp2⟩
  ·exact absurd hp2.2.2 (hp r2 hp2.1 hp2.2.1)
  ·have g1 : (-1 : Int) < 0 := by omega
   have hb' : ∀ j : Int, r2 ≤ j → j < l.length → id < (Rm l j).f0 := fun j j0 j1 => by
    have a := rb j j0 j1
    have b := hp2 j (by omega) j1
    omega
   refine ⟨true, insV l r2.toNat (⟨id, b1, b2⟩ : MT), hC.ins r0 r1 _ hm ra hb', by rw [insV_len _ _ _ (by omega)]; omega, fun _ q q1 q2 => ins_keep s l r2 q _ r0 r1 q1 q2, ?_⟩
   ·refine Ev.bind hr ?_
    simp only [if_pos g1]
    exact say_loop l hl s id b1 b2 r2 r1 ra (fun j j0 j1 => by have := hb' j j0 j1; omega) r2.toNat 0 (by omega) r0 (by omega)
/-- A valid table stays valid: so many members at most are there. -/
theorem Chk.len {l : List MT} (h : Chk l) : l.length ≤ 12 := by
 rcases Nat.lt_or_ge 12 l.length with c | c
 ·have g : ∀ d : Nat, (d : Int) < l.length → (d : Int) ≤ (Rm l d).f0 := by
   intro d
   induction d with
   | zero =>
    intro hd
    have := h.mem (i := 0) (by omega) (by omega)
    simp only [memB, Bool.and_eq_true, decide_eq_true_eq] at this
    exact this.1.1.1
   | succ d ih =>
    intro hd
    have h1 := ih (by omega)
    have h2 := h.lt (a := (d : Int)) (b := ((d + 1 : Nat) : Int)) (by omega) (by omega) hd
    omega
  have h1 := g 12 (by omega)
  have h2 := h.mem (i := 12) (by omega) (by omega)
  simp only [memB, Bool.and_eq_true, decide_eq_true_eq] at h2
  have h3 : ((12 : Nat) : Int) = 12 := rfl
  rw [h3] at h1
  omega
 ·exact c
theorem TabP.say0 {s : Int} {l : List MT} (h : TabP s l) (id b1 b2 : Int) (hm : memB id b1 b2 = true) (hb : b2 < 1000) : ∃ (c : Bool) (l' : List MT), TabP s l' ∧ Ev (fun k => spec_l10say.f k s l id b1 b2) (c, s, l') := by
 obtain ⟨h12, hC, r, hr, ht⟩ := h
 obtain ⟨c, l', hC', _, hk, he⟩ := say0_ev s l (by omega) hC id b1 b2 hm
 exact ⟨c, l', ⟨hC'.len, hC', hk hb r hr ht⟩, he⟩
def liveF (l : List MT) : List Int := (l.filter fun m => decide (m.f1 ≤ 1)).map fun m => m.f0
theorem liveF_drop {l : List MT} {i : Int} (h0 : 0 ≤ i) (h : i < (l.length : Int)) : liveF (l.drop i.toNat) = (if (Rm l i).f1 ≤ 1 then [(Rm l i).f0] else []) ++ liveF (l.drop (i + 1).toNat) := by
 have e : (i + 1).toNat = i.toNat + 1 := by omega
 rw [e, List.drop_eq_getElem_cons (by omega), ← Rm_get h0 h]
 unfold liveF
 by_cases c : (Rm l i).f1 ≤ 1 <;> simp [c]
theorem implLive_loop (s : Int) (l : List MT) (hl : l.length ≤ 12) (hC : Chk l) (d : Nat) : ∀ (x : List Int) (i : Int), 0 ≤ i → i ≤ l.length → (l.length : Int) - i = d → x.length ≤ i.toNat →
  Ev (fun k => impl_Table_live.l0 k x l (l.length : Int) i) (x ++ liveF (l.drop i.toNat)) := by
 induction d with
 | zero =>
  intro x i h0 h1 hd hx
  have hge : ¬ i < (l.length : Int) := by omega
  refine evPos ?_
  simp only [impl_Table_live.l0, if_neg hge]
  refine evConst ?_
  rw [List.drop_eq_nil_of_le (by omega)]
  simp [liveF]
 | succ d ih =>
  intro x i h0 h1 hd hx
  have hlt : i < (l.length : Int) := by omega
  have hw : wrap64 (i + 1) = i + 1 := wrap_up h0 hlt (by omega)
  have hm := hC.mem h0 hlt
  simp only [memB, Bool.and_eq_true, decide_eq_true_eq] at hm
  have p0 : 0 ≤ (Rm l i).f1 := hm.1.2.1
  have g : x.length < 17592186044416 := by omega
  refine evPos ?_
  rw [liveF_drop h0 hlt]
  by_cases c : (Rm l i).f1 ≤ 1
  ·refine evVal (r := (x ++ [(Rm l i).f0]) ++ liveF (l.drop (i + 1).toNat)) ?_ (by rw [if_pos c, List.append_assoc])
   have e2 := ih (x ++ [(Rm l i).f0]) (i + 1) (by omega) (by omega) (by omega) (by simp; omega)
   by_cases c0 : (rd_T40 l i).f1 = 0
   ·simp only [impl_Table_live.l0, if_pos hlt, if_pos h0, if_pos c0, if_pos g, hw]; exact e2
   ·have c1 : (rd_T40 l i).f1 = 1 := by
     have q0 : ¬ (Rm l i).f1 = 0 := c0
     have : (Rm l i).f1 = 1 := by omega
     exact this
    simp only [impl_Table_live.l0, if_pos hlt, if_pos h0, if_neg c0, if_pos c1, if_pos g, hw]; exact e2
  ·refine evVal (r := x ++ liveF (l.drop (i + 1).toNat)) ?_ (by rw [if_neg c, List.nil_append])
   have c0 : ¬ (rd_T40 l i).f1 = 0 := fun z => c (by have : (Rm l i).f1 = 0 := z; omega)
   have c1 : ¬ (rd_T40 l i).f1 = 1 := fun z => c (by have : (Rm l i).f1 = 1 := z; omega)
   simp only [impl_Table_live.l0, if_pos hlt, if_pos h0, if_neg c0, if_neg c1, hw]
   exact ih x (i + 1) (by omega) (by omega) (by omega) (by omega)
theorem implLive_ev (s : Int) (l : List MT) (hT : TabP s l) : Ev (fun k => impl_Table_live.f k s l) (liveF l) := by
 obtain ⟨h12, hC, _⟩ := hT
 unfold impl_Table_live.f
 have := implLive_loop s l h12 hC l.length [] 0 (by omega) (by omega) (by omega) (by simp)
 simpa using this
theorem live_mem {l : List MT} {y : Int} (h : y ∈ liveF l) : ∃ r : Int, At l y r ∧ (Rm l r).f1 ≤ 1 := by
 unfold liveF at h
 obtain ⟨m, hm, rfl⟩ := List.mem_map.1 h
 obtain ⟨h1, h2⟩ := List.mem_filter.1 hm
 obtain ⟨i, hi, rfl⟩ := List.mem_iff_getElem.1 h1
 refine ⟨(i : Int), ?_⟩
 have e : Rm l (i : Int) = l[i] := by rw [Rm_get (by omega) (by omega)]; rfl
 unfold At
 rw [e]
 exact ⟨⟨by omega, by omega, rfl⟩, of_decide_eq_true h2⟩
theorem live_range {l : List MT} (hC : Chk l) {y : Int} (h : y ∈ liveF l) : 0 ≤ y ∧ y ≤ 11 := by
 obtain ⟨r, hr, _⟩ := live_mem h
 have := hC.mem hr.1 hr.2.1
 simp only [memB, Bool.and_eq_true, decide_eq_true_eq] at this
 rw [← hr.2.2]
 exact this.1.1
theorem live_nodup {l : List MT} (hC : Chk l) : (liveF l).Nodup := by
 have hp : (l.map fun m => m.f0).Pairwise (· < ·) := by
  rw [List.pairwise_iff_getElem]
  intro i j hi hj hij
  rw [List.length_map] at hi hj
  have := hC.lt (a := (i : Int)) (b := (j : Int)) (by omega) (by omega) (by omega)
  rw [Rm_get (by omega) (by omega), Rm_get (by omega) (by omega)] at this
  simpa using this
 have hs : (liveF l).Sublist (l.map fun m => m.f0) := List.Sublist.map _ List.filter_sublist
 exact (hp.sublist hs).imp (fun h => by omega)
theorem member_some (b : List Int) (i h : Int) (hb : b.length ≤ 140737488355328) (hi : Ok b i) :
  ∃ x y z i' h', spec_l10member.f b i h = some (x, y, z, i', h') ∧ memB x y z = true ∧ z < 1000 ∧ Ok b i' := by
 obtain ⟨x, i1, h1, e1, x0, x1, hi1⟩ := below_some b i h 6 hb hi (by omega) (by omega)
 obtain ⟨y, i2, h2, e2, y0, y1, hi2⟩ := below_some b i1 h1 4 hb hi1 (by omega) (by omega)
 obtain ⟨z, i3, h3, e3, z0, z1, hi3⟩ := below_some b i2 h2 4 hb hi2 (by omega) (by omega)
 refine ⟨x, y, z, i3, h3, ?_, ?_, by omega, hi3⟩
 ·unfold spec_l10member.f
  simp only [e1, e2, e3, Option.bind_some]
 ·simp only [memB, Bool.and_eq_true, decide_eq_true_eq]
  omega
theorem own_eq (s : Int) (l : List MT) (hl : l.length ≤ 1048576) : spec_l10own.f s l = some (s, l) := by
 unfold spec_l10own.f
 have g : ([] : List (S40)).length + l.length < 5864062014805 := by simp; omega
 simp only [Option.bind_some, if_pos g, List.nil_append]
theorem leave_ev (s : Int) (l : List MT) (hT : TabP s l) : ∃ l' c, TabP s l' ∧ Ev (fun k => spec_Leave.f k s l) (s, l', c) := by
 obtain ⟨b, e1, _, hb⟩ := tableOk_ev s l (by have := hT.1; omega)
 obtain rfl : b = true := hb.mpr hT
 obtain ⟨h12, hC, q, hq, ht⟩ := hT
 obtain ⟨r, hr, hp⟩ := specFind_ev l (by omega) s s
 rcases hp with hp | ⟨rfl, hp⟩
 ·unfold spec_Leave.f
  by_cases c : (rd_T40 l r).f1 = 3
  ·refine ⟨l, false, ⟨h12, hC, q, hq, ht⟩, Ev.bind e1 ?_⟩
   simp only [if_true, own_eq s l (by omega), Option.bind_some]
   refine Ev.bind hr ?_
   simp only [if_pos hp.1, if_pos hp.2.1, if_pos c]
   exact Ev.now _
  ·refine ⟨l.set r.toNat ⟨(rd_T40 l r).f0, 3, (rd_T40 l r).f2⟩, true, ?_, Ev.bind e1 ?_⟩
   ·have hm := hC.mem hp.1 hp.2.1
    refine ⟨by simpa using h12, hC.set_ hp.1 hp.2.1 _ ?_ rfl, r, ?_, ?_⟩
    ·simp only [memB, Bool.and_eq_true, decide_eq_true_eq] at hm ⊢
     have e0 : (rd_T40 l r).f0 = (Rm l r).f0 := rfl
     have e2 : (rd_T40 l r).f2 = (Rm l r).f2 := rfl
     rw [e0, e2]
     omega
    ·exact ⟨hp.1, by simpa using hp.2.1, by rw [Rm_set_eq hp.1 hp.2.1]; exact hp.2.2⟩
    ·rw [Rm_set_eq hp.1 hp.2.1]; simp [tailV]
   ·simp only [if_true, own_eq s l (by omega), Option.bind_some]
    refine Ev.bind hr ?_
    simp only [if_pos hp.1, if_pos hp.2.1, if_neg c]
    exact Ev.now _
 ·exact absurd hq.2.2 (hp q hq.1 hq.2.1)
theorem table_loop (b : List Int) (hb : b.length ≤ 140737488355328) (s : Int) (d : Nat) : ∀ (n x6 i h : Int) (l : List MT), 0 ≤ x6 → n - x6 = d → n ≤ 8 → Ok b i → TabP s l →
  ∃ l' i' h', Ev (fun k => spec_l10table.l0 k n x6 b i h s l) (s, l', i', h') ∧ TabP s l' ∧ Ok b i' := by
 induction d with
 | zero =>
  intro n x6 i h l h0 hd hn hi hT
  have hge : ¬ x6 < n := by omega
  obtain ⟨x, i2, h2, e2, hi2⟩ := once_some b i h 8 hb hi (by omega) (by omega)
  cases x with
  | false =>
   refine ⟨l, i2, h2, evPos ?_, hT, hi2⟩
   simp only [spec_l10table.l0, if_neg hge, e2, Option.bind_some, Bool.false_eq_true, if_false]
   exact Ev.now _
  | true =>
   obtain ⟨l', c, hT', he⟩ := leave_ev s l hT
   refine ⟨l', i2, h2, evPos ?_, hT', hi2⟩
   simp only [spec_l10table.l0, if_neg hge, e2, Option.bind_some, if_true]
   exact Ev.bind he (Ev.now _)
 | succ d ih =>
  intro n x6 i h l h0 hd hn hi hT
  have hlt : x6 < n := by omega
  have hw : wrap64 (x6 + 1) = x6 + 1 := by unfold wrap64; omega
  obtain ⟨x, y, z, i2, h2, e2, hm, hz, hi2⟩ := member_some b i h hb hi
  obtain ⟨c, l', hT', he⟩ := hT.say0 x y z hm hz
  obtain ⟨l2, i3, h3, e3, hT2, hi3⟩ := ih n (x6 + 1) i2 h2 l' (by omega) (by omega) hn hi2 hT'
  refine ⟨l2, i3, h3, evPos ?_, hT2, hi3⟩
  simp only [spec_l10table.l0, if_pos hlt, e2, Option.bind_some, hw]
  exact Ev.bind he e3
theorem table_ev (b : List Int) (hb : b.length ≤ 140737488355328) (i h : Int) (hi : Ok b i) : ∃ s l i' h', Ev (fun k => spec_l10table.f k b i h) (s, l, i', h') ∧ TabP s l ∧ Ok b i' := by
 obtain ⟨x, i1, h1, e1, x0, x1, hi1⟩ := below_some b i h 6 hb hi (by omega) (by omega)
 obtain ⟨y, i2, h2, e2, y0, y1, hi2⟩ := below_some b i1 h1 8 hb hi1 (by omega) (by omega)
 have hT : TabP x [(⟨x, 0, 0⟩ : MT)] := by
  refine ⟨by simp, ?_, 0, ⟨by omega, by simp, rfl⟩, rfl⟩
  refine Chk.mk' (fun j j0 j1 => ?_) (fun j j0 j1 => ?_)
  ·have : j = 0 := by simp at j1; omega
   subst this
   show memB x 0 0 = true
   simp only [memB, Bool.and_eq_true, decide_eq_true_eq]
   omega
  ·simp at j1; omega
 obtain ⟨l', i3, h3, e3, hT', hi3⟩ := table_loop b hb x y.toNat y 0 i2 h2 _ (by omega) (by omega) (by omega) hi2 hT
 refine ⟨x, l', i3, h3, ?_, hT', hi3⟩
 unfold spec_l10table.f spec_TableNew.f
 have g1 : ¬ x < 0 := by omega
 have g2 : ¬ x ≥ 12 := by omega
 simp only [e1, e2, Option.bind_some, if_neg g1, if_neg g2]
 exact e3
theorem bent_ev (b : List Int) (hb : b.length ≤ 140737488355328) (i h : Int) (hi : Ok b i) : ∃ s l i' h', Ev (fun k => spec_l10bent.f k b i h) (s, l, i', h') ∧ l.length ≤ 13 ∧ Ok b i' := by
 obtain ⟨s, l, i1, h1, e1, hT, hi1⟩ := table_ev b hb i h hi
 obtain ⟨x, i2, h2, e2, hi2⟩ := once_some b i1 h1 7 hb hi1 (by omega) (by omega)
 have h12 := hT.1
 have hpos : 0 < (l.length : Int) := by
  obtain ⟨r, hr, _⟩ := hT.2.2
  have := hr.1; have := hr.2.1; omega
 unfold spec_l10bent.f
 cases x with
 | false =>
  refine ⟨s, l, i2, h2, Ev.bind e1 ?_, by omega, hi2⟩
  simp only [e2, Option.bind_some, Bool.false_eq_true, if_false]
  exact Ev.now _
 | true =>
  obtain ⟨y, i3, h3, e3, y0, y1, hi3⟩ := below_some b i2 h2 5 hb hi2 (by omega) (by omega)
  by_cases c0 : y = 0
  ·obtain ⟨z, i4, h4, e4, hi4⟩ := pick_some b i3 h3 [(-1), 11, 12] hb hi3 (by simp) (by simp)
   refine ⟨z, l, i4, h4, Ev.bind e1 ?_, by omega, hi4⟩
   simp only [e2, e3, e4, Option.bind_some, if_true, if_pos c0]
   exact Ev.now _
  by_cases c1 : y = 1
  ·obtain ⟨p, q, r, i4, h4, e4, _, _, hi4⟩ := member_some b i3 h3 hb hi3
   have g : l.length < 5864062014805 := by omega
   refine ⟨s, l ++ [⟨p, q, r⟩], i4, h4, Ev.bind e1 ?_, by simp; omega, hi4⟩
   simp only [e2, e3, e4, Option.bind_some, if_true, if_neg c0, if_pos c1, if_pos g]
   exact Ev.now _
  by_cases c2 : y = 2
  ·obtain ⟨z, i4, h4, e4, hi4⟩ := pick_some b i3 h3 [(-1), 1, 4] hb hi3 (by simp) (by simp)
   refine ⟨s, l.set (0 : Int).toNat ⟨(rd_T40 l 0).f0, z, (rd_T40 l 0).f2⟩, i4, h4, Ev.bind e1 ?_, by simp; omega, hi4⟩
   simp only [e2, e3, e4, Option.bind_some, if_true, if_neg c0, if_neg c1, if_pos c2, if_pos hpos]
   exact Ev.now _
  by_cases c3 : y = 3
  ·obtain ⟨z, i4, h4, e4, hi4⟩ := pick_some b i3 h3 [(-1), 1000, 1001] hb hi3 (by simp) (by simp)
   refine ⟨s, l.set (0 : Int).toNat ⟨(rd_T40 l 0).f0, (rd_T40 l 0).f1, z⟩, i4, h4, Ev.bind e1 ?_, by simp; omega, hi4⟩
   simp only [e2, e3, e4, Option.bind_some, if_true, if_neg c0, if_neg c1, if_neg c2, if_pos c3, if_pos hpos]
   exact Ev.now _
  ·have g : 1 ≤ (l.length : Int) := by omega
   refine ⟨s, l.drop (1 : Int).toNat, i3, h3, Ev.bind e1 ?_, by simp; omega, hi3⟩
   simp only [e2, e3, Option.bind_some, if_true, if_neg c0, if_neg c1, if_neg c2, if_neg c3, if_pos g]
   exact Ev.now _
theorem hasS_loop (l : List Int) (a : Int) (hl : l.length ≤ 1048576) (d : Nat) : ∀ (i : Int), 0 ≤ i → i ≤ l.length → (l.length : Int) - i = d → ∃ c, Ev (fun k => spec_l11has.l0 k l a i) c := by
 induction d with
 | zero =>
  intro i h0 h1 hd
  have hge : ¬ i < (l.length : Int) := by omega
  refine ⟨false, evPos ?_⟩
  simp only [spec_l11has.l0, if_neg hge]; exact Ev.now _
 | succ d ih =>
  intro i h0 h1 hd
  have hlt : i < (l.length : Int) := by omega
  have hw : wrap64 (i + 1) = i + 1 := wrap_up h0 hlt (by omega)
  by_cases c : rd l i = a
  ·refine ⟨true, evPos ?_⟩
   simp only [spec_l11has.l0, if_pos hlt, if_pos h0, if_pos c]; exact Ev.now _
  ·obtain ⟨c2, e⟩ := ih (i + 1) (by omega) (by omega) (by omega)
   refine ⟨c2, evPos ?_⟩
   simp only [spec_l11has.l0, if_pos hlt, if_pos h0, if_neg c, hw]; exact e
theorem hasS (l : List Int) (a : Int) (hl : l.length ≤ 1048576) : ∃ c, Ev (fun k => spec_l11has.f k l a) c := hasS_loop l a hl l.length 0 (by omega) (by omega) (by omega)
theorem liveS_loop (s : Int) (l : List MT) (hl : l.length ≤ 12) (d : Nat) : ∀ (x : List Int) (i : Int), 0 ≤ i → i ≤ l.length → (l.length : Int) - i = d → x.length ≤ i.toNat →
  ∃ r, Ev (fun k => spec_Live.l0 k x i s l) r ∧ r.length ≤ 12 := by
 induction d with
 | zero =>
  intro x i h0 h1 hd hx
  have hge : ¬ i < (l.length : Int) := by omega
  refine ⟨x, evPos ?_, by omega⟩
  simp only [spec_Live.l0, if_neg hge]; exact Ev.now _
 | succ d ih =>
  intro x i h0 h1 hd hx
  have hlt : i < (l.length : Int) := by omega
  have hw : wrap64 (i + 1) = i + 1 := wrap_up h0 hlt (by omega)
  have g : x.length < 17592186044416 := by omega
  by_cases c : (rd_T40 l i).f1 ≤ 1
  ·obtain ⟨r, e, hr⟩ := ih (x ++ [(rd_T40 l i).f0]) (i + 1) (by omega) (by omega) (by omega) (by simp; omega)
   refine ⟨r, evPos ?_, hr⟩
   simp only [spec_Live.l0, if_pos hlt, if_pos h0, if_pos c, if_pos g, hw]; exact e
  ·obtain ⟨r, e, hr⟩ := ih x (i + 1) (by omega) (by omega) (by omega) (by omega)
   refine ⟨r, evPos ?_, hr⟩
   simp only [spec_Live.l0, if_pos hlt, if_pos h0, if_neg c, hw]; exact e
theorem othersS_loop (s : Int) (l : List MT) (t : List Int) (ht : t.length ≤ 12) (d : Nat) : ∀ (x : List Int) (i : Int), 0 ≤ i → i ≤ t.length → (t.length : Int) - i = d → x.length ≤ i.toNat →
  ∃ r, Ev (fun k => spec_l11others.l0 k x t i s l) r ∧ r.length ≤ 12 := by
 induction d with
 | zero =>
  intro x i h0 h1 hd hx
  have hge : ¬ i < (t.length : Int) := by omega
  refine ⟨x, evPos ?_, by omega⟩
  simp only [spec_l11others.l0, if_neg hge]; exact Ev.now _
 | succ d ih =>
  intro x i h0 h1 hd hx
  have hlt : i < (t.length : Int) := by omega
  have hw : wrap64 (i + 1) = i + 1 := wrap_up h0 hlt (by omega)
  have g : x.length < 17592186044416 := by omega
  by_cases c : rd t i = s
  ·obtain ⟨r, e, hr⟩ := ih x (i + 1) (by omega) (by omega) (by omega) (by omega)
   refine ⟨r, evPos ?_, hr⟩
   simp only [spec_l11others.l0, if_pos hlt, if_pos h0, if_pos c, hw]; exact e
  ·obtain ⟨r, e, hr⟩ := ih (x ++ [rd t i]) (i + 1) (by omega) (by omega) (by omega) (by simp; omega)
   refine ⟨r, evPos ?_, hr⟩
   simp only [spec_l11others.l0, if_pos hlt, if_pos h0, if_neg c, if_pos g, hw]; exact e
theorem othersS (s : Int) (l : List MT) (hl : l.length ≤ 13) : ∃ r, Ev (fun k => spec_l11others.f k s l) r ∧ r.length ≤ 12 := by
 obtain ⟨b, e1, _, hb⟩ := tableOk_ev s l (by omega)
 have hL : ∃ t, Ev (fun k => spec_Live.f k s l) t ∧ t.length ≤ 12 := by
  unfold spec_Live.f
  cases b with
  | false =>
   refine ⟨[], Ev.bind e1 ?_, by simp⟩
   simp only [Bool.false_eq_true, if_false]; exact Ev.now _
  | true =>
   obtain ⟨r, e, hr⟩ := liveS_loop s l (hb.mp rfl).1 l.length [] 0 (by omega) (by omega) (by omega) (by simp)
   refine ⟨r, Ev.bind e1 ?_, hr⟩
   simp only [if_true]; exact e
 obtain ⟨t, et, ht⟩ := hL
 obtain ⟨r, e, hr⟩ := othersS_loop s l t ht t.length [] 0 (by omega) (by omega) (by omega) (by simp)
 exact ⟨r, Ev.bind et e, hr⟩
/-- What holds of a drawn prober's order, place and seed. -/
def PI (ord : List Int) (nx s : Int) : Prop := ord.length ≤ 12 ∧ 0 ≤ nx ∧ nx ≤ ord.length ∧ 0 ≤ s ∧ s ≤ 2147483647
theorem scanS (o ord : List Int) (ho : o.length ≤ 12) (t s c d e : Int) (n : Nat) : ∀ i : Int, PI ord i s → (ord.length : Int) - i = n →
  (∃ id i', PI ord i' s ∧ Ev (fun k => spec_l11next.l1 k o t ord i s c d e) (id, ord, i', s, c, d, e)) ∨
  (∀ R, Ev (fun k => (spec_l11shuffle.f k o s).bind fun b => (spec_l11next.l0 k o (wrap64 (t + 1)) b.1 0 b.2 c d e)) R → Ev (fun k => spec_l11next.l1 k o t ord i s c d e) R) := by
 induction n with
 | zero =>
  intro i hI hd
  have hge : ¬ i < (ord.length : Int) := by omega
  refine .inr fun R h => evPos ?_
  simp only [spec_l11next.l1, if_neg hge]; exact h
 | succ n ih =>
  intro i hI hd
  obtain ⟨p1, p2, p3, p4, p5⟩ := hI
  have hlt : i < (ord.length : Int) := by omega
  have hw : wrap64 (i + 1) = i + 1 := wrap_up p2 hlt (by omega)
  obtain ⟨b, hb⟩ := hasS o (rd ord i) (by omega)
  cases b with
  | true =>
   refine .inl ⟨rd ord i, i + 1, ⟨p1, by omega, by omega, p4, p5⟩, evPos ?_⟩
   simp only [spec_l11next.l1, if_pos hlt, if_pos p2, hw]
   refine Ev.bind hb ?_
   simp only [if_true]; exact Ev.now _
  | false =>
   have k1 : ∀ R, Ev (fun k => spec_l11next.l1 k o t ord (i + 1) s c d e) R → Ev (fun k => spec_l11next.l1 k o t ord i s c d e) R := fun R h => by
    refine evPos ?_
    simp only [spec_l11next.l1, if_pos hlt, if_pos p2, hw]
    refine Ev.bind hb ?_
    simp only [Bool.false_eq_true, if_false]; exact h
   rcases ih (i + 1) ⟨p1, by omega, by omega, p4, p5⟩ (by omega) with ⟨id, i', q1, q2⟩ | q
   ·exact .inl ⟨id, i', q1, k1 _ q2⟩
   ·exact .inr fun R h => k1 R (q R h)
theorem nextS (o ord : List Int) (ho : o.length ≤ 12) (nx s c d e : Int) (hI : PI ord nx s) :
  ∃ id ord' nx' s', PI ord' nx' s' ∧ Ev (fun k => spec_l11next.l0 k o 0 ord nx s c d e) (id, ord', nx', s', c, d, e) := by
 have w1 : wrap64 ((0 : Int) + 1) = 1 := by unfold wrap64; omega
 have w2 : wrap64 ((1 : Int) + 1) = 2 := by unfold wrap64; omega
 have up : ∀ (t : Int) (ord : List Int) (nx s : Int) R, t < 2 → Ev (fun k => spec_l11next.l1 k o t ord nx s c d e) R → Ev (fun k => spec_l11next.l0 k o t ord nx s c d e) R := fun t ord nx s R ht h => by
  refine evPos ?_
  simp only [spec_l11next.l0, if_pos ht]; exact h
 have sh := fun s => specl11shuffle_ev o s ho
 have hl : ∀ s, (shufF o s).1.length ≤ 12 := fun s => by rw [shufF_length]; exact ho
 rcases scanS o ord ho 0 s c d e (ord.length - nx.toNat) nx hI (by have := hI.2.1; have := hI.2.2.1; omega) with ⟨id, i', q1, q2⟩ | q
 ·exact ⟨id, ord, i', s, q1, up _ _ _ _ _ (by omega) q2⟩
 ·have hs := shufF_seed o s hI.2.2.2.1 hI.2.2.2.2
  have hI1 : PI (shufF o s).1 0 (shufF o s).2 := ⟨hl s, by omega, by omega, hs.1, hs.2⟩
  have fin : ∀ R, Ev (fun k => spec_l11next.l0 k o 1 (shufF o s).1 0 (shufF o s).2 c d e) R → Ev (fun k => spec_l11next.l0 k o 0 ord nx s c d e) R := fun R h => by
   refine up _ _ _ _ R (by omega) (q R (Ev.bind (sh s) ?_))
   rw [w1]; exact h
  rcases scanS o (shufF o s).1 ho 1 (shufF o s).2 c d e (shufF o s).1.length 0 hI1 (by omega) with ⟨id, i', q1, q2⟩ | q'
  ·exact ⟨id, _, i', _, q1, fin _ (up _ _ _ _ _ (by omega) q2)⟩
  ·have hs2 := shufF_seed o (shufF o s).2 hs.1 hs.2
   refine ⟨-1, (shufF o (shufF o s).2).1, 0, (shufF o (shufF o s).2).2, ⟨hl _, by omega, by omega, hs2.1, hs2.2⟩, fin _ (up _ _ _ _ _ (by omega) (q' _ (Ev.bind (sh _) ?_)))⟩
   rw [w2]
   refine evPos ?_
   have c2 : ¬ ((2 : Int) < 2) := by omega
   simp only [spec_l11next.l0, if_neg c2]
   exact Ev.now _
theorem tickS (s : Int) (l : List MT) (hl : l.length ≤ 13) (ord : List Int) (nx sd c d e : Int) (hI : PI ord nx sd) :
  ∃ a b ord' nx' sd' c' d' e', PI ord' nx' sd' ∧ Ev (fun k => spec_l11tick.f k ord nx sd c d e s l) (a, b, ord', nx', sd', c', d', e') := by
 unfold spec_l11tick.f
 by_cases h0 : c = 0
 ·obtain ⟨o, eo, ho⟩ := othersS s l hl
  obtain ⟨id, ord', nx', sd', hI', en⟩ := nextS o ord ho nx sd c d e hI
  have en2 : Ev (fun k => spec_l11next.f k ord nx sd c d e s l) (id, ord', nx', sd', c, d, e) := by
   unfold spec_l11next.f
   exact Ev.bind eo en
  simp only [if_pos h0]
  by_cases h1 : id < 0
  ·refine ⟨0, 0, ord', nx', sd', c, d, e, hI', Ev.bind en2 ?_⟩
   simp only [if_pos h1]; exact Ev.now _
  ·refine ⟨1, id, ord', nx', sd', 1, id, 0, hI', Ev.bind en2 ?_⟩
   simp only [if_neg h1]; exact Ev.now _
 ·simp only [if_neg h0]
  by_cases h1 : c = 1
  ·simp only [if_pos h1]
   by_cases h2 : wrap64 (e + 1) < 2
   ·exact ⟨0, 0, ord, nx, sd, c, d, wrap64 (e + 1), hI, by simp only [if_pos h2]; exact Ev.now _⟩
   ·exact ⟨2, d, ord, nx, sd, 2, d, 0, hI, by simp only [if_neg h2]; exact Ev.now _⟩
  ·simp only [if_neg h1]
   by_cases h2 : wrap64 (e + 1) < 4
   ·exact ⟨0, 0, ord, nx, sd, c, d, wrap64 (e + 1), hI, by simp only [if_pos h2]; exact Ev.now _⟩
   ·exact ⟨3, d, ord, nx, sd, 0, 0, 0, hI, by simp only [if_neg h2]; exact Ev.now _⟩
theorem drawP_loop (b : List Int) (i h s : Int) (l : List MT) (hl : l.length ≤ 13) (d : Nat) : ∀ (n x7 : Int) (ord : List Int) (nx sd c e f : Int), 0 ≤ x7 → n - x7 = d → n ≤ 9 → PI ord nx sd →
  ∃ ord' nx' sd' c' e' f', PI ord' nx' sd' ∧ Ev (fun k => spec_l11draw.l0 k n x7 b i h s l ord nx sd c e f) (ord', nx', sd', c', e', f', i, h) := by
 induction d with
 | zero =>
  intro n x7 ord nx sd c e f h0 hd hn hI
  have hge : ¬ x7 < n := by omega
  refine ⟨ord, nx, sd, c, e, f, hI, evPos ?_⟩
  simp only [spec_l11draw.l0, if_neg hge]; exact Ev.now _
 | succ d ih =>
  intro n x7 ord nx sd c e f h0 hd hn hI
  have hlt : x7 < n := by omega
  have hw : wrap64 (x7 + 1) = x7 + 1 := by unfold wrap64; omega
  obtain ⟨a1, b1, ord', nx', sd', c', e', f', hI', et⟩ := tickS s l hl ord nx sd c e f hI
  obtain ⟨o2, n2, s2, c2, e2, f2, hI2, el⟩ := ih n (x7 + 1) ord' nx' sd' c' e' f' (by omega) (by omega) hn hI'
  refine ⟨o2, n2, s2, c2, e2, f2, hI2, evPos ?_⟩
  simp only [spec_l11draw.l0, if_pos hlt, hw]
  exact Ev.bind et el
theorem below4_some (b : List Int) (i h n : Int) (hb : b.length ≤ 140737488355328) (hi : Ok b i) (hn0 : 256 < n) (hn : n ≤ 999) :
  ∃ x i' h', spec_l1Below.f b i h n = some (x, i', h') ∧ 0 ≤ x ∧ x < n ∧ Ok b i' := by
 obtain ⟨x, i1, h1, e1, x0, x1, hi1⟩ := byte_some b i h hb hi
 obtain ⟨y, i2, h2, e2, y0, y1, hi2⟩ := byte_some b i1 h1 hb hi1
 obtain ⟨z, i3, h3, e3, z0, z1, hi3⟩ := byte_some b i2 h2 hb hi2
 obtain ⟨v, i4, h4, e4, v0, v1, hi4⟩ := byte_some b i3 h3 hb hi3
 unfold spec_l1Below.f
 rw [if_neg (by omega), if_neg (by omega)]
 simp only [e1, e2, e3, e4, Option.bind_some]
 rw [if_neg (by omega)]
 have w : wrap64 ((wrap64 ((wrap64 ((wrap64 (x * 16777216)) + (wrap64 (y * 65536)))) + (wrap64 (z * 256)))) + v) = x * 16777216 + y * 65536 + z * 256 + v := by unfold wrap64; omega
 rw [w]
 have p : 0 ≤ x * 16777216 + y * 65536 + z * 256 + v := by omega
 refine ⟨_, _, _, rfl, ?_, ?_, hi4⟩
 ·rw [Int.tmod_eq_emod_of_nonneg p]; exact Int.emod_nonneg _ (by omega)
 ·rw [Int.tmod_eq_emod_of_nonneg p]; exact Int.emod_lt_of_pos _ (by omega)
theorem l11bent_some (b : List Int) (hb : b.length ≤ 140737488355328) (i h : Int) (hi : Ok b i) (l : List Int) (hl : l.length ≤ 12) (p q r s t : Int) : ∃ R, spec_l11bent.f b i h l p q r s t = some R := by
 unfold spec_l11bent.f
 obtain ⟨x, i2, h2, e2, hi2⟩ := once_some b i h 8 hb hi (by omega) (by omega)
 cases x with
 | false => simp only [e2, Option.bind_some, Bool.false_eq_true, if_false]; exact ⟨_, rfl⟩
 | true =>
  obtain ⟨y, i3, h3, e3, y0, y1, hi3⟩ := below_some b i2 h2 6 hb hi2 (by omega) (by omega)
  simp only [e2, e3, Option.bind_some, if_true]
  by_cases c0 : y = 0
  ·obtain ⟨z, i4, h4, e4, _⟩ := pick_some b i3 h3 [(-1), 0, 99] hb hi3 (by simp) (by simp)
   simp only [e4, Option.bind_some, if_pos c0]; exact ⟨_, rfl⟩
  by_cases c1 : y = 1
  ·obtain ⟨z, i4, h4, e4, _, _, _⟩ := below_some b i3 h3 14 hb hi3 (by omega) (by omega)
   have g : l.length < 17592186044416 := by omega
   simp only [e4, Option.bind_some, if_neg c0, if_pos c1, if_pos g]; exact ⟨_, rfl⟩
  by_cases c2 : y = 2
  ·obtain ⟨z, i4, h4, e4, _, _, _⟩ := below_some b i3 h3 5 hb hi3 (by omega) (by omega)
   simp only [e4, Option.bind_some, if_neg c0, if_neg c1, if_pos c2]; exact ⟨_, rfl⟩
  by_cases c3 : y = 3
  ·obtain ⟨z, i4, h4, e4, _⟩ := pick_some b i3 h3 [(-1), 3, 12] hb hi3 (by simp) (by simp)
   simp only [e4, Option.bind_some, if_neg c0, if_neg c1, if_neg c2, if_pos c3]; exact ⟨_, rfl⟩
  by_cases c4 : y = 4
  ·obtain ⟨z, i4, h4, e4, _⟩ := pick_some b i3 h3 [(-1), 1, 3, 4, 5] hb hi3 (by simp) (by simp)
   simp only [e4, Option.bind_some, if_neg c0, if_neg c1, if_neg c2, if_neg c3, if_pos c4]; exact ⟨_, rfl⟩
  ·obtain ⟨z, i4, h4, e4, _⟩ := pick_some b i3 h3 [(-1), 2147483647, 2147483648] hb hi3 (by simp) (by simp)
   simp only [e4, Option.bind_some, if_neg c0, if_neg c1, if_neg c2, if_neg c3, if_neg c4]; exact ⟨_, rfl⟩
theorem drawNext_ev (l0 : List Int) (hl : l0.length ≤ 140737488355328) : ∃ a b c d e f s l, Ev (fun k => spec_DrawNextProbe.f k l0) (a, b, c, d, e, f, s, l) ∧ (l : List MT).length ≤ 13 := by
 obtain ⟨h0, hN⟩ : ∃ h, Ev (fun k => spec_l1New.f k l0) (l0, 0, h) := by
  unfold spec_l1New.f
  obtain ⟨h', e⟩ := new_some l0 hl l0.length (l0.length + 1) (wrap64 (36565 + (l0.length : Int))) 0 (by omega) (by omega) (by omega) (by omega)
  exact ⟨h', Ev.of (fun k => spec_l1New.mono_l k _ _ _) e⟩
 obtain ⟨s, l, i1, h1, e1, hl1, hi1⟩ := bent_ev l0 hl 0 h0 ⟨by omega, by omega⟩
 obtain ⟨x, i2, h2, e2, x0, x1, hi2⟩ := below4_some l0 i1 h1 999 hl hi1 (by omega) (by omega)
 obtain ⟨n, i3, h3, e3, n0, n1, hi3⟩ := below_some l0 i2 h2 9 hl hi2 (by omega) (by omega)
 obtain ⟨o, p, q, r, t, u, hI, ed⟩ := drawP_loop l0 i3 h3 s l hl1 n.toNat n 0 [] 0 x 0 0 0 (by omega) (by omega) (by omega) ⟨by simp, by omega, by simp, by omega, by omega⟩
 have ed2 : Ev (fun k => spec_l11draw.f k l0 i1 h1 s l) (o, p, q, r, t, u, i3, h3) := by
  unfold spec_l11draw.f
  simp only [e2, e3, Option.bind_some]
  exact ed
 obtain ⟨⟨R0, R1, R2, R3, R4, R5, R6, R7⟩, eb⟩ := l11bent_some l0 hl i3 h3 hi3 o hI.1 p q r t u
 refine ⟨R0, R1, R2, R3, R4, R5, s, l, ?_, hl1⟩
 unfold spec_DrawNextProbe.f
 refine Ev.bind hN ?_
 refine Ev.bind e1 ?_
 refine Ev.bind ed2 ?_
 simp only [eb, Option.bind_some]
 exact Ev.now _
theorem implProberNew_eq (s : Int) (h0 : 0 ≤ s) (h1 : s ≤ 2147483647) : impl_ProberNew.f s = some ([], 0, s, 0, 0, 0, true) := by
 unfold impl_ProberNew.f
 simp [isSeed_eq, h0, h1]
theorem others_eq (s : Int) (l : List MT) (hT : TabP s l) : Ev (fun k => impl_Table_others.f k s l (-1)) ((liveF l).filter fun y => !(y == s)) := by
 unfold impl_Table_others.f
 refine Ev.bind (implLive_ev s l hT) ?_
 have hr : (liveF l).length ≤ 12 := by
  have h12 := hT.1
  unfold liveF
  rw [List.length_map]
  exact Nat.le_trans (List.length_filter_le _ _) h12
 have g : (liveF l).length < 4611686018427387904 := by omega
 simp only [if_pos g]
 refine evConst ?_
 congr 1
 refine List.filter_congr fun y hy => ?_
 unfold impl_Table_others_c.p
 have hp := (live_range hT.2.1 hy).1
 have h : (y == -1) = false := beq_eq_false_iff_ne.mpr (by omega)
 rw [h, Bool.or_false]
theorem fine_of {o q : List Int} (hp : q.Perm o) (hn : o.Nodup) (hr : ∀ y ∈ o, 0 ≤ y ∧ y ≤ 11) : fine q = true := by
 simp only [fine, Bool.and_eq_true, List.all_eq_true, decide_eq_true_eq]
 exact ⟨fun y hy => hr y (hp.subset hy), hp.nodup_iff.mpr hn⟩
theorem life_ev (s : Int) (l : List MT) (hT : TabP s l) (y : Int) (hy : y ∈ liveF l) : ∃ a b c, Ev (fun k => laws_life.f k s l y) (a, b, c) ∧ b ≤ 1 := by
 obtain ⟨t, _, e2, ht⟩ := tableOk_ev s l (by have := hT.1; omega)
 obtain rfl : t = true := ht.mpr hT
 obtain ⟨r, b, hr, _, _, _, _, hp⟩ := member_ev l (by have := hT.1; omega) hT.2.1 s y
 obtain ⟨q, hq, hq1⟩ := live_mem hy
 rcases hp with ⟨rfl, hp⟩ | ⟨rfl, hp⟩
 ·have e := hT.2.1.uniq hp.1 hp.2.1 hq.1 hq.2.1 (hp.2.2.trans hq.2.2.symm)
  subst e
  refine ⟨(Rm l r).f0, (Rm l r).f1, (Rm l r).f2, ?_, hq1⟩
  have hm : Ev (fun k => impl_MemberOf.f k s l y) ((Rm l r).f0, (Rm l r).f1, (Rm l r).f2, true) := by
   unfold impl_MemberOf.f
   refine Ev.bind e2 ?_
   simp only [if_true]
   refine Ev.bind hr ?_
   simp only [if_true, if_pos hp.1, if_pos hp.2.1]
   exact Ev.now _
  unfold laws_life.f
  refine Ev.bind hm ?_
  simp only [if_true]
  exact Ev.now _
 ·exact absurd hq.2.2 (hp q hq.1 hq.2.1)
theorem count_loop (s : Int) (l : List MT) (t : List Int) (ht : t.length ≤ 12) (p0 : List Int) (p1 p2 p3 p4 p5 : Int) (R : Bool) (hR : Ev (fun k => laws_FnRounds.l1 k ((t.filter fun y => !(y == s)).length : Int) [] 0 s l p0 p1 p2 p3 p4 p5) R) (d : Nat) :
  ∀ (i : Int), 0 ≤ i → i ≤ t.length → (t.length : Int) - i = d → Ev (fun k => laws_FnRounds.l0 k (((t.take i.toNat).filter fun y => !(y == s)).length : Int) t i s l p0 p1 p2 p3 p4 p5) R := by
 induction d with
 | zero =>
  intro i h0 h1 hd
  have hge : ¬ i < (t.length : Int) := by omega
  refine evPos ?_
  simp only [laws_FnRounds.l0, if_neg hge]
  rw [List.take_of_length_le (by omega)]
  exact hR
 | succ d ih =>
  intro i h0 h1 hd
  have hlt : i < (t.length : Int) := by omega
  have hw : wrap64 (i + 1) = i + 1 := wrap_up h0 hlt (by omega)
  have e : (i + 1).toNat = i.toNat + 1 := by omega
  have := ih (i + 1) (by omega) (by omega) (by omega)
  rw [e, List.take_succ_eq_append_getElem (by omega), List.filter_append, List.length_append, ← rd_lt h0 hlt] at this
  refine evPos ?_
  by_cases c : rd t i = s
  ·have hb : (rd t i == s) = true := beq_iff_eq.mpr c
   simp only [laws_FnRounds.l0, if_pos hlt, if_pos h0, if_pos c, hw]
   simpa [hb] using this
  ·have hb : (rd t i == s) = false := beq_eq_false_iff_ne.mpr c
   have hw2 : wrap64 ((((t.take i.toNat).filter fun y => !(y == s)).length : Int) + 1) = (((t.take i.toNat).filter fun y => !(y == s)).length : Int) + 1 := by
    have := List.length_filter_le (fun y => !(y == s)) (t.take i.toNat)
    have := List.length_take_le i.toNat t
    unfold wrap64; omega
   simp only [laws_FnRounds.l0, if_pos hlt, if_pos h0, if_neg c, hw, hw2]
   simpa [hb] using this
theorem seen_loop (n i id s : Int) (l : List MT) (x : List Int) (hx : x.length ≤ 12) (p0 : List Int) (p1 p2 p3 p4 p5 : Int) (hid : 0 ≤ id) (hs : id ≠ s) (hT : TabP s l) (hv : id ∈ liveF l) (hnx : id ∉ x) (hi0 : 0 ≤ i) (hi1 : i < 12)
  (hR : Ev (fun k => laws_FnRounds.l1 k n (x ++ [id]) (i + 1) s l p0 p1 p2 p3 p4 p5) true) (d : Nat) :
  ∀ (j : Int), 0 ≤ j → j ≤ x.length → (x.length : Int) - j = d → Ev (fun k => laws_FnRounds.l2 k n x i id j s l p0 p1 p2 p3 p4 p5) true := by
 induction d with
 | zero =>
  intro j h0 h1 hd
  have hge : ¬ j < (x.length : Int) := by omega
  have g1 : ¬ id < 0 := by omega
  have g2 : x.length < 17592186044416 := by omega
  have hw : wrap64 (i + 1) = i + 1 := by unfold wrap64; omega
  obtain ⟨a, b, c, el, hb⟩ := life_ev s l hT id hv
  have g3 : ¬ b > 1 := by omega
  refine evPos ?_
  simp only [laws_FnRounds.l2, if_neg hge, if_neg g1, if_neg hs]
  refine Ev.bind el ?_
  simp only [if_neg g3, if_pos g2, hw]
  exact hR
 | succ d ih =>
  intro j h0 h1 hd
  have hlt : j < (x.length : Int) := by omega
  have hw : wrap64 (j + 1) = j + 1 := wrap_up h0 hlt (by omega)
  have hne : ¬ rd x j = id := fun z => hnx (by rw [← z, rd_lt h0 hlt]; exact List.getElem_mem _)
  refine evPos ?_
  simp only [laws_FnRounds.l2, if_pos hlt, if_pos h0, if_neg hne, hw]
  exact ih (j + 1) (by omega) (by omega) (by omega)
/-- One call in the round, from the second on. -/
theorem next_found (s : Int) (l : List MT) (hT : TabP s l) (q : List Int) (o : List Int) (ho : o = (liveF l).filter fun y => !(y == s)) (hq : q.Perm o) (hf : fine q = true) (i sd : Int) (hi0 : 0 ≤ i) (hi1 : i < (q.length : Int)) (s0 : 0 ≤ sd) (s1 : sd ≤ 2147483647) :
  Ev (fun k => impl_NextProbe.f k q i sd 0 0 0 s l) (q, i + 1, sd, 0, 0, 0, rd q i) := by
 have h12 := fine_length hf
 have hP : probB q i sd 0 0 0 = true := by
  simp only [probB, hf, tailB, Bool.true_and, Bool.and_eq_true, decide_eq_true_eq]
  simp; omega
 have p := implProberOk_ev q i sd 0 0 0 (by omega)
 rw [hP] at p
 obtain ⟨t, _, e2, ht⟩ := tableOk_ev s l (by have := hT.1; omega)
 obtain rfl : t = true := ht.mpr hT
 have hoe := others_eq s l hT
 rw [← ho] at hoe
 have hol : o.length ≤ 12 := by rw [← hq.length_eq]; exact h12
 have hc := Contains_ev o (rd q i) (by omega)
 have hmem : rd q i ∈ o := hq.subset (by rw [rd_lt hi0 hi1]; exact List.getElem_mem _)
 simp only [hmem, decide_true] at hc
 have hw : wrap64 (i + 1) = i + 1 := wrap_up hi0 hi1 (by omega)
 have cl : slices_Clone_int_int.f q = some q := by unfold slices_Clone_int_int.f; exact if_pos (by omega)
 unfold impl_NextProbe.f
 refine Ev.bind p ?_
 simp only [if_true]
 refine Ev.bind e2 ?_
 refine evPos ?_
 simp only [impl_NextProbe.j0, Bool.not_true, Bool.false_eq_true, if_false, impl_Prober_own.f, cl, Option.bind_some]
 have hn : Ev (fun k => impl_Prober_next.f k q i sd 0 0 0 s l) (rd q i, q, i + 1, sd, 0, 0, 0) := by
  unfold impl_Prober_next.f
  refine Ev.bind hoe ?_
  refine evPos ?_
  simp only [impl_Prober_next.l0]
  refine evPos ?_
  simp only [impl_Prober_next.l1, if_pos hi1, if_pos hi0, hw]
  refine Ev.bind hc ?_
  simp only [if_true]
  exact Ev.now _
 exact Ev.bind hn (Ev.now _)
/-- The first call. -/
theorem next_first (s : Int) (l : List MT) (hT : TabP s l) (o : List Int) (ho : o = (liveF l).filter fun y => !(y == s)) (hpos : 0 < o.length) (h12 : o.length ≤ 12) (sd : Int) (s0 : 0 ≤ sd) (s1 : sd ≤ 2147483647) :
  Ev (fun k => impl_NextProbe.f k [] 0 sd 0 0 0 s l) ((shufF o sd).1, 1, (shufF o sd).2, 0, 0, 0, rd (shufF o sd).1 0) := by
 have hP : probB [] 0 sd 0 0 0 = true := by
  simp only [probB, tailB, fine, Bool.and_eq_true, decide_eq_true_eq]
  simp; omega
 have p := implProberOk_ev [] 0 sd 0 0 0 (by simp)
 rw [hP] at p
 obtain ⟨t, _, e2, ht⟩ := tableOk_ev s l (by have := hT.1; omega)
 obtain rfl : t = true := ht.mpr hT
 have hoe := others_eq s l hT
 rw [← ho] at hoe
 have hq := shufF_perm o sd
 have hql : (shufF o sd).1.length = o.length := shufF_length o sd
 have i1 : (0 : Int) < ((shufF o sd).1.length : Int) := by omega
 have hc := Contains_ev o (rd (shufF o sd).1 0) (by omega)
 have hmem : rd (shufF o sd).1 0 ∈ o := hq.subset (by rw [rd_lt (by omega) i1]; exact List.getElem_mem _)
 simp only [hmem, decide_true] at hc
 have w1 : wrap64 ((0 : Int) + 1) = 1 := by unfold wrap64; omega
 have cl : slices_Clone_int_int.f [] = some [] := by unfold slices_Clone_int_int.f; exact if_pos (by simp)
 have sh := implShuffle_ev o sd
 rw [if_pos ⟨h12, s0, s1⟩] at sh
 unfold impl_NextProbe.f
 refine Ev.bind p ?_
 simp only [if_true]
 refine Ev.bind e2 ?_
 refine evPos ?_
 simp only [impl_NextProbe.j0, Bool.not_true, Bool.false_eq_true, if_false, impl_Prober_own.f, cl, Option.bind_some]
 have hn : Ev (fun k => impl_Prober_next.f k [] 0 sd 0 0 0 s l) (rd (shufF o sd).1 0, (shufF o sd).1, 1, (shufF o sd).2, 0, 0, 0) := by
  unfold impl_Prober_next.f
  refine Ev.bind hoe ?_
  refine evPos ?_
  simp only [impl_Prober_next.l0]
  refine evPos ?_
  have g0 : ¬ (0 : Int) < ((([] : List Int).length : Nat) : Int) := by simp
  simp only [impl_Prober_next.l1, if_neg g0]
  refine Ev.bind sh ?_
  have c0 : ¬ ((0 : Int) = 1) := by omega
  simp only [if_neg c0, w1]
  refine evPos ?_
  simp only [impl_Prober_next.l0]
  refine evPos ?_
  have z0 : (0 : Int) ≤ 0 := by omega
  simp only [impl_Prober_next.l1, if_pos i1, if_pos z0, w1]
  refine Ev.bind hc ?_
  simp only [if_true]
  exact Ev.now _
 exact Ev.bind hn (Ev.now _)
theorem round_loop (s : Int) (l : List MT) (hT : TabP s l) (q o : List Int) (ho : o = (liveF l).filter fun y => !(y == s)) (hq : q.Perm o) (hf : fine q = true) (sd : Int) (s0 : 0 ≤ sd) (s1 : sd ≤ 2147483647) (d : Nat) :
  ∀ (i : Int), 0 ≤ i → i ≤ q.length → (q.length : Int) - i = d → Ev (fun k => laws_FnRounds.l1 k (q.length : Int) (q.take i.toNat) i s l q i sd 0 0 0) true := by
 induction d with
 | zero =>
  intro i h0 h1 hd
  have hge : ¬ i < (q.length : Int) := by omega
  refine evPos ?_
  simp only [laws_FnRounds.l1, if_neg hge]
  refine evConst ?_
  rw [List.take_of_length_le (by omega)]
  simp
 | succ d ih =>
  intro i h0 h1 hd
  have hlt : i < (q.length : Int) := by omega
  have h12 := fine_length hf
  refine evPos ?_
  simp only [laws_FnRounds.l1, if_pos hlt]
  refine Ev.bind (next_found s l hT q o ho hq hf i sd h0 hlt s0 s1) ?_
  have e : (i + 1).toNat = i.toNat + 1 := by omega
  have hmem : rd q i ∈ o := hq.subset (by rw [rd_lt h0 hlt]; exact List.getElem_mem _)
  rw [ho] at hmem
  obtain ⟨m1, m2⟩ := List.mem_filter.1 hmem
  have hs : rd q i ≠ s := by simpa using m2
  have hnx : rd q i ∉ q.take i.toNat := by
   have := fine_take_succ h0 hlt
   have hft : fine (q.take (i + 1).toNat) = true := by
    cases hh : fine (q.take (i + 1).toNat) with
    | true => rfl
    | false => rw [fine_false hh] at hf; cases hf
   rw [hft] at this
   have h2 := this.symm
   simp only [Bool.and_eq_true, Bool.not_eq_true', decide_eq_false_iff_not] at h2
   exact h2.2.2
  have hn := ih (i + 1) (by omega) (by omega) (by omega)
  rw [e, List.take_succ_eq_append_getElem (by omega), ← rd_lt h0 hlt] at hn
  exact seen_loop (q.length : Int) i (rd q i) s l (q.take i.toNat) (by simp; omega) q (i + 1) sd 0 0 0 (live_range hT.2.1 m1).1 hs hT m1 hnx h0 (by omega) hn (q.take i.toNat).length 0 (by omega) (by omega) (by omega)
theorem FnRounds : laws_FnRounds.Pure := by
 intro l0 _ hl hw8
 suffices h : Ev (fun k => laws_FnRounds.f k l0) true from h.rounds
 unfold laws_FnRounds.f
 obtain ⟨a, b, c, d, e, f, s, l, hD, hl13⟩ := drawNext_ev l0 (by omega)
 refine Ev.bind hD ?_
 obtain ⟨sd, hsd, s0, s1⟩ : ∃ sd, laws_at.f l0 1 = some sd ∧ 0 ≤ sd ∧ sd ≤ 255 := by
  unfold laws_at.f
  by_cases h0 : (l0.length : Int) = 0
  ·exact ⟨0, by rw [if_pos h0], by omega, by omega⟩
  ·rw [if_neg h0]
   have p : (0 : Int) ≤ 1 := by omega
   have m0 : 0 ≤ Int.tmod 1 (l0.length : Int) := by rw [Int.tmod_eq_emod_of_nonneg p]; exact Int.emod_nonneg _ h0
   have m1 : Int.tmod 1 (l0.length : Int) < (l0.length : Int) := by rw [Int.tmod_eq_emod_of_nonneg p]; exact Int.emod_lt_of_pos _ (by omega)
   rw [if_pos m0, if_pos m1]
   have hb : 0 ≤ rd l0 (Int.tmod 1 (l0.length : Int)) ∧ rd l0 (Int.tmod 1 (l0.length : Int)) ≤ 255 := by
    rw [rd_lt m0 m1]
    have h1 : (decide (IntKind.min .u8 ≤ _) && decide (_ ≤ IntKind.max .u8)) = true := hw8 _ (List.getElem_mem (l := l0) (n := (Int.tmod 1 (l0.length : Int)).toNat) (by omega))
    simp only [Bool.and_eq_true, decide_eq_true_eq] at h1
    exact h1
   refine ⟨_, rfl, ?_⟩
   have w : wrap64 (rd l0 (Int.tmod 1 (l0.length : Int))) = rd l0 (Int.tmod 1 (l0.length : Int)) := by unfold wrap64; omega
   rw [w]; exact hb
 simp only [hsd, Option.bind_some, implProberNew_eq sd s0 (by omega), if_true]
 obtain ⟨t, e1, e2, ht⟩ := tableOk_ev s l (by omega)
 refine Ev.bind e1 ?_
 have hP : probB [] 0 sd 0 0 0 = true := by
  simp only [probB, tailB, fine, Bool.and_eq_true, decide_eq_true_eq]
  simp; omega
 have p := implProberOk_ev [] 0 sd 0 0 0 (by simp)
 rw [hP] at p
 cases t with
 | false =>
  simp only [Bool.not_false]
  refine evPos ?_
  simp only [laws_FnRounds.j0, if_true]
  refine Ev.bind p ?_
  exact Ev.now _
 | true =>
  have hT : TabP s l := ht.mp rfl
  simp only [Bool.not_true]
  refine evPos ?_
  simp only [laws_FnRounds.j0, Bool.false_eq_true, if_false]
  have hLv : Ev (fun k => impl_Live.f k s l) (liveF l) := by
   unfold impl_Live.f
   refine Ev.bind e2 ?_
   simp only [if_true]
   exact Ev.bind (implLive_ev s l hT) (Ev.now _)
  refine Ev.bind hLv ?_
  have hr : (liveF l).length ≤ 12 := by
   have h12 := hT.1
   unfold liveF
   rw [List.length_map]
   exact Nat.le_trans (List.length_filter_le _ _) h12
  obtain ⟨o, ho⟩ : ∃ o, o = (liveF l).filter fun y => !(y == s) := ⟨_, rfl⟩
  have hol : o.length ≤ 12 := by rw [ho]; exact Nat.le_trans (List.length_filter_le _ _) hr
  refine count_loop s l (liveF l) hr [] 0 sd 0 0 0 true ?_ (liveF l).length 0 (by omega) (by omega) (by omega)
  rw [← ho]
  have hnd : o.Nodup := by rw [ho]; exact (live_nodup hT.2.1).sublist List.filter_sublist
  have hrg : ∀ y ∈ o, 0 ≤ y ∧ y ≤ 11 := fun y hy => live_range hT.2.1 (by rw [ho] at hy; exact (List.mem_filter.1 hy).1)
  by_cases hz : o.length = 0
  ·have hge : ¬ (0 : Int) < (o.length : Int) := by omega
   refine evPos ?_
   simp only [laws_FnRounds.l1, if_neg hge]
   refine evConst ?_
   rw [hz]; rfl
  ·have hlt : (0 : Int) < (o.length : Int) := by omega
   have hq := shufF_perm o sd
   have hql := shufF_length o sd
   have hf : fine (shufF o sd).1 = true := fine_of hq hnd hrg
   have hs := shufF_seed o sd s0 (by omega)
   refine evPos ?_
   simp only [laws_FnRounds.l1, if_pos hlt]
   refine Ev.bind (next_first s l hT o ho (by omega) hol sd s0 (by omega)) ?_
   have i1 : (0 : Int) < ((shufF o sd).1.length : Int) := by omega
   have hmem : rd (shufF o sd).1 0 ∈ o := hq.subset (by rw [rd_lt (by omega) i1]; exact List.getElem_mem _)
   have hall : ∀ y ∈ o, y ∈ liveF l ∧ y ≠ s := fun y hy => by
    rw [ho] at hy
    obtain ⟨p1, p2⟩ := List.mem_filter.1 hy
    exact ⟨p1, by simpa using p2⟩
   obtain ⟨m1, hne⟩ := hall _ hmem
   have hn := round_loop s l hT (shufF o sd).1 o ho hq hf (shufF o sd).2 hs.1 hs.2 ((shufF o sd).1.length - 1) 1 (by omega) (by omega) (by omega)
   rw [hql] at hn
   have e1 : (1 : Int).toNat = 0 + 1 := rfl
   rw [e1, List.take_succ_eq_append_getElem (by omega), List.take_zero, List.nil_append] at hn
   have e3 : (shufF o sd).1[0]'(by omega) = rd (shufF o sd).1 0 := by rw [rd_lt (by omega) i1]; rfl
   rw [e3] at hn
   exact seen_loop (o.length : Int) 0 (rd (shufF o sd).1 0) s l [] (by simp) _ 1 _ 0 0 0 (live_range hT.2.1 m1).1 hne hT m1 (by simp) (by omega) (by omega) (by simpa using hn) 0 0 (by omega) (by simp) (by simp)

end Go.Proofs.Ytpoedoefbeabkaa.Pure
