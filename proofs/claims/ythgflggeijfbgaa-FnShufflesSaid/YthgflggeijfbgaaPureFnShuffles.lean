/- A shuffled list has the same numbers: FnShuffles is true of every input. No condition. -/
import Derived.Test.YthgflggeijfbgaaXFnShufflesx
namespace Go.Proofs.Ythgflggeijfbgaa.Pure
open Go.RowKit Go.Proofs.Ythgflggeijfbgaa.XFnShuffles Go.Proofs.YthgflggeijfbgaaW.PrintWords Go.Proofs.YthgflggeijfbgaaW.PrintLast
set_option linter.unusedSimpArgs false
set_option linter.unusedVariables false
theorem wrap_up {i : Int} {n : Nat} (h0 : 0 ≤ i) (h : i < (n : Int)) (hn : n ≤ 9223372036854775807) : wrap64 (i + 1) = i + 1 := by
  unfold wrap64; omega
theorem evPos {α : Type} {g : Nat → Option α} {r : α} (h : Ev (fun k => g (k + 1)) r) : Ev g r := by
  obtain ⟨K, hK⟩ := h
  refine ⟨K + 1, fun k hk => ?_⟩
  obtain ⟨m, rfl⟩ : ∃ m, k = m + 1 := ⟨k - 1, by omega⟩
  exact hK m (by omega)
theorem evConst {α : Type} {a : Option α} {r : α} (h : a = some r) : Ev (fun _ => a) r := ⟨0, fun _ _ => h⟩
theorem evShift {α : Type} {g : Nat → Option α} {r : α} (h : Ev g r) : Ev (fun k => g (k + 1)) r := by
  obtain ⟨K, hK⟩ := h
  exact ⟨K, fun k hk => hK (k + 1) (by omega)⟩
theorem evVal {α : Type} {g : Nat → Option α} {r r' : α} (h : Ev g r) (e : r = r') : Ev g r' := e ▸ h
theorem rd_lt {l : List Int} {i : Int} (h0 : 0 ≤ i) (h : i < (l.length : Int)) : rd l i = l[i.toNat]'(by omega) := by
  unfold rd; rw [List.getD_eq_getElem?_getD, List.getElem?_eq_getElem (by omega)]; rfl
/-! The cursor over the bytes of a draw: it always answers. -/
theorem and255 (n : Int) : 0 ≤ Go.bits .and .i64 n 255 ∧ Go.bits .and .i64 n 255 ≤ 255 := by
  have h255 : (BitVec.ofInt 64 255).toNat = 2 ^ 8 - 1 := by decide
  have key : (BitVec.ofInt 64 n &&& BitVec.ofInt 64 255).toNat = (n % ((2 ^ 64 : Nat) : Int)).toNat % 2 ^ 8 := by
    rw [BitVec.toNat_and, BitVec.toNat_ofInt, h255, Nat.and_two_pow_sub_one_eq_mod]
  have e : Go.bits .and .i64 n 255 = n % 256 := by
    show IntKind.i64.wrap ((BitVec.ofInt 64 n &&& BitVec.ofInt 64 255).toNat : Nat) = n % 256
    rw [key, IntKind.wrap_i64]
    omega
  rw [e]; omega

/-- A place in the bytes: one that they have, or the first behind them. -/
def Ok (b : List Int) (i : Int) : Prop := 0 ≤ i ∧ i ≤ b.length

theorem byte_some (b : List Int) (i h : Int) (hb : b.length ≤ 140737488355328) (hi : Ok b i) :
    ∃ x i' h', spec_l1Byte.f b i h = some (x, i', h') ∧ 0 ≤ x ∧ x ≤ 255 ∧ Ok b i' := by
  obtain ⟨h0, h1⟩ := hi
  unfold spec_l1Byte.f
  by_cases c : i < (b.length : Int)
  · rw [if_pos c, if_pos h0]
    exact ⟨_, _, _, rfl, (and255 _).1, (and255 _).2, by rw [wrap_up h0 c (by omega)]; exact ⟨by omega, by omega⟩⟩
  · rw [if_neg c]
    exact ⟨_, _, _, rfl, (and255 _).1, (and255 _).2, h0, h1⟩

theorem below_some (b : List Int) (i h n : Int) (hb : b.length ≤ 140737488355328) (hi : Ok b i) (hn0 : 0 < n) (hn : n ≤ 256) :
    ∃ x i' h', spec_l1Below.f b i h n = some (x, i', h') ∧ 0 ≤ x ∧ x < n ∧ Ok b i' := by
  obtain ⟨x, i', h', e, x0, x1, hi'⟩ := byte_some b i h hb hi
  unfold spec_l1Below.f
  rw [if_neg (by omega), if_pos hn, e]
  simp only [Option.bind_some]
  rw [if_neg (by omega)]
  refine ⟨_, _, _, rfl, ?_, ?_, hi'⟩
  · rw [Int.tmod_eq_emod_of_nonneg x0]; exact Int.emod_nonneg _ (by omega)
  · rw [Int.tmod_eq_emod_of_nonneg x0]; exact Int.emod_lt_of_pos _ hn0

theorem once_some (b : List Int) (i h n : Int) (hb : b.length ≤ 140737488355328) (hi : Ok b i) (hn0 : 0 < n) (hn : n ≤ 256) :
    ∃ x i' h', spec_l1Once.f b i h n = some (x, i', h') ∧ Ok b i' := by
  obtain ⟨x, i', h', e, _, _, hi'⟩ := below_some b i h n hb hi hn0 hn
  unfold spec_l1Once.f
  rw [e]
  exact ⟨_, _, _, rfl, hi'⟩

theorem pick_some (b : List Int) (i h : Int) (l : List Int) (hb : b.length ≤ 140737488355328) (hi : Ok b i) (hn0 : 0 < l.length) (hn : l.length ≤ 256) :
    ∃ x i' h', spec_l1PickInt.f b i h l = some (x, i', h') ∧ Ok b i' := by
  obtain ⟨x, i', h', e, x0, x1, hi'⟩ := below_some b i h l.length hb hi (by omega) (by omega)
  unfold spec_l1PickInt.f
  rw [e]
  simp only [Option.bind_some]
  rw [if_pos x0, if_pos x1]
  exact ⟨_, _, _, rfl, hi'⟩

theorem new_some (b : List Int) (hb : b.length ≤ 140737488355328) (d : Nat) :
    ∀ (k : Nat) (h i : Int), 0 ≤ i → i ≤ b.length → (b.length : Int) - i = d → d < k → ∃ h', spec_l1New.l0 k b h i = some (b, 0, h') := by
  induction d with
  | zero =>
    intro k h i h0 h1 hd hk
    obtain ⟨k, rfl⟩ : ∃ m, k = m + 1 := ⟨k - 1, by omega⟩
    exact ⟨h, by simp only [spec_l1New.l0]; rw [if_neg (by omega)]⟩
  | succ d ih =>
    intro k h i h0 h1 hd hk
    obtain ⟨k, rfl⟩ : ∃ m, k = m + 1 := ⟨k - 1, by omega⟩
    have hlt : i < (b.length : Int) := by omega
    simp only [spec_l1New.l0]
    rw [if_pos hlt]
    by_cases c : i < 4000
    · rw [if_pos c, if_pos h0, wrap_up h0 hlt (by omega)]
      exact ih k _ (i + 1) (by omega) (by omega) (by omega) (by omega)
    · rw [if_neg c]
      exact ⟨h, rfl⟩

theorem within_eq (a b c : Int) : impl_within.f a b c = some (decide (b ≤ a) && decide (a ≤ c)) := by
  unfold impl_within.f
  by_cases h : b ≤ a <;> simp [h]
theorem isSeed_eq (s : Int) : impl_isSeed.f s = some (decide (0 ≤ s) && decide (s ≤ 2147483647)) := by
  unfold impl_isSeed.f; rw [within_eq]; rfl
/-! Mix and Shuffle: what the program makes and what the reference makes is one. -/
def mixF (s : Int) : Int := if 0 ≤ s then if s ≤ 2147483647 then (16807 * s + 11) % 2147483647 else 0 else 0
theorem mixF_range (s : Int) : 0 ≤ mixF s ∧ mixF s ≤ 2147483647 := by unfold mixF; split <;> (try split) <;> omega
theorem wrap_mix {s : Int} (h0 : 0 ≤ s) (h1 : s ≤ 2147483647) : Int.tmod (wrap64 (wrap64 (16807 * s) + 11)) 2147483647 = (16807 * s + 11) % 2147483647 := by
  have e1 : wrap64 (16807 * s) = 16807 * s := by unfold wrap64; omega
  have e2 : wrap64 (16807 * s + 11) = 16807 * s + 11 := by unfold wrap64; omega
  rw [e1, e2, Int.tmod_eq_emod_of_nonneg (by omega)]
theorem implMix_eq (s : Int) : impl_Mix.f s = some (mixF s) := by
  unfold impl_Mix.f mixF
  rw [isSeed_eq]
  simp only [Option.bind_some]
  by_cases h0 : 0 ≤ s
  · by_cases h1 : s ≤ 2147483647
    · simp only [h0, h1, decide_true, Bool.and_true, if_true, wrap_mix h0 h1]
    · simp [h0, h1]
  · simp [h0]
def shufAux : Nat → Int → List Int → List Int × Int
  | 0, s, x => (x, s)
  | d + 1, s, x => shufAux d (mixF s) ((x.set (d + 1) (rd x (mixF s % ((d : Int) + 2)))).set (mixF s % ((d : Int) + 2)).toNat (rd x ((d : Int) + 1)))
def shufF (l : List Int) (s : Int) : List Int × Int := shufAux (l.length - 1) s l
theorem shufAux_length (d : Nat) : ∀ (s : Int) (x : List Int), (shufAux d s x).1.length = x.length := by
  induction d with
  | zero => intro s x; rfl
  | succ d ih => intro s x; simp only [shufAux]; rw [ih]; simp
theorem shufF_length (l : List Int) (s : Int) : (shufF l s).1.length = l.length := shufAux_length _ _ _
theorem implShuffle_loop (n : Nat) (hn : n ≤ 12) (d : Nat) : ∀ (s : Int) (x : List Int), d < n → x.length = n →
    Ev (fun k => impl_Shuffle.l0 k s x (d : Int)) (shufAux d s x) := by
  induction d with
  | zero =>
    intro s x _ _
    refine evPos ?_
    have h : ¬ ((0 : Nat) : Int) > 0 := by omega
    simp only [impl_Shuffle.l0, if_neg h]
    exact Ev.now _
  | succ d ih =>
    intro s x hd hx
    refine evPos ?_
    have h : (((d + 1 : Nat) : Int)) > 0 := by omega
    have w1 : wrap64 (((d + 1 : Nat) : Int) + 1) = (d : Int) + 2 := by unfold wrap64; omega
    have w2 : wrap64 (((d + 1 : Nat) : Int) - 1) = (d : Int) := by unfold wrap64; omega
    obtain ⟨m0, m1⟩ := mixF_range s
    have t1 : Int.tmod (mixF s) ((d : Int) + 2) = mixF s % ((d : Int) + 2) := Int.tmod_eq_emod_of_nonneg m0
    have q0 : 0 ≤ mixF s % ((d : Int) + 2) := Int.emod_nonneg _ (by omega)
    have q1 : mixF s % ((d : Int) + 2) < (d : Int) + 2 := Int.emod_lt_of_pos _ (by omega)
    have g1 : ¬ ((d : Int) + 2 = 0) := by omega
    have g2 : mixF s % ((d : Int) + 2) < (x.length : Int) := by omega
    have g3 : 0 ≤ ((d + 1 : Nat) : Int) := by omega
    have g4 : ((d + 1 : Nat) : Int) < (x.length : Int) := by omega
    have e1 : (((d + 1 : Nat) : Int)).toNat = d + 1 := by omega
    have e2 : ((d + 1 : Nat) : Int) = (d : Int) + 1 := by omega
    simp only [impl_Shuffle.l0, if_pos h, implMix_eq, Option.bind_some, w1, w2, t1, if_neg g1, if_pos q0, if_pos g2, if_pos g3, if_pos g4, e1]
    rw [e2]
    exact ih _ _ (by omega) (by simp [hx])
theorem implShuffle_ev (l : List Int) (s : Int) : Ev (fun k => impl_Shuffle.f k l s) (if l.length ≤ 12 ∧ 0 ≤ s ∧ s ≤ 2147483647 then shufF l s else ([], 0)) := by
  unfold impl_Shuffle.f
  have jt : Ev (fun k => impl_Shuffle.j0 k l s true) (([] : List Int), 0) := by
    refine evPos ?_
    simp only [impl_Shuffle.j0, if_true]
    exact Ev.now _
  by_cases h : (l.length : Int) > 12
  · simp only [if_pos h]
    refine evVal jt ?_
    rw [if_neg (by omega)]
  · simp only [if_neg h, isSeed_eq, Option.bind_some]
    by_cases h2 : 0 ≤ s ∧ s ≤ 2147483647
    · obtain ⟨a, b⟩ := h2
      simp only [a, b, decide_true, Bool.and_true, Bool.not_true]
      rw [if_pos ⟨by omega, trivial, trivial⟩]
      refine evPos ?_
      have hlt : l.length < 17592186044416 := by omega
      simp only [impl_Shuffle.j0, Bool.false_eq_true, if_false, slices_Clone_int_int.f, if_pos hlt, Option.bind_some]
      by_cases z : l.length = 0
      · have w : wrap64 ((l.length : Int) - 1) = -1 := by unfold wrap64; omega
        refine evPos ?_
        have c : ¬ ((-1 : Int) > 0) := by omega
        simp only [w, impl_Shuffle.l0, if_neg c]
        refine evConst ?_
        unfold shufF
        rw [z]; rfl
      · have w : wrap64 ((l.length : Int) - 1) = ((l.length - 1 : Nat) : Int) := by unfold wrap64; omega
        simp only [w]
        exact implShuffle_loop l.length (by omega) (l.length - 1) s l (by omega) rfl
    · have e : (decide (0 ≤ s) && decide (s ≤ 2147483647)) = false := by
        rw [Bool.and_eq_false_iff]; simp only [decide_eq_false_iff_not]; omega
      simp only [e, Bool.not_false]
      refine evVal jt ?_
      rw [if_neg (by omega)]
theorem shufAux_perm (d : Nat) : ∀ (s : Int) (x : List Int), d < x.length ∨ x.length = 0 ∧ d = 0 → (shufAux d s x).1.Perm x := by
  induction d with
  | zero => intro s x _; exact List.Perm.refl _
  | succ d ih =>
    intro s x h
    have hd : d + 1 < x.length := by omega
    simp only [shufAux]
    have m0 : 0 ≤ mixF s % ((d : Int) + 2) := Int.emod_nonneg _ (by omega)
    have m1 : mixF s % ((d : Int) + 2) < (d : Int) + 2 := Int.emod_lt_of_pos _ (by omega)
    refine (ih _ _ (by left; simp; omega)).trans ?_
    rw [rd_lt m0 (by omega), rd_lt (show 0 ≤ (d : Int) + 1 by omega) (by omega)]
    have e : ((d : Int) + 1).toNat = d + 1 := by omega
    simp only [e]
    exact List.set_set_perm hd (by omega)
theorem shufF_perm (l : List Int) (s : Int) : (shufF l s).1.Perm l := by
  unfold shufF
  refine shufAux_perm _ _ _ ?_
  omega
theorem cnt_succ {l : List Int} {j : Int} (v : Int) (h0 : 0 ≤ j) (h : j < (l.length : Int)) : ((l.take (j + 1).toNat).count v : Int) = (l.take j.toNat).count v + if rd l j = v then 1 else 0 := by
  have e : (j + 1).toNat = j.toNat + 1 := by omega
  rw [e, List.take_succ_eq_append_getElem (by omega), List.count_append, rd_lt h0 h]
  by_cases c : l[j.toNat]'(by omega) = v <;> simp [c]
theorem inner (l x : List Int) (hl : l.length ≤ 12) (hx : x.length = l.length) (hp : x.Perm l) (i : Int) (i0 : 0 ≤ i) (i1 : i < (l.length : Int)) (hn : Ev (fun k => laws_FnShuffles.l0 k l x (i + 1)) true) (d : Nat) :
    ∀ (j : Int), 0 ≤ j → j ≤ l.length → (l.length : Int) - j = d → Ev (fun k => laws_FnShuffles.l1 k l x i (((l.take j.toNat).count (rd l i) : Int) - (x.take j.toNat).count (rd l i)) j) true := by
  induction d with
  | zero =>
    intro j h0 h1 hd
    have hge : ¬ j < (l.length : Int) := by omega
    refine evPos ?_
    have z : ((l.take j.toNat).count (rd l i) : Int) - (x.take j.toNat).count (rd l i) = 0 := by
      rw [List.take_of_length_le (by omega), List.take_of_length_le (by omega), hp.count_eq]
      omega
    simp only [laws_FnShuffles.l1, if_neg hge, z, if_true]
    rw [wrap_up i0 i1 (by omega)]
    exact hn
  | succ d ih =>
    intro j h0 h1 hd
    refine evPos ?_
    have hlt : j < (l.length : Int) := by omega
    have hlt' : j < (x.length : Int) := by omega
    have b1 : (l.take j.toNat).count (rd l i) ≤ 12 := Nat.le_trans (List.count_le_length) (by simp; omega)
    have b2 : (x.take j.toNat).count (rd l i) ≤ 12 := Nat.le_trans (List.count_le_length) (by simp; omega)
    have c1 := cnt_succ (l := l) (rd l i) h0 hlt
    have c2 := cnt_succ (l := x) (rd l i) h0 hlt'
    have r := ih (j + 1) (by omega) (by omega) (by omega)
    rw [c1, c2] at r
    have hw : wrap64 (j + 1) = j + 1 := wrap_up h0 hlt (by omega)
    generalize ((l.take j.toNat).count (rd l i)) = p at *
    generalize ((x.take j.toNat).count (rd l i)) = q at *
    have w1 : wrap64 ((p : Int) - q + 1) = p - q + 1 := by unfold wrap64; omega
    have w2 : wrap64 ((p : Int) - q + 1 - 1) = p - q := by unfold wrap64; omega
    have w3 : wrap64 ((p : Int) - q - 1) = p - q - 1 := by unfold wrap64; omega
    simp only [laws_FnShuffles.l1, if_pos hlt, if_pos h0, if_pos i0, if_pos i1, if_pos hlt', hw, w1, w2, w3]
    by_cases a1 : rd l j = rd l i <;> by_cases a2 : rd x j = rd l i <;> simp only [a1, a2, if_true, if_false] at r ⊢
    · have e : (p : Int) + 1 - (q + 1) = p - q := by omega
      rw [e] at r; exact r
    · have e : (p : Int) + 1 - (q + 0) = p - q + 1 := by omega
      rw [e] at r; exact r
    · have e : (p : Int) + 0 - (q + 1) = p - q - 1 := by omega
      rw [e] at r; exact r
    · have e : (p : Int) + 0 - (q + 0) = p - q := by omega
      rw [e] at r; exact r
theorem outer (l x : List Int) (hl : l.length ≤ 12) (hx : x.length = l.length) (hp : x.Perm l) (d : Nat) :
    ∀ (i : Int), 0 ≤ i → i ≤ l.length → (l.length : Int) - i = d → Ev (fun k => laws_FnShuffles.l0 k l x i) true := by
  induction d with
  | zero =>
    intro i h0 h1 hd
    have hge : ¬ i < (l.length : Int) := by omega
    refine evPos ?_
    simp only [laws_FnShuffles.l0, if_neg hge]
    exact Ev.now _
  | succ d ih =>
    intro i h0 h1 hd
    have hlt : i < (l.length : Int) := by omega
    refine evPos ?_
    simp only [laws_FnShuffles.l0, if_pos hlt]
    have := inner l x hl hx hp i h0 hlt (ih (i + 1) (by omega) (by omega) (by omega)) l.length 0 (by omega) (by omega) (by omega)
    simpa using this
theorem pick7 (b : List Int) (i h : Int) (hb : b.length ≤ 140737488355328) (hi : Ok b i) : ∃ x i' h', spec_l1PickInt.f b i h [0, 7, 99, 1234, (-1), 2147483647, 2147483648] = some (x, i', h') := by
  obtain ⟨x, i', h', e, _⟩ := pick_some b i h [0, 7, 99, 1234, (-1), 2147483647, 2147483648] hb hi (by simp) (by simp)
  exact ⟨x, i', h', e⟩
theorem draw_loop (b : List Int) (hb : b.length ≤ 140737488355328) (n : Int) (hn : n ≤ 10) (d : Nat) : ∀ (x : List Int) (j i h : Int), 0 ≤ j → j ≤ n → (n - j).toNat = d → (x.length : Int) = j → Ok b i →
    ∃ l s, Ev (fun k => spec_DrawShuffle.l0 k x n j b i h) (l, s) ∧ l.length ≤ 13 := by
  induction d with
  | zero =>
    intro x j i h h0 h1 hd hx hi
    have hge : ¬ j < n := by omega
    obtain ⟨o, i1, h1', e1, k1⟩ := once_some b i h 15 hb hi (by omega) (by omega)
    by_cases c : o = true
    · obtain ⟨y, i2, h2, e2, y0, y1, k2⟩ := below_some b i1 h1' 2 hb k1 (by omega) (by omega)
      obtain ⟨z, i3, h3, e3⟩ := pick7 b i2 h2 hb k2
      refine ⟨List.replicate (12 + y).toNat 0, z, ?_, by simp; omega⟩
      refine evPos ?_
      have w : wrap64 (12 + y) = 12 + y := by unfold wrap64; omega
      have g1 : 0 ≤ 12 + y := by omega
      have g2 : (12 + y).toNat ≤ 35184372088832 := by omega
      simp only [spec_DrawShuffle.l0, if_neg hge, e1, Option.bind_some, if_pos c, e2, w, if_pos g1, if_pos g2, e3]
      exact Ev.now _
    · obtain ⟨z, i3, h3, e3⟩ := pick7 b i1 h1' hb k1
      refine ⟨x, z, ?_, by omega⟩
      refine evPos ?_
      simp only [spec_DrawShuffle.l0, if_neg hge, e1, Option.bind_some, if_neg c, e3]
      exact Ev.now _
  | succ d ih =>
    intro x j i h h0 h1 hd hx hi
    have hlt : j < n := by omega
    obtain ⟨y, i2, h2, e2, y0, y1, k2⟩ := below_some b i h 20 hb hi (by omega) (by omega)
    obtain ⟨l, s, e, hl⟩ := ih (x ++ [y]) (j + 1) i2 h2 (by omega) (by omega) (by omega) (by simp; omega) k2
    refine ⟨l, s, ?_, hl⟩
    refine evPos ?_
    have w : wrap64 (j + 1) = j + 1 := by unfold wrap64; omega
    have g : x.length < 17592186044416 := by omega
    simp only [spec_DrawShuffle.l0, if_pos hlt, e2, Option.bind_some, if_pos g, w]
    exact e
theorem new_ev (b : List Int) (hb : b.length ≤ 140737488355328) : ∃ h, Ev (fun k => spec_l1New.f k b) (b, 0, h) := by
  obtain ⟨h, e⟩ := new_some b hb b.length (b.length + 1) (wrap64 (36565 + (b.length : Int))) 0 (by omega) (by omega) (by omega) (by omega)
  refine ⟨h, b.length + 1, fun k hk => ?_⟩
  exact at_rounds (fun k => spec_l1New.mono b k) hk e
theorem draw_ev (b : List Int) (hb : b.length ≤ 140737488355328) : ∃ l s, Ev (fun k => spec_DrawShuffle.f k b) (l, s) ∧ l.length ≤ 13 := by
  obtain ⟨h, e⟩ := new_ev b hb
  obtain ⟨n, i1, h1, e1, n0, n1, k1⟩ := below_some b 0 h 10 hb ⟨by omega, by omega⟩ (by omega) (by omega)
  obtain ⟨l, s, e2, hl⟩ := draw_loop b hb n (by omega) _ [] 0 i1 h1 (by omega) (by omega) rfl rfl k1
  refine ⟨l, s, ?_, hl⟩
  unfold spec_DrawShuffle.f
  refine Ev.bind e ?_
  simp only [e1, Option.bind_some]
  exact e2
theorem FnShuffles : laws_FnShuffles.Pure := by
  intro b _ hb _
  suffices h : Ev (fun k => laws_FnShuffles.f k b) true from h.rounds
  obtain ⟨l, s, e, hl⟩ := draw_ev b (by omega)
  unfold laws_FnShuffles.f
  refine Ev.bind e ?_
  refine Ev.bind (implShuffle_ev l s) ?_
  have m1 : impl_Mix.f 1 = some 16818 := by rw [implMix_eq]; decide
  by_cases c1 : (l.length : Int) > 12
  · have n : ¬ (l.length ≤ 12 ∧ 0 ≤ s ∧ s ≤ 2147483647) := by omega
    simp only [if_pos c1, if_neg n]
    refine evPos ?_
    simp only [laws_FnShuffles.j0, if_true, List.length_nil, m1, Option.bind_some]
    exact evConst (by simp)
  · simp only [if_neg c1]
    by_cases c2 : s < 0
    · have n : ¬ (l.length ≤ 12 ∧ 0 ≤ s ∧ s ≤ 2147483647) := by omega
      simp only [if_pos c2, if_neg n]
      refine evPos ?_
      simp only [laws_FnShuffles.j0, if_true, List.length_nil, m1, Option.bind_some]
      exact evConst (by simp)
    · simp only [if_neg c2]
      by_cases c3 : s > 2147483647
      · have n : ¬ (l.length ≤ 12 ∧ 0 ≤ s ∧ s ≤ 2147483647) := by omega
        simp only [c3, decide_true, if_neg n]
        refine evPos ?_
        simp only [laws_FnShuffles.j0, if_true, List.length_nil, m1, Option.bind_some]
        exact evConst (by simp)
      · have y : l.length ≤ 12 ∧ 0 ≤ s ∧ s ≤ 2147483647 := by omega
        simp only [c3, decide_false, if_pos y]
        refine evPos ?_
        have hlen := shufF_length l s
        simp only [laws_FnShuffles.j0, Bool.false_eq_true, if_false, hlen, if_true]
        exact outer l _ y.1 hlen (shufF_perm l s) l.length 0 (by omega) (by omega) (by omega)

end Go.Proofs.Ythgflggeijfbgaa.Pure
