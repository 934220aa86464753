/- A check that passes remains passing until its time is over, and one that fails often enough is critical: FnChecks is true of every input. No condition. -/
import Derived.Test.YtgkoinnjpcpccaaXFnChecksx
namespace Go.Proofs.Ytgkoinnjpcpccaa.Pure
open Go.RowKit Go.Proofs.Ytgkoinnjpcpccaa.XFnChecks Go.Proofs.YtgkoinnjpcpccaaW.PrintWords Go.Proofs.YtgkoinnjpcpccaaW.PrintLast
set_option linter.unusedSimpArgs false
set_option linter.unusedVariables false
theorem wrap_up {i : Int} {n : Nat} (h0 : 0 ≤ i) (h : i < (n : Int)) (hn : n ≤ 9223372036854775807) : wrap64 (i + 1) = i + 1 := by
  unfold wrap64; omega
theorem evPos {α : Type} {g : Nat → Option α} {r : α} (h : Ev (fun k => g (k + 1)) r) : Ev g r := by
  obtain ⟨K, hK⟩ := h
  refine ⟨K + 1, fun k hk => ?_⟩
  obtain ⟨m, rfl⟩ : ∃ m, k = m + 1 := ⟨k - 1, by omega⟩
  exact hK m (by omega)
theorem evConst {α : Type} {a : Option α} {r : α} (h : a = some r) : Ev (fun _ => a) r := ⟨0, fun _ _ => h⟩
theorem evShift {α : Type} {g : Nat → Option α} {r : α} (h : Ev g r) : Ev (fun k => g (k + 1)) r := by
  obtain ⟨K, hK⟩ := h
  exact ⟨K, fun k hk => hK (k + 1) (by omega)⟩
theorem evVal {α : Type} {g : Nat → Option α} {r r' : α} (h : Ev g r) (e : r = r') : Ev g r' := e ▸ h
theorem rd_lt {l : List Int} {i : Int} (h0 : 0 ≤ i) (h : i < (l.length : Int)) : rd l i = l[i.toNat]'(by omega) := by
  unfold rd; rw [List.getD_eq_getElem?_getD, List.getElem?_eq_getElem (by omega)]; rfl
/-! The cursor over the bytes of a draw: it always answers. -/
theorem and255 (n : Int) : 0 ≤ Go.bits .and .i64 n 255 ∧ Go.bits .and .i64 n 255 ≤ 255 := by
  have h255 : (BitVec.ofInt 64 255).toNat = 2 ^ 8 - 1 := by decide
  have key : (BitVec.ofInt 64 n &&& BitVec.ofInt 64 255).toNat = (n % ((2 ^ 64 : Nat) : Int)).toNat % 2 ^ 8 := by
    rw [BitVec.toNat_and, BitVec.toNat_ofInt, h255, Nat.and_two_pow_sub_one_eq_mod]
  have e : Go.bits .and .i64 n 255 = n % 256 := by
    show IntKind.i64.wrap ((BitVec.ofInt 64 n &&& BitVec.ofInt 64 255).toNat : Nat) = n % 256
    rw [key, IntKind.wrap_i64]
    omega
  rw [e]; omega

/-- A place in the bytes: one that they have, or the first behind them. -/
def Ok (b : List Int) (i : Int) : Prop := 0 ≤ i ∧ i ≤ b.length

theorem byte_some (b : List Int) (i h : Int) (hb : b.length ≤ 140737488355328) (hi : Ok b i) :
    ∃ x i' h', spec_l1Byte.f b i h = some (x, i', h') ∧ 0 ≤ x ∧ x ≤ 255 ∧ Ok b i' := by
  obtain ⟨h0, h1⟩ := hi
  unfold spec_l1Byte.f
  by_cases c : i < (b.length : Int)
  · rw [if_pos c, if_pos h0]
    exact ⟨_, _, _, rfl, (and255 _).1, (and255 _).2, by rw [wrap_up h0 c (by omega)]; exact ⟨by omega, by omega⟩⟩
  · rw [if_neg c]
    exact ⟨_, _, _, rfl, (and255 _).1, (and255 _).2, h0, h1⟩

theorem below_some (b : List Int) (i h n : Int) (hb : b.length ≤ 140737488355328) (hi : Ok b i) (hn0 : 0 < n) (hn : n ≤ 256) :
    ∃ x i' h', spec_l1Below.f b i h n = some (x, i', h') ∧ 0 ≤ x ∧ x < n ∧ Ok b i' := by
  obtain ⟨x, i', h', e, x0, x1, hi'⟩ := byte_some b i h hb hi
  unfold spec_l1Below.f
  rw [if_neg (by omega), if_pos hn, e]
  simp only [Option.bind_some]
  rw [if_neg (by omega)]
  refine ⟨_, _, _, rfl, ?_, ?_, hi'⟩
  · rw [Int.tmod_eq_emod_of_nonneg x0]; exact Int.emod_nonneg _ (by omega)
  · rw [Int.tmod_eq_emod_of_nonneg x0]; exact Int.emod_lt_of_pos _ hn0

theorem once_some (b : List Int) (i h n : Int) (hb : b.length ≤ 140737488355328) (hi : Ok b i) (hn0 : 0 < n) (hn : n ≤ 256) :
    ∃ x i' h', spec_l1Once.f b i h n = some (x, i', h') ∧ Ok b i' := by
  obtain ⟨x, i', h', e, _, _, hi'⟩ := below_some b i h n hb hi hn0 hn
  unfold spec_l1Once.f
  rw [e]
  exact ⟨_, _, _, rfl, hi'⟩

theorem pick_some (b : List Int) (i h : Int) (l : List Int) (hb : b.length ≤ 140737488355328) (hi : Ok b i) (hn0 : 0 < l.length) (hn : l.length ≤ 256) :
    ∃ x i' h', spec_l1PickInt.f b i h l = some (x, i', h') ∧ Ok b i' := by
  obtain ⟨x, i', h', e, x0, x1, hi'⟩ := below_some b i h l.length hb hi (by omega) (by omega)
  unfold spec_l1PickInt.f
  rw [e]
  simp only [Option.bind_some]
  rw [if_pos x0, if_pos x1]
  exact ⟨_, _, _, rfl, hi'⟩

theorem new_some (b : List Int) (hb : b.length ≤ 140737488355328) (d : Nat) :
    ∀ (k : Nat) (h i : Int), 0 ≤ i → i ≤ b.length → (b.length : Int) - i = d → d < k → ∃ h', spec_l1New.l0 k b h i = some (b, 0, h') := by
  induction d with
  | zero =>
    intro k h i h0 h1 hd hk
    obtain ⟨k, rfl⟩ : ∃ m, k = m + 1 := ⟨k - 1, by omega⟩
    exact ⟨h, by simp only [spec_l1New.l0]; rw [if_neg (by omega)]⟩
  | succ d ih =>
    intro k h i h0 h1 hd hk
    obtain ⟨k, rfl⟩ : ∃ m, k = m + 1 := ⟨k - 1, by omega⟩
    have hlt : i < (b.length : Int) := by omega
    simp only [spec_l1New.l0]
    rw [if_pos hlt]
    by_cases c : i < 4000
    · rw [if_pos c, if_pos h0, wrap_up h0 hlt (by omega)]
      exact ih k _ (i + 1) (by omega) (by omega) (by omega) (by omega)
    · rw [if_neg c]
      exact ⟨h, rfl⟩

theorem drawKey_some (b : List Int) (i h : Int) (hb : b.length ≤ 140737488355328) (hi : Ok b i) :
    ∃ l i' h', spec_l2drawKey.f b i h = some (l, i', h') ∧ l.length ≤ 3 ∧ Ok b i' := by
  obtain ⟨x, i', h', e, x0, x1, hi'⟩ := below_some b i h 5 hb hi (by omega) (by omega)
  unfold spec_l2drawKey.f
  simp only [Option.bind_some, e]
  obtain ⟨L, hL⟩ : ∃ L : List ByteArray, L = [⟨#[97]⟩, ⟨#[98]⟩, ⟨#[99]⟩, ⟨#[97, 47, 98]⟩, ⟨#[100]⟩] := ⟨_, rfl⟩
  rw [← hL]
  have hl : (L.length : Int) = 5 := by rw [hL]; rfl
  have hs : (rdOf ByteArray.empty L x).size ≤ 3 := by
    have hx : x = 0 ∨ x = 1 ∨ x = 2 ∨ x = 3 ∨ x = 4 := by omega
    rw [hL]
    rcases hx with rfl | rfl | rfl | rfl | rfl <;> decide
  rw [if_pos x0, if_pos (by omega), if_pos (by omega)]
  exact ⟨_, _, _, rfl, by rw [bytesOf_length]; exact hs, hi'⟩
theorem within_eq (a b c : Int) : impl_within.f a b c = some (decide (b ≤ a) && decide (a ≤ c)) := by
  unfold impl_within.f
  by_cases h : b ≤ a <;> simp [h]
/-! A key: what the program asks and what the reference asks is one. -/
def keyByte (c : Int) : Bool := decide (97 ≤ c) && decide (c ≤ 122) || decide (c = 47)
def keyB (l : List Int) : Bool := decide (1 ≤ l.length) && decide (l.length ≤ 20) && l.all keyByte
theorem all_drop {l : List Int} {i : Int} (h0 : 0 ≤ i) (h : i < (l.length : Int)) (p : Int → Bool) : (l.drop i.toNat).all p = (p (rd l i) && (l.drop (i + 1).toNat).all p) := by
  have e : (i + 1).toNat = i.toNat + 1 := by omega
  rw [e, List.drop_eq_getElem_cons (by omega), List.all_cons, rd_lt h0 h]
theorem KeyOk_loop (l : List Int) (hl : l.length ≤ 9223372036854775807) (d : Nat) : ∀ (i : Int), 0 ≤ i → i ≤ l.length → (l.length : Int) - i = d →
    Ev (fun k => impl_KeyOk.l0 k l l (l.length : Int) i) ((l.drop i.toNat).all keyByte && (decide (1 ≤ l.length) && decide (l.length ≤ 20))) := by
  induction d with
  | zero =>
    intro i h0 h1 hd
    have hge : ¬ i < (l.length : Int) := by omega
    refine evPos ?_
    simp only [impl_KeyOk.l0, if_neg hge]
    refine evConst ?_
    rw [within_eq, List.drop_eq_nil_of_le (by omega)]
    have a : ((1 : Int) ≤ (l.length : Int)) ↔ 1 ≤ l.length := by omega
    have b : ((l.length : Int) ≤ 20) ↔ l.length ≤ 20 := by omega
    simp [a, b]
  | succ d ih =>
    intro i h0 h1 hd
    refine evPos ?_
    simp only [impl_KeyOk.l0]
    have hlt : i < (l.length : Int) := by omega
    rw [all_drop h0 hlt]
    simp only [if_pos hlt, if_pos h0, wrap_up h0 hlt hl]
    by_cases c1 : rd l i < 97
    · simp only [if_pos c1]
      by_cases c2 : rd l i = 47
      · simp only [if_pos c2]
        exact evVal (ih (i + 1) (by omega) (by omega) (by omega)) (by simp [keyByte, c2])
      · simp only [if_neg c2]
        refine evConst ?_
        have : keyByte (rd l i) = false := by simp [keyByte]; omega
        simp [this]
    · simp only [if_neg c1]
      by_cases c3 : rd l i > 122
      · simp only [if_pos c3]
        by_cases c2 : rd l i = 47
        · omega
        · simp only [if_neg c2]
          refine evConst ?_
          have : keyByte (rd l i) = false := by simp [keyByte]; omega
          simp [this]
      · simp only [if_neg c3]
        refine evVal (ih (i + 1) (by omega) (by omega) (by omega)) ?_
        have : keyByte (rd l i) = true := by simp [keyByte]; omega
        simp [this]
theorem KeyOk_ev (l : List Int) (hl : l.length ≤ 9223372036854775807) : Ev (fun k => impl_KeyOk.f k l) (keyB l) := by
  unfold impl_KeyOk.f
  exact evVal (KeyOk_loop l hl l.length 0 (by omega) (by omega) (by omega)) (by simp [keyB, Bool.and_comm])
theorem l2key_loop (l : List Int) (hl : l.length ≤ 9223372036854775807) (d : Nat) : ∀ (i : Int), 0 ≤ i → i ≤ l.length → (l.length : Int) - i = d →
    Ev (fun k => spec_l2key.l0 k l i) ((l.drop i.toNat).all keyByte) := by
  induction d with
  | zero =>
    intro i h0 h1 hd
    have hge : ¬ i < (l.length : Int) := by omega
    refine evPos ?_
    simp only [spec_l2key.l0, if_neg hge]
    refine evConst ?_
    rw [List.drop_eq_nil_of_le (by omega)]
    rfl
  | succ d ih =>
    intro i h0 h1 hd
    refine evPos ?_
    simp only [spec_l2key.l0]
    have hlt : i < (l.length : Int) := by omega
    rw [all_drop h0 hlt]
    simp only [if_pos hlt, if_pos h0, wrap_up h0 hlt hl]
    by_cases c1 : rd l i < 97
    · simp only [if_pos c1]
      by_cases c2 : rd l i = 47
      · simp only [if_pos c2]
        exact evVal (ih (i + 1) (by omega) (by omega) (by omega)) (by simp [keyByte, c2])
      · simp only [if_neg c2]
        refine evConst ?_
        have : keyByte (rd l i) = false := by simp [keyByte]; omega
        simp [this]
    · simp only [if_neg c1]
      by_cases c3 : rd l i > 122
      · simp only [if_pos c3]
        by_cases c2 : rd l i = 47
        · omega
        · simp only [if_neg c2]
          refine evConst ?_
          have : keyByte (rd l i) = false := by simp [keyByte]; omega
          simp [this]
      · simp only [if_neg c3]
        refine evVal (ih (i + 1) (by omega) (by omega) (by omega)) ?_
        have : keyByte (rd l i) = true := by simp [keyByte]; omega
        simp [this]
theorem l2key_ev (l : List Int) (hl : l.length ≤ 9223372036854775807) : Ev (fun k => spec_l2key.f k l) (keyB l) := by
  unfold spec_l2key.f
  by_cases h : (l.length : Int) < 1
  · simp only [if_pos h]
    refine evPos ?_
    simp only [spec_l2key.j0, if_true]
    refine evConst ?_
    have : ¬ 1 ≤ l.length := by omega
    simp [keyB, this]
  · simp only [if_neg h]
    refine evPos ?_
    simp only [spec_l2key.j0]
    by_cases h2 : (l.length : Int) > 20
    · simp only [h2, decide_true, if_true]
      refine evConst ?_
      have : ¬ l.length ≤ 20 := by omega
      simp [keyB, this]
    · simp only [h2, decide_false, Bool.false_eq_true, if_false]
      refine evVal (l2key_loop l hl l.length 0 (by omega) (by omega) (by omega)) ?_
      have a : 1 ≤ l.length := by omega
      have b : l.length ≤ 20 := by omega
      simp [keyB, a, b]
/-! A check: what the program asks and what the reference asks is one. -/
def checkB (l : List Int) (ttl most status age fails : Int) : Bool :=
  keyB l && (decide (0 ≤ ttl) && decide (ttl ≤ 1000) && (decide (1 ≤ most) && decide (most ≤ 5)) && (decide (0 ≤ status) && decide (status ≤ 2)) && (decide (0 ≤ age) && decide (age ≤ 1000)) && (decide (0 ≤ fails) && decide (fails ≤ most))) &&
    ((!(decide (ttl > 0) && decide (age ≥ ttl)) || decide (status = 2)) && (!decide (status = 0) || decide (fails = 0)))
theorem spec_CheckOk_ev (l : List Int) (a b c d e : Int) (hl : l.length ≤ 9223372036854775807) : Ev (fun k => spec_CheckOk.f k l a b c d e) (checkB l a b c d e) := by
  unfold spec_CheckOk.f
  refine Ev.bind (l2key_ev l hl) ?_
  have jt : Ev (fun k => spec_CheckOk.j0 k true l a b c d e) false := by
    refine evPos ?_
    simp only [spec_CheckOk.j0, if_true]
    exact Ev.now _
  cases hk : keyB l with
  | false => simp only [Bool.false_eq_true, if_false]; exact evVal jt (by simp [checkB, hk])
  | true =>
    simp only [if_true]
    by_cases h1 : a < 0
    · simp only [if_pos h1]; exact evVal jt (by have this : ¬ 0 ≤ a := (by omega); simp [checkB, this])
    simp only [if_neg h1]
    by_cases h2 : a > 1000
    · simp only [if_pos h2]; exact evVal jt (by have this : ¬ a ≤ 1000 := (by omega); simp [checkB, this])
    simp only [if_neg h2]
    by_cases h3 : b < 1
    · simp only [if_pos h3]; exact evVal jt (by have this : ¬ 1 ≤ b := (by omega); simp [checkB, this])
    simp only [if_neg h3]
    by_cases h4 : b > 5
    · simp only [if_pos h4]; exact evVal jt (by have this : ¬ b ≤ 5 := (by omega); simp [checkB, this])
    simp only [if_neg h4]
    by_cases h5 : c < 0
    · simp only [if_pos h5]; exact evVal jt (by have this : ¬ 0 ≤ c := (by omega); simp [checkB, this])
    simp only [if_neg h5]
    by_cases h6 : c > 2
    · simp only [if_pos h6]; exact evVal jt (by have this : ¬ c ≤ 2 := (by omega); simp [checkB, this])
    simp only [if_neg h6]
    by_cases h7 : d < 0
    · simp only [if_pos h7]; exact evVal jt (by have this : ¬ 0 ≤ d := (by omega); simp [checkB, this])
    simp only [if_neg h7]
    by_cases h8 : d > 1000
    · simp only [if_pos h8]; exact evVal jt (by have this : ¬ d ≤ 1000 := (by omega); simp [checkB, this])
    simp only [if_neg h8]
    by_cases h9 : e < 0
    · simp only [if_pos h9]; exact evVal jt (by have this : ¬ 0 ≤ e := (by omega); simp [checkB, this])
    simp only [if_neg h9]
    refine evPos ?_
    simp only [spec_CheckOk.j0]
    refine evConst ?_
    have g1 : 0 ≤ a := by omega
    have g2 : a ≤ 1000 := by omega
    have g3 : 1 ≤ b := by omega
    have g4 : b ≤ 5 := by omega
    have g5 : 0 ≤ c := by omega
    have g6 : c ≤ 2 := by omega
    have g7 : 0 ≤ d := by omega
    have g8 : d ≤ 1000 := by omega
    have g9 : 0 ≤ e := by omega
    simp only [checkB, hk, g1, g2, g3, g4, g5, g6, g7, g8, g9, decide_true, Bool.and_true, Bool.true_and]
    by_cases k1 : e > b
    · have k1' : ¬ e ≤ b := by omega
      simp [k1, k1']
    · have k1' : e ≤ b := by omega
      simp only [k1, k1', decide_false, Bool.false_eq_true, if_false, decide_true, Bool.true_and]
      by_cases k2 : a > 0 <;> by_cases k3 : d ≥ a <;> by_cases k4 : c = 2 <;> by_cases k5 : c = 0 <;> by_cases k6 : e = 0 <;> simp [k2, k3, k4, k5, k6] <;> omega
theorem impl_CheckOk_ev (l : List Int) (a b c d e : Int) (hl : l.length ≤ 9223372036854775807) : Ev (fun k => impl_CheckOk.f k l a b c d e) (checkB l a b c d e) := by
  unfold impl_CheckOk.f
  refine Ev.bind (KeyOk_ev l hl) ?_
  refine evConst ?_
  cases hk : keyB l with
  | false => simp [checkB, hk]
  | true =>
    simp only [within_eq, Option.bind_some, if_true, checkB, hk, Bool.true_and, impl_Check_late.f]
    by_cases h1 : 0 ≤ a <;> by_cases h2 : a ≤ 1000 <;> simp only [h1, h2, decide_true, decide_false, Bool.true_and, Bool.false_and, Bool.and_true, Bool.and_false, Bool.false_eq_true, if_true, if_false]
    by_cases h3 : 0 ≤ d <;> by_cases h4 : d ≤ 1000 <;> simp only [h3, h4, decide_true, decide_false, Bool.true_and, Bool.false_and, Bool.and_true, Bool.and_false, Bool.false_eq_true, if_true, if_false]
    by_cases h5 : 1 ≤ b <;> by_cases h6 : b ≤ 5 <;> simp only [h5, h6, decide_true, decide_false, Bool.true_and, Bool.false_and, Bool.and_true, Bool.and_false, Bool.false_eq_true, if_true, if_false]
    by_cases h7 : 0 ≤ c <;> by_cases h8 : c ≤ 2 <;> simp only [h7, h8, decide_true, decide_false, Bool.true_and, Bool.false_and, Bool.and_true, Bool.and_false, Bool.false_eq_true, if_true, if_false]
    by_cases h9 : 0 ≤ e <;> by_cases h10 : e ≤ b <;> simp only [h9, h10, decide_true, decide_false, Bool.true_and, Bool.false_and, Bool.and_true, Bool.and_false, Bool.false_eq_true, if_true, if_false]
    by_cases k2 : a > 0 <;> by_cases k3 : d ≥ a <;> by_cases k4 : c = 2 <;> by_cases k5 : c = 0 <;> by_cases k6 : e = 0 <;> simp [k2, k3, k4, k5, k6] <;> omega
/-! What CheckPass, CheckFail and CheckTick give, in one word each. -/
def passF (l : List Int) (a b c d e : Int) : List Int × Int × Int × Int × Int × Int × Bool :=
  if checkB l a b c d e = true then (l, a, b, 0, 0, 0, c != 0) else ([], 0, 0, 0, 0, 0, false)
def failF (l : List Int) (a b c d e : Int) : List Int × Int × Int × Int × Int × Int × Bool :=
  if checkB l a b c d e = true then (l, a, b, (if e + 1 < b ∧ c ≠ 2 then 1 else 2), d, (if e + 1 < b then e + 1 else b), c != (if e + 1 < b ∧ c ≠ 2 then 1 else 2)) else ([], 0, 0, 0, 0, 0, false)
def tickF (t s a n : Int) : Int × Int × Bool :=
  if t = 0 then (s, a, false) else
    if (if n > 1000 - a then 1000 else a + n) ≥ t ∧ s ≠ 2 then (2, (if n > 1000 - a then 1000 else a + n), true) else (s, (if n > 1000 - a then 1000 else a + n), false)
theorem check_facts {l : List Int} {a b c d e : Int} (h : checkB l a b c d e = true) :
    keyB l = true ∧ 0 ≤ a ∧ a ≤ 1000 ∧ 1 ≤ b ∧ b ≤ 5 ∧ 0 ≤ c ∧ c ≤ 2 ∧ 0 ≤ d ∧ d ≤ 1000 ∧ 0 ≤ e ∧ e ≤ b ∧ (a > 0 → d ≥ a → c = 2) ∧ (c = 0 → e = 0) := by
  simp only [checkB, Bool.and_eq_true, decide_eq_true_eq, Bool.or_eq_true, Bool.not_eq_true', Bool.and_eq_false_iff, decide_eq_false_iff_not] at h
  refine ⟨h.1.1, ?_⟩
  omega
theorem check_mk {l : List Int} {a b c d e : Int} (h0 : keyB l = true) (h : 0 ≤ a ∧ a ≤ 1000 ∧ 1 ≤ b ∧ b ≤ 5 ∧ 0 ≤ c ∧ c ≤ 2 ∧ 0 ≤ d ∧ d ≤ 1000 ∧ 0 ≤ e ∧ e ≤ b ∧ (a > 0 → d ≥ a → c = 2) ∧ (c = 0 → e = 0)) : checkB l a b c d e = true := by
  simp only [checkB, Bool.and_eq_true, decide_eq_true_eq, Bool.or_eq_true, Bool.not_eq_true', Bool.and_eq_false_iff, decide_eq_false_iff_not]
  refine ⟨⟨h0, ?_⟩, ?_⟩ <;> omega
theorem bne_comm_int (x y : Int) : (x != y) = (y != x) := by
  by_cases h : x = y
  · subst h; rfl
  · have h2 : (x == y) = false := beq_eq_false_iff_ne.mpr h
    have h3 : (y == x) = false := beq_eq_false_iff_ne.mpr (fun z => h z.symm)
    simp only [bne, h2, h3]
theorem tick_facts {a c d n : Int} (h : 0 ≤ a ∧ a ≤ 1000 ∧ 0 ≤ c ∧ c ≤ 2 ∧ 0 ≤ d ∧ d ≤ 1000 ∧ 0 ≤ n ∧ (a > 0 → d ≥ a → c = 2)) :
    (0 ≤ (tickF a c d n).1 ∧ (tickF a c d n).1 ≤ 2 ∧ 0 ≤ (tickF a c d n).2.1 ∧ (tickF a c d n).2.1 ≤ 1000 ∧ (a > 0 → (tickF a c d n).2.1 ≥ a → (tickF a c d n).1 = 2) ∧ ((tickF a c d n).1 = 0 → c = 0)) ∧ ((tickF a c d n).2.2 = true → (tickF a c d n).1 = 2 ∧ c ≠ 2) := by
  have hm : 0 ≤ (if n > 1000 - d then 1000 else d + n) ∧ (if n > 1000 - d then 1000 else d + n) ≤ 1000 := by split <;> omega
  unfold tickF
  generalize (if n > 1000 - d then (1000 : Int) else d + n) = m at hm ⊢
  by_cases h0 : a = 0
  · simp only [if_pos h0]
    refine ⟨by omega, fun h => by cases h⟩
  · simp only [if_neg h0]
    by_cases h1 : m ≥ a ∧ c ≠ 2
    · simp only [if_pos h1]
      exact ⟨⟨by omega, by omega, by omega, by omega, by simp, by simp⟩, fun _ => ⟨by simp, h1.2⟩⟩
    · simp only [if_neg h1]
      have h2 : m ≥ a → c = 2 := fun z => by
        by_cases q : c = 2
        · exact q
        · exact absurd ⟨z, q⟩ h1
      refine ⟨⟨by omega, by omega, by omega, by omega, fun _ z => h2 z, fun z => z⟩, fun h => by cases h⟩
theorem clone_eq (l : List Int) (h : l.length ≤ 1048576) : slices_Clone_byte_byte.f l = some l := by
  unfold slices_Clone_byte_byte.f
  exact if_pos (by omega)
theorem implOwn_eq (l : List Int) (a b c d e : Int) (h : l.length ≤ 1048576) : impl_Check_own.f l a b c d e = some (l, a, b, c, d, e) := by
  unfold impl_Check_own.f
  rw [clone_eq l h, Option.bind_some]
theorem specOwn_eq (l : List Int) (a b c d e : Int) (h : l.length ≤ 1048576) : spec_l13own.f l a b c d e = some (l, a, b, c, d, e) := by
  unfold spec_l13own.f
  simp only [Option.bind_some, List.nil_append, List.length_nil, Nat.zero_add]
  exact if_pos (by omega)
theorem specPass_ev (l : List Int) (a b c d e : Int) (h : l.length ≤ 1048576) : Ev (fun k => spec_CheckPass.f k l a b c d e) (passF l a b c d e) := by
  unfold spec_CheckPass.f
  refine Ev.bind (spec_CheckOk_ev l a b c d e (by omega)) ?_
  refine evConst ?_
  rw [specOwn_eq l a b c d e h]
  unfold passF
  cases hc : checkB l a b c d e <;> simp
theorem implPass_ev (l : List Int) (a b c d e : Int) (h : l.length ≤ 1048576) : Ev (fun k => impl_CheckPass.f k l a b c d e) (passF l a b c d e) := by
  unfold impl_CheckPass.f
  refine Ev.bind (impl_CheckOk_ev l a b c d e (by omega)) ?_
  refine evConst ?_
  rw [implOwn_eq l a b c d e h]
  unfold passF
  cases hc : checkB l a b c d e with
  | false => simp
  | true => simp only [if_true, Option.bind_some, bne_comm_int 0]
theorem specFail_ev (l : List Int) (a b c d e : Int) (h : l.length ≤ 1048576) : ∃ R, Ev (fun k => spec_CheckFail.f k l a b c d e) R ∧ R.1.length ≤ l.length := by
  unfold spec_CheckFail.f
  have h1 := spec_CheckOk_ev l a b c d e (by omega)
  rw [specOwn_eq l a b c d e h]
  cases hc : checkB l a b c d e with
  | false =>
    rw [hc] at h1
    refine ⟨([], 0, 0, 0, 0, 0, false), Ev.bind h1 ?_, ?_⟩
    · simp only [Bool.false_eq_true, if_false]; exact Ev.now _
    · simp
  | true =>
    rw [hc] at h1
    have j : ∀ f : Int, ∃ R, Ev (fun k => spec_CheckFail.j0 k c l a b c d f) R ∧ R.1.length ≤ l.length := by
      intro f
      refine ⟨(l, a, b, (if f ≥ b then 2 else if c = 2 then c else 1), d, f, (c != (if f ≥ b then 2 else if c = 2 then c else 1))), evPos ?_, by simp⟩
      simp only [spec_CheckFail.j0]
      refine evConst ?_
      by_cases c1 : c = 2 <;> by_cases c2 : f ≥ b
      · subst c1; simp only [if_pos c2, if_true]
      · subst c1; simp only [if_neg c2, if_true]
      · simp only [if_pos c2, if_neg c1]
      · simp only [if_neg c2, if_neg c1]
    simp only [Option.bind_some]
    by_cases c3 : e < b
    · obtain ⟨R, r1, r2⟩ := j (wrap64 (e + 1))
      exact ⟨R, Ev.bind h1 (by simpa only [if_true, if_pos c3] using r1), r2⟩
    · obtain ⟨R, r1, r2⟩ := j e
      exact ⟨R, Ev.bind h1 (by simpa only [if_true, if_neg c3] using r1), r2⟩
theorem specTick_some (l : List Int) (a b c d e n : Int) : ∃ t l' a' b' c' d' e', spec_l13tick.f l a b c d e n = some (t, l', a', b', c', d', e') ∧ l'.length ≤ l.length := by
  unfold spec_l13tick.f
  repeat' split
  all_goals exact ⟨_, _, _, _, _, _, _, rfl, Nat.le_refl _⟩
theorem implFail_ev (l : List Int) (a b c d e : Int) (h : l.length ≤ 1048576) : Ev (fun k => impl_CheckFail.f k l a b c d e) (failF l a b c d e) := by
  unfold impl_CheckFail.f
  refine Ev.bind (impl_CheckOk_ev l a b c d e (by omega)) ?_
  refine evConst ?_
  rw [implOwn_eq l a b c d e h]
  unfold failF
  cases hc : checkB l a b c d e with
  | false => simp
  | true =>
    have f := check_facts hc
    have hw : wrap64 (e + 1) = e + 1 := by unfold wrap64; omega
    have hm : mn b (e + 1) = if e + 1 < b then e + 1 else b := rfl
    simp only [if_true, Option.bind_some, hw, hm, bne_comm_int c]
    by_cases h3 : e + 1 < b
    · by_cases h2 : c = 2 <;> simp [h3, h2]
    · simp [h3]
theorem implTick_ev (l : List Int) (a b c d e n : Int) (hn : n ≤ 9223372036854775807) (h : l.length ≤ 1048576) : Ev (fun k => impl_CheckTick.f k l a b c d e n)
    (if checkB l a b c d e = true ∧ 0 ≤ n then (l, a, b, (tickF a c d n).1, (tickF a c d n).2.1, e, (tickF a c d n).2.2) else ([], 0, 0, 0, 0, 0, false)) := by
  unfold impl_CheckTick.f
  refine Ev.bind (impl_CheckOk_ev l a b c d e (by omega)) ?_
  refine evConst ?_
  cases hc : checkB l a b c d e with
  | false => simp
  | true =>
    have f := check_facts hc
    by_cases h0 : n < 0
    · have h0' : ¬ 0 ≤ n := by omega
      simp [h0, h0']
    · have h0' : 0 ≤ n := by omega
      have w1 : wrap64 (1000 - d) = 1000 - d := by unfold wrap64; omega
      have w3 : wrap64 (d + mn n (1000 - d)) = (if n > 1000 - d then 1000 else d + n) := by
        have hm : mn n (1000 - d) = if n > 1000 - d then 1000 - d else n := by unfold mn; rfl
        rw [hm]; split <;> unfold wrap64 <;> omega
      simp only [h0, h0', if_false, and_self, if_true, impl_Check_tick.f, implOwn_eq l a b c d e h, Option.bind_some, w1, w3, impl_Check_late.f, tickF]
      by_cases k1 : a = 0
      · simp [k1]
      · have k1' : a > 0 := by omega
        by_cases k3 : (if n > 1000 - d then 1000 else d + n) ≥ a
        · by_cases k4 : c = 2
          · simp [k1, k1', k3, k4]
          · have k5 : ((2 : Int) != c) = true := by rw [bne_iff_ne]; exact fun x => k4 x.symm
            simp only [k1, k1', k3, k4, k5, if_false, if_true, Option.bind_some, decide_true, ne_eq, not_false_eq_true, and_self]
        · simp [k1, k1', k3]
/-! The draw: it always answers, with a short name. -/
theorem draw_loop (b : List Int) (hb : b.length ≤ 140737488355328) (d : Nat) : ∀ (n x6 : Int) (i h : Int) (l : List Int) (p q r s t : Int), 0 ≤ x6 → n - x6 = d → n ≤ 6 → Ok b i → l.length ≤ 1048576 →
    ∃ R, Ev (fun k => spec_l13draw.l0 k n x6 b i h l p q r s t) R ∧ R.1.length ≤ 1048576 ∧ Ok b R.2.2.2.2.2.2.1 := by
  induction d with
  | zero =>
    intro n x6 i h l p q r s t h0 h1 hn hi hl
    have hge : ¬ x6 < n := by omega
    refine ⟨(l, p, q, r, s, t, i, h), evPos ?_, hl, hi⟩
    simp only [spec_l13draw.l0, if_neg hge]; exact Ev.now _
  | succ d ih =>
    intro n x6 i h l p q r s t h0 h1 hn hi hl
    have hlt : x6 < n := by omega
    have hw : wrap64 (x6 + 1) = x6 + 1 := by unfold wrap64; omega
    obtain ⟨x, i', h', e, x0, x1, hi'⟩ := below_some b i h 3 hb hi (by omega) (by omega)
    by_cases c1 : x = 0
    · have hp := specPass_ev l p q r s t hl
      have hq : (passF l p q r s t).1.length ≤ 1048576 := by unfold passF; split <;> simp [hl]
      generalize passF l p q r s t = P at hp hq
      obtain ⟨P0, P1, P2, P3, P4, P5, P6⟩ := P
      obtain ⟨R, r1, r2⟩ := ih n (x6 + 1) i' h' P0 P1 P2 P3 P4 P5 (by omega) (by omega) hn hi' hq
      refine ⟨R, evPos ?_, r2⟩
      simp only [spec_l13draw.l0, if_pos hlt, e, Option.bind_some, if_pos c1, hw]
      exact Ev.bind hp r1
    · by_cases c2 : x = 1
      · obtain ⟨P, hp, hq⟩ := specFail_ev l p q r s t hl
        obtain ⟨P0, P1, P2, P3, P4, P5, P6⟩ := P
        obtain ⟨R, r1, r2⟩ := ih n (x6 + 1) i' h' P0 P1 P2 P3 P4 P5 (by omega) (by omega) hn hi' (by simp only at hq; omega)
        refine ⟨R, evPos ?_, r2⟩
        simp only [spec_l13draw.l0, if_pos hlt, e, Option.bind_some, if_neg c1, if_pos c2, hw]
        exact Ev.bind hp r1
      · obtain ⟨y, i2, h2, e2, y0, y1, hi2⟩ := below_some b i' h' 5 hb hi' (by omega) (by omega)
        obtain ⟨P6, P0, P1, P2, P3, P4, P5, e3, hq⟩ := specTick_some l p q r s t y
        obtain ⟨R, r1, r2⟩ := ih n (x6 + 1) i2 h2 P0 P1 P2 P3 P4 P5 (by omega) (by omega) hn hi2 (by omega)
        refine ⟨R, evPos ?_, r2⟩
        simp only [spec_l13draw.l0, if_pos hlt, e, e2, e3, Option.bind_some, if_neg c1, if_neg c2, hw]
        exact r1
theorem l13draw_ev (b : List Int) (hb : b.length ≤ 140737488355328) (i h : Int) (hi : Ok b i) : ∃ R, Ev (fun k => spec_l13draw.f k b i h) R ∧ R.1.length ≤ 1048576 ∧ Ok b R.2.2.2.2.2.2.1 := by
  obtain ⟨l, i1, h1, e1, hl, hi1⟩ := drawKey_some b i h hb hi
  obtain ⟨x2, i2, h2, e2, _, _, hi2⟩ := below_some b i1 h1 3 hb hi1 (by omega) (by omega)
  obtain ⟨x3, i3, h3, e3, _, _, hi3⟩ := below_some b i2 h2 6 hb hi2 (by omega) (by omega)
  obtain ⟨x4, i4, h4, e4, _, _, hi4⟩ := below_some b i3 h3 3 hb hi3 (by omega) (by omega)
  obtain ⟨x5, i5, h5, e5, y0, y1, hi5⟩ := below_some b i4 h4 6 hb hi4 (by omega) (by omega)
  have hn : ∃ P : List Int × Int × Int × Int × Int × Int × Bool, Ev (fun k => spec_CheckNew.f k l (wrap64 (x2 * x3)) (wrap64 (1 + x4))) P ∧ P.1.length ≤ 3 := by
    have hg : ([] : List Int).length + l.length < 140737488355328 := by simp; omega
    have hc := spec_CheckOk_ev ([] ++ l) (wrap64 (x2 * x3)) (wrap64 (1 + x4)) 2 0 0 (by simp; omega)
    cases hcc : checkB ([] ++ l) (wrap64 (x2 * x3)) (wrap64 (1 + x4)) 2 0 0 with
    | true =>
      rw [hcc] at hc
      refine ⟨([] ++ l, wrap64 (x2 * x3), wrap64 (1 + x4), 2, 0, 0, true), ?_, ?_⟩
      · unfold spec_CheckNew.f
        simp only [Option.bind_some, if_pos hg]
        refine Ev.bind hc ?_
        simp only [if_true]; exact Ev.now _
      · simpa using hl
    | false =>
      rw [hcc] at hc
      refine ⟨([], 0, 0, 0, 0, 0, false), ?_, ?_⟩
      · unfold spec_CheckNew.f
        simp only [Option.bind_some, if_pos hg]
        refine Ev.bind hc ?_
        simp only [Bool.false_eq_true, if_false]; exact Ev.now _
      · simp
  obtain ⟨⟨P0, P1, P2, P3, P4, P5, P6⟩, hP, hPl⟩ := hn
  simp only at hPl
  obtain ⟨R, r1, r2⟩ := draw_loop b hb x5.toNat x5 0 i5 h5 P0 P1 P2 P3 P4 P5 (by omega) (by omega) (by omega) hi5 (by omega)
  refine ⟨R, ?_, r2⟩
  unfold spec_l13draw.f
  simp only [e1, e2, e3, e4, Option.bind_some]
  refine Ev.bind hP ?_
  simp only [e5, Option.bind_some]
  exact r1
theorem l13bent_ev (b : List Int) (hb : b.length ≤ 140737488355328) (i h : Int) (hi : Ok b i) : ∃ R, Ev (fun k => spec_l13bent.f k b i h) R ∧ R.1.length ≤ 1048576 ∧ Ok b R.2.2.2.2.2.2.1 := by
  obtain ⟨⟨l, p, q, r, s, t, i1, h1⟩, r1, r2, r3⟩ := l13draw_ev b hb i h hi
  simp only at r2 r3
  unfold spec_l13bent.f
  obtain ⟨x, i2, h2, e2, hi2⟩ := once_some b i1 h1 7 hb r3 (by omega) (by omega)
  cases x with
  | false =>
    refine ⟨(l, p, q, r, s, t, i2, h2), Ev.bind r1 ?_, r2, hi2⟩
    simp only [e2, Option.bind_some, Bool.false_eq_true, if_false]
    exact Ev.now _
  | true =>
    obtain ⟨y, i3, h3, e3, y0, y1, hi3⟩ := below_some b i2 h2 6 hb hi2 (by omega) (by omega)
    by_cases c0 : y = 0
    · refine ⟨([65], p, q, r, s, t, i3, h3), Ev.bind r1 ?_, by simp, hi3⟩
      simp only [e2, e3, Option.bind_some, if_true, if_pos c0]
      exact Ev.now _
    by_cases c1 : y = 1
    · obtain ⟨z, i4, h4, e4, hi4⟩ := pick_some b i3 h3 [(-1), 0, 1, 1000, 1001] hb hi3 (by simp) (by simp)
      refine ⟨(l, z, q, r, s, t, i4, h4), Ev.bind r1 ?_, r2, hi4⟩
      simp only [e2, e3, e4, Option.bind_some, if_true, if_neg c0, if_pos c1]
      exact Ev.now _
    by_cases c2 : y = 2
    · obtain ⟨z, i4, h4, e4, hi4⟩ := pick_some b i3 h3 [0, 1, 5, 6] hb hi3 (by simp) (by simp)
      refine ⟨(l, p, z, r, s, t, i4, h4), Ev.bind r1 ?_, r2, hi4⟩
      simp only [e2, e3, e4, Option.bind_some, if_true, if_neg c0, if_neg c1, if_pos c2]
      exact Ev.now _
    by_cases c3 : y = 3
    · obtain ⟨z, i4, h4, e4, _, _, hi4⟩ := below_some b i3 h3 5 hb hi3 (by omega) (by omega)
      refine ⟨(l, p, q, wrap64 (z - 1), s, t, i4, h4), Ev.bind r1 ?_, r2, hi4⟩
      simp only [e2, e3, e4, Option.bind_some, if_true, if_neg c0, if_neg c1, if_neg c2, if_pos c3]
      exact Ev.now _
    by_cases c4 : y = 4
    · obtain ⟨z, i4, h4, e4, hi4⟩ := pick_some b i3 h3 [(-1), 3, 1000, 1001] hb hi3 (by simp) (by simp)
      refine ⟨(l, p, q, r, z, t, i4, h4), Ev.bind r1 ?_, r2, hi4⟩
      simp only [e2, e3, e4, Option.bind_some, if_true, if_neg c0, if_neg c1, if_neg c2, if_neg c3, if_pos c4]
      exact Ev.now _
    · obtain ⟨z, i4, h4, e4, hi4⟩ := pick_some b i3 h3 [(-1), 0, 1, 9] hb hi3 (by simp) (by simp)
      refine ⟨(l, p, q, r, s, z, i4, h4), Ev.bind r1 ?_, r2, hi4⟩
      simp only [e2, e3, e4, Option.bind_some, if_true, if_neg c0, if_neg c1, if_neg c2, if_neg c3, if_neg c4]
      exact Ev.now _
theorem pick_in (b : List Int) (i h : Int) (l : List Int) (hb : b.length ≤ 140737488355328) (hi : Ok b i) (hn0 : 0 < l.length) (hn : l.length ≤ 256) :
    ∃ x i' h', spec_l1PickInt.f b i h l = some (x, i', h') ∧ Ok b i' ∧ x ∈ l := by
  obtain ⟨x, i', h', e, x0, x1, hi'⟩ := below_some b i h l.length hb hi (by omega) (by omega)
  unfold spec_l1PickInt.f
  rw [e]
  simp only [Option.bind_some]
  rw [if_pos x0, if_pos x1]
  exact ⟨_, _, _, rfl, hi', by rw [rd_lt x0 x1]; exact List.getElem_mem _⟩
theorem drawTick_ev (l0 : List Int) (hl : l0.length ≤ 140737488355328) : ∃ l a b c d e n, Ev (fun k => spec_DrawCheckTick.f k l0) (l, a, b, c, d, e, n) ∧ l.length ≤ 1048576 ∧ n ≤ 9223372036854775807 := by
  obtain ⟨h0, hN⟩ : ∃ h, Ev (fun k => spec_l1New.f k l0) (l0, 0, h) := by
    unfold spec_l1New.f
    obtain ⟨h', e⟩ := new_some l0 hl l0.length (l0.length + 1) (wrap64 (36565 + (l0.length : Int))) 0 (by omega) (by omega) (by omega) (by omega)
    exact ⟨h', Ev.of (fun k => spec_l1New.mono_l k _ _ _) e⟩
  obtain ⟨⟨l, p, q, r, s, t, i1, h1⟩, r1, r2, r3⟩ := l13bent_ev l0 hl 0 h0 ⟨by omega, by omega⟩
  simp only at r2 r3
  obtain ⟨z, i4, h4, e4, hi4, hz⟩ := pick_in l0 i1 h1 [0, 1, 3, 9, (-1), 1000, 9223372036854775807] hl r3 (by simp) (by simp)
  refine ⟨l, p, q, r, s, t, z, ?_, r2, ?_⟩
  · unfold spec_DrawCheckTick.f
    refine Ev.bind hN ?_
    refine Ev.bind r1 ?_
    simp only [e4, Option.bind_some]
    exact Ev.now _
  · simp only [List.mem_cons, List.not_mem_nil, or_false] at hz
    omega
/-! The law. -/
theorem status0 : impl_StatusText.f 0 = some [112, 97, 115, 115, 105, 110, 103] := by
  unfold impl_StatusText.f
  rw [within_eq]
  rfl
theorem worst_nil : Ev (fun k => impl_Worst.f k []) 0 := by
  unfold impl_Worst.f
  refine evPos ?_
  simp only [impl_Worst.l0]
  exact Ev.now _
theorem worst_two (x y : S24) (hx : x.f0.length ≤ 1048576) (hy : y.f0.length ≤ 1048576) (h1 : checkB x.f0 x.f1 x.f2 x.f3 x.f4 x.f5 = true) (h2 : checkB y.f0 y.f1 y.f2 y.f3 y.f4 y.f5 = true) (h3 : x.f3 = 0) (h4 : y.f3 = 2) : Ev (fun k => impl_Worst.f k [x, y]) 2 := by
  unfold impl_Worst.f
  have e1 := impl_CheckOk_ev x.f0 x.f1 x.f2 x.f3 x.f4 x.f5 (by omega)
  have e2 := impl_CheckOk_ev y.f0 y.f1 y.f2 y.f3 y.f4 y.f5 (by omega)
  rw [h1] at e1
  rw [h2] at e2
  have w1 : wrap64 ((0 : Int) + 1) = 1 := by unfold wrap64; omega
  have w2 : wrap64 ((1 : Int) + 1) = 2 := by unfold wrap64; omega
  have m1 : mx (mx 0 x.f3) y.f3 = 2 := by rw [h3, h4]; rfl
  have g0 : rd_T24 [x, y] 0 = x := rfl
  have g1 : rd_T24 [x, y] 1 = y := rfl
  have p1 : (0 : Int) < (([x, y].length : Nat) : Int) := by simp
  have p2 : (1 : Int) < (([x, y].length : Nat) : Int) := by simp
  have p3 : ¬ (2 : Int) < (([x, y].length : Nat) : Int) := by simp
  have q0 : (0 : Int) ≤ 0 := by omega
  have q1 : (0 : Int) ≤ 1 := by omega
  refine evPos ?_
  simp only [impl_Worst.l0, if_pos p1, if_pos q0, g0, w1]
  refine Ev.bind e1 ?_
  simp only [if_true]
  refine evPos ?_
  simp only [impl_Worst.l0, if_pos p2, if_pos q1, g1, w2]
  refine Ev.bind e2 ?_
  simp only [if_true]
  refine evPos ?_
  simp only [impl_Worst.l0, if_neg p3, m1]
  exact Ev.now _
theorem fails_loop (l : List Int) (a b c d e : Int) (hl : l.length ≤ 1048576) (hk : keyB l = true) (ha : 0 ≤ a ∧ a ≤ 1000) (hb : 1 ≤ b ∧ b ≤ 5) (n : Nat) : ∀ (i s : Int), 0 ≤ i → b - i = n → (i = b → s = 2) → (i < b → 0 ≤ s ∧ s ≤ 1 ∧ (s = 0 → i = 0)) →
    Ev (fun k => laws_FnChecks.l0 k i l a b c d e l a b 0 0 0 l a b s 0 i) true := by
  induction n with
  | zero =>
    intro i s h0 h1 h2 h3
    obtain rfl : i = b := by omega
    have hs := h2 rfl
    subst hs
    have hge : ¬ i < i := by omega
    refine evPos ?_
    simp only [laws_FnChecks.l0, if_neg hge, if_true]
    have k1 : checkB l a i 0 0 0 = true := check_mk hk (by omega)
    have k2 : checkB l a i 2 0 i = true := check_mk hk (by omega)
    refine Ev.bind (worst_two ⟨l, a, i, 0, 0, 0⟩ ⟨l, a, i, 2, 0, i⟩ hl hl k1 k2 rfl rfl) ?_
    simp only [if_true]
    refine Ev.bind worst_nil ?_
    exact Ev.now _
  | succ n ih =>
    intro i s h0 h1 h2 h3
    have hlt : i < b := by omega
    obtain ⟨s0, s1, s2⟩ := h3 hlt
    have hw : wrap64 (i + 1) = i + 1 := by unfold wrap64; omega
    have hne : ¬ s = 2 := by omega
    have hf := implFail_ev l a b s 0 i hl
    have hc : checkB l a b s 0 i = true := check_mk hk (by omega)
    unfold failF at hf
    rw [hc] at hf
    simp only [if_true] at hf
    refine evPos ?_
    simp only [laws_FnChecks.l0, if_pos hlt, if_neg hne, hw]
    refine Ev.bind hf ?_
    by_cases hi : i + 1 < b
    · simp only [hi, ne_eq, hne, not_false_eq_true, and_self, if_true]
      exact ih (i + 1) 1 (by omega) (by omega) (by omega) (by omega)
    · have e1 : b = i + 1 := by omega
      simp only [hi, false_and, if_false]
      have := ih (i + 1) 2 (by omega) (by omega) (by omega) (by omega)
      rw [← e1] at this ⊢
      exact this
theorem FnChecks : laws_FnChecks.Pure := by
  intro l0 _ hl _
  suffices h : Ev (fun k => laws_FnChecks.f k l0) true from h.rounds
  unfold laws_FnChecks.f
  obtain ⟨l, a, b, c, d, e, n, hD, hl1, hn⟩ := drawTick_ev l0 (by omega)
  refine Ev.bind hD ?_
  refine Ev.bind (implTick_ev l a b c d e n hn hl1) ?_
  refine Ev.bind (spec_CheckOk_ev l a b c d e (by omega)) ?_
  have bad : ¬ (checkB l a b c d e = true ∧ 0 ≤ n) → Ev (fun k => laws_FnChecks.j0 k n (if checkB l a b c d e = true ∧ 0 ≤ n then (l, a, b, (tickF a c d n).1, (tickF a c d n).2.1, e, (tickF a c d n).2.2) else ([], 0, 0, 0, 0, 0, false)).2.2.2.2.2.2 true l a b c d e
      (if checkB l a b c d e = true ∧ 0 ≤ n then (l, a, b, (tickF a c d n).1, (tickF a c d n).2.1, e, (tickF a c d n).2.2) else ([], 0, 0, 0, 0, 0, false)).1 0 0 0 0 0) true := by
    intro hb
    rw [if_neg hb]
    refine evPos ?_
    simp only [laws_FnChecks.j0, if_true, Bool.false_eq_true, if_false, List.length_nil, status0, Option.bind_some]
    exact Ev.now _
  cases hc : checkB l a b c d e with
  | false =>
    simp only [Bool.false_eq_true, if_false, false_and]
    refine evPos ?_
    simp only [laws_FnChecks.j0, if_true, Bool.false_eq_true, if_false, List.length_nil, status0, Option.bind_some]
    exact Ev.now _
  | true =>
    simp only [if_true, true_and]
    by_cases hn0 : 0 ≤ n
    · have hn1 : ¬ n < 0 := by omega
      have f := check_facts hc
      obtain ⟨f0, f⟩ := f
      simp only [if_pos hn0, hn1, decide_false]
      refine evPos ?_
      simp only [laws_FnChecks.j0, Bool.false_eq_true, if_false]
      have hp := implPass_ev l a b c d e hl1
      unfold passF at hp
      rw [hc] at hp
      simp only [if_true] at hp
      refine Ev.bind hp ?_
      have hx : checkB l a b (tickF a c d n).1 (tickF a c d n).2.1 e = true := by
        refine check_mk f0 ?_
        have tf := (tick_facts (a := a) (c := c) (d := d) (n := n) (by omega)).1
        omega
      have hok := impl_CheckOk_ev l a b (tickF a c d n).1 (tickF a c d n).2.1 e (by omega)
      rw [hx] at hok
      refine Ev.bind hok ?_
      simp only [if_true]
      -- the second half
      have tail : Ev (fun k => laws_FnChecks.j1 k n false l a b c d e l a b 0 0 0) true := by
        refine evPos ?_
        simp only [laws_FnChecks.j1, Bool.false_eq_true, if_false]
        have hy : checkB l a b 0 0 0 = true := check_mk f0 (by omega)
        have ht := implTick_ev l a b 0 0 0 n hn hl1
        rw [hy] at ht
        simp only [true_and, if_pos hn0] at ht
        refine Ev.bind ht ?_
        have j2 : Ev (fun k => laws_FnChecks.j2 k false l a b c d e l a b 0 0 0) true := by
          refine evPos ?_
          simp only [laws_FnChecks.j2, Bool.false_eq_true, if_false]
          exact fails_loop l a b c d e hl1 f0 (by omega) (by omega) b.toNat 0 0 (by omega) (by omega) (by omega) (by omega)
        by_cases ha : a > 0
        · have ha0 : ¬ a = 0 := by omega
          by_cases hna : n ≥ a
          · have h1 : (if n > 1000 - 0 then 1000 else 0 + n) ≥ a := by split <;> omega
            have h2 : tickF a 0 0 n = (2, (if n > 1000 - 0 then 1000 else 0 + n), true) := by
              unfold tickF
              rw [if_neg ha0, if_pos ⟨h1, by omega⟩]
            simp only [if_pos ha, h2, hna, decide_true, bne_self_eq_false, Bool.false_eq_true, if_false, beq_self_eq_true]
            exact j2
          · have h1 : ¬ (if n > 1000 - 0 then 1000 else 0 + n) ≥ a := by split <;> omega
            have h2 : tickF a 0 0 n = (0, (if n > 1000 - 0 then 1000 else 0 + n), false) := by
              unfold tickF
              rw [if_neg ha0, if_neg (fun z => h1 z.1)]
            have h3 : ((0 : Int) == 2) = false := rfl
            simp only [if_pos ha, h2, hna, decide_false, bne_self_eq_false, Bool.false_eq_true, if_false, h3]
            exact j2
        · have ha0 : a = 0 := by omega
          have h2 : tickF a 0 0 n = (0, 0, false) := by
            unfold tickF
            rw [if_pos ha0]
          have h3 : ((0 : Int) == 2) = false := rfl
          simp only [if_neg ha, h2, bne_self_eq_false, Bool.false_eq_true, if_false, h3]
          exact j2
      cases ht : (tickF a c d n).2.2 with
      | false => simp only [Bool.false_eq_true, if_false]; exact tail
      | true =>
        have h2 : (tickF a c d n).1 = 2 ∧ c ≠ 2 := (tick_facts (a := a) (c := c) (d := d) (n := n) (by omega)).2 ht
        have h3 : (c == 2) = false := beq_eq_false_iff_ne.mpr h2.2
        simp only [if_true, h2.1, h3]
        exact tail
    · have hn1 : n < 0 := by omega
      simp only [if_neg hn0, hn1, decide_true]
      refine evPos ?_
      simp only [laws_FnChecks.j0, if_true, Bool.false_eq_true, if_false, List.length_nil, status0, Option.bind_some]
      exact Ev.now _

end Go.Proofs.Ytgkoinnjpcpccaa.Pure
