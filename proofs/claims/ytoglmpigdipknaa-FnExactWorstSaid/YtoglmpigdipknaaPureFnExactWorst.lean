/- The program's Worst gives what the reference's Worst gives, for every argument. No condition. -/
import Derived.Test.YtoglmpigdipknaaArgsFnExactWorst
namespace Go.Proofs.Ytoglmpigdipknaa.Pure
open Go.RowKit Go.Proofs.Ytoglmpigdipknaa.AFnExactWorst Go.Proofs.Ytoglmpigdipknaa.XFnExactWorst Go.Proofs.YtoglmpigdipknaaW.PrintWords Go.Proofs.YtoglmpigdipknaaW.PrintLast
set_option linter.unusedSimpArgs false
set_option linter.unusedVariables false
theorem wrap_up {i : Int} {n : Nat} (h0 : 0 ≤ i) (h : i < (n : Int)) (hn : n ≤ 9223372036854775807) : wrap64 (i + 1) = i + 1 := by
  unfold wrap64; omega
theorem evPos {α : Type} {g : Nat → Option α} {r : α} (h : Ev (fun k => g (k + 1)) r) : Ev g r := by
  obtain ⟨K, hK⟩ := h
  refine ⟨K + 1, fun k hk => ?_⟩
  obtain ⟨m, rfl⟩ : ∃ m, k = m + 1 := ⟨k - 1, by omega⟩
  exact hK m (by omega)
theorem evConst {α : Type} {a : Option α} {r : α} (h : a = some r) : Ev (fun _ => a) r := ⟨0, fun _ _ => h⟩
theorem evShift {α : Type} {g : Nat → Option α} {r : α} (h : Ev g r) : Ev (fun k => g (k + 1)) r := by
  obtain ⟨K, hK⟩ := h
  exact ⟨K, fun k hk => hK (k + 1) (by omega)⟩
theorem evVal {α : Type} {g : Nat → Option α} {r r' : α} (h : Ev g r) (e : r = r') : Ev g r' := e ▸ h
theorem rd_lt {l : List Int} {i : Int} (h0 : 0 ≤ i) (h : i < (l.length : Int)) : rd l i = l[i.toNat]'(by omega) := by
  unfold rd; rw [List.getD_eq_getElem?_getD, List.getElem?_eq_getElem (by omega)]; rfl
/-! toByteS, eqByteS, szByteS: a copy is what it copies; two lists are equal. -/
theorem toByteS_loop (l : List Int) (hl : l.length ≤ 281474976710656) (d : Nat) : ∀ (x : List Int) (i : Int), 0 ≤ i → i ≤ l.length → (l.length : Int) - i = d → x.length = l.length → x.take i.toNat = l.take i.toNat →
    Ev (fun k => laws_toByteS.l0 k l x i) l := by
  induction d with
  | zero =>
    intro x i h0 h1 hd hx ht
    have hge : ¬ i < (l.length : Int) := by omega
    refine evPos ?_
    simp only [laws_toByteS.l0, if_neg hge]
    refine evConst ?_
    have e : i.toNat = l.length := by omega
    rw [e, List.take_length] at ht
    rw [← hx, List.take_length] at ht
    rw [ht]
  | succ d ih =>
    intro x i h0 h1 hd hx ht
    refine evPos ?_
    simp only [laws_toByteS.l0]
    have hlt : i < (l.length : Int) := by omega
    have hlt' : i < (x.length : Int) := by omega
    have hw : wrap64 (i + 1) = i + 1 := wrap_up h0 hlt (by omega)
    simp only [if_pos hlt, if_pos h0, if_pos hlt', hw]
    refine ih _ (i + 1) (by omega) (by omega) (by omega) (by simp [hx]) ?_
    have e : (i + 1).toNat = i.toNat + 1 := by omega
    have hi : i.toNat < l.length := by omega
    have hi' : i.toNat < x.length := by omega
    rw [e, List.take_succ_eq_append_getElem hi, List.take_succ_eq_append_getElem (by simpa using hi')]
    rw [List.take_set_of_le (Nat.le_refl _), ht, List.getElem_set_self, rd_lt h0 hlt]
theorem toByteS_ev (l : List Int) (hl : l.length ≤ 281474976710656) : Ev (fun k => laws_toByteS.f k l) l := by
  unfold laws_toByteS.f
  have h1 : 0 ≤ (l.length : Int) := by omega
  have h2 : ((l.length : Int)).toNat ≤ 281474976710656 := by omega
  simp only [if_pos h1, if_pos h2]
  exact toByteS_loop l hl l.length _ 0 (by omega) (by omega) (by omega) (by simp) (by simp)
theorem eqByteS_loop (l : List Int) (hl : l.length ≤ 281474976710656) (d : Nat) : ∀ (i : Int), 0 ≤ i → i ≤ l.length → (l.length : Int) - i = d → Ev (fun k => laws_eqByteS.l0 k l l i) true := by
  induction d with
  | zero =>
    intro i h0 h1 hd
    have hge : ¬ i < (l.length : Int) := by omega
    refine evPos ?_
    simp only [laws_eqByteS.l0, if_neg hge]
    exact Ev.now _
  | succ d ih =>
    intro i h0 h1 hd
    refine evPos ?_
    simp only [laws_eqByteS.l0]
    have hlt : i < (l.length : Int) := by omega
    have hw : wrap64 (i + 1) = i + 1 := wrap_up h0 hlt (by omega)
    simp only [if_pos hlt, if_pos h0, if_true, hw]
    exact ih (i + 1) (by omega) (by omega) (by omega)
theorem eqByteS_ev (l : List Int) (hl : l.length ≤ 281474976710656) : Ev (fun k => laws_eqByteS.f k l l) true := by
  unfold laws_eqByteS.f
  simp only [if_true]
  exact eqByteS_loop l hl l.length 0 (by omega) (by omega) (by omega)
theorem szByteS_eq (l : List Int) (a : Int) (hl : l.length ≤ 9223372036854775807) (ha : -1 ≤ a) (ha' : a ≤ 1048576) : laws_szByteS.f l a = some (if (l.length : Int) ≤ a then a - l.length else -1) := by
  unfold laws_szByteS.f
  have w : wrap64 (a - (l.length : Int)) = a - l.length := by unfold wrap64; omega
  rw [w]
  by_cases h : (l.length : Int) ≤ a
  · rw [if_neg (by omega), if_pos h]
  · rw [if_pos (by omega), if_neg h]
theorem within_eq (a b c : Int) : impl_within.f a b c = some (decide (b ≤ a) && decide (a ≤ c)) := by
  unfold impl_within.f
  by_cases h : b ≤ a <;> simp [h]
/-! A key: what the program asks and what the reference asks is one. -/
def keyByte (c : Int) : Bool := decide (97 ≤ c) && decide (c ≤ 122) || decide (c = 47)
def keyB (l : List Int) : Bool := decide (1 ≤ l.length) && decide (l.length ≤ 20) && l.all keyByte
theorem all_drop {l : List Int} {i : Int} (h0 : 0 ≤ i) (h : i < (l.length : Int)) (p : Int → Bool) : (l.drop i.toNat).all p = (p (rd l i) && (l.drop (i + 1).toNat).all p) := by
  have e : (i + 1).toNat = i.toNat + 1 := by omega
  rw [e, List.drop_eq_getElem_cons (by omega), List.all_cons, rd_lt h0 h]
theorem KeyOk_loop (l : List Int) (hl : l.length ≤ 9223372036854775807) (d : Nat) : ∀ (i : Int), 0 ≤ i → i ≤ l.length → (l.length : Int) - i = d →
    Ev (fun k => impl_KeyOk.l0 k l l (l.length : Int) i) ((l.drop i.toNat).all keyByte && (decide (1 ≤ l.length) && decide (l.length ≤ 20))) := by
  induction d with
  | zero =>
    intro i h0 h1 hd
    have hge : ¬ i < (l.length : Int) := by omega
    refine evPos ?_
    simp only [impl_KeyOk.l0, if_neg hge]
    refine evConst ?_
    rw [within_eq, List.drop_eq_nil_of_le (by omega)]
    have a : ((1 : Int) ≤ (l.length : Int)) ↔ 1 ≤ l.length := by omega
    have b : ((l.length : Int) ≤ 20) ↔ l.length ≤ 20 := by omega
    simp [a, b]
  | succ d ih =>
    intro i h0 h1 hd
    refine evPos ?_
    simp only [impl_KeyOk.l0]
    have hlt : i < (l.length : Int) := by omega
    rw [all_drop h0 hlt]
    simp only [if_pos hlt, if_pos h0, wrap_up h0 hlt hl]
    by_cases c1 : rd l i < 97
    · simp only [if_pos c1]
      by_cases c2 : rd l i = 47
      · simp only [if_pos c2]
        exact evVal (ih (i + 1) (by omega) (by omega) (by omega)) (by simp [keyByte, c2])
      · simp only [if_neg c2]
        refine evConst ?_
        have : keyByte (rd l i) = false := by simp [keyByte]; omega
        simp [this]
    · simp only [if_neg c1]
      by_cases c3 : rd l i > 122
      · simp only [if_pos c3]
        by_cases c2 : rd l i = 47
        · omega
        · simp only [if_neg c2]
          refine evConst ?_
          have : keyByte (rd l i) = false := by simp [keyByte]; omega
          simp [this]
      · simp only [if_neg c3]
        refine evVal (ih (i + 1) (by omega) (by omega) (by omega)) ?_
        have : keyByte (rd l i) = true := by simp [keyByte]; omega
        simp [this]
theorem KeyOk_ev (l : List Int) (hl : l.length ≤ 9223372036854775807) : Ev (fun k => impl_KeyOk.f k l) (keyB l) := by
  unfold impl_KeyOk.f
  exact evVal (KeyOk_loop l hl l.length 0 (by omega) (by omega) (by omega)) (by simp [keyB, Bool.and_comm])
theorem l2key_loop (l : List Int) (hl : l.length ≤ 9223372036854775807) (d : Nat) : ∀ (i : Int), 0 ≤ i → i ≤ l.length → (l.length : Int) - i = d →
    Ev (fun k => spec_l2key.l0 k l i) ((l.drop i.toNat).all keyByte) := by
  induction d with
  | zero =>
    intro i h0 h1 hd
    have hge : ¬ i < (l.length : Int) := by omega
    refine evPos ?_
    simp only [spec_l2key.l0, if_neg hge]
    refine evConst ?_
    rw [List.drop_eq_nil_of_le (by omega)]
    rfl
  | succ d ih =>
    intro i h0 h1 hd
    refine evPos ?_
    simp only [spec_l2key.l0]
    have hlt : i < (l.length : Int) := by omega
    rw [all_drop h0 hlt]
    simp only [if_pos hlt, if_pos h0, wrap_up h0 hlt hl]
    by_cases c1 : rd l i < 97
    · simp only [if_pos c1]
      by_cases c2 : rd l i = 47
      · simp only [if_pos c2]
        exact evVal (ih (i + 1) (by omega) (by omega) (by omega)) (by simp [keyByte, c2])
      · simp only [if_neg c2]
        refine evConst ?_
        have : keyByte (rd l i) = false := by simp [keyByte]; omega
        simp [this]
    · simp only [if_neg c1]
      by_cases c3 : rd l i > 122
      · simp only [if_pos c3]
        by_cases c2 : rd l i = 47
        · omega
        · simp only [if_neg c2]
          refine evConst ?_
          have : keyByte (rd l i) = false := by simp [keyByte]; omega
          simp [this]
      · simp only [if_neg c3]
        refine evVal (ih (i + 1) (by omega) (by omega) (by omega)) ?_
        have : keyByte (rd l i) = true := by simp [keyByte]; omega
        simp [this]
theorem l2key_ev (l : List Int) (hl : l.length ≤ 9223372036854775807) : Ev (fun k => spec_l2key.f k l) (keyB l) := by
  unfold spec_l2key.f
  by_cases h : (l.length : Int) < 1
  · simp only [if_pos h]
    refine evPos ?_
    simp only [spec_l2key.j0, if_true]
    refine evConst ?_
    have : ¬ 1 ≤ l.length := by omega
    simp [keyB, this]
  · simp only [if_neg h]
    refine evPos ?_
    simp only [spec_l2key.j0]
    by_cases h2 : (l.length : Int) > 20
    · simp only [h2, decide_true, if_true]
      refine evConst ?_
      have : ¬ l.length ≤ 20 := by omega
      simp [keyB, this]
    · simp only [h2, decide_false, Bool.false_eq_true, if_false]
      refine evVal (l2key_loop l hl l.length 0 (by omega) (by omega) (by omega)) ?_
      have a : 1 ≤ l.length := by omega
      have b : l.length ≤ 20 := by omega
      simp [keyB, a, b]
/-! A check: what the program asks and what the reference asks is one. -/
def checkB (l : List Int) (ttl most status age fails : Int) : Bool :=
  keyB l && (decide (0 ≤ ttl) && decide (ttl ≤ 1000) && (decide (1 ≤ most) && decide (most ≤ 5)) && (decide (0 ≤ status) && decide (status ≤ 2)) && (decide (0 ≤ age) && decide (age ≤ 1000)) && (decide (0 ≤ fails) && decide (fails ≤ most))) &&
    ((!(decide (ttl > 0) && decide (age ≥ ttl)) || decide (status = 2)) && (!decide (status = 0) || decide (fails = 0)))
theorem spec_CheckOk_ev (l : List Int) (a b c d e : Int) (hl : l.length ≤ 9223372036854775807) : Ev (fun k => spec_CheckOk.f k l a b c d e) (checkB l a b c d e) := by
  unfold spec_CheckOk.f
  refine Ev.bind (l2key_ev l hl) ?_
  have jt : Ev (fun k => spec_CheckOk.j0 k true l a b c d e) false := by
    refine evPos ?_
    simp only [spec_CheckOk.j0, if_true]
    exact Ev.now _
  cases hk : keyB l with
  | false => simp only [Bool.false_eq_true, if_false]; exact evVal jt (by simp [checkB, hk])
  | true =>
    simp only [if_true]
    by_cases h1 : a < 0
    · simp only [if_pos h1]; exact evVal jt (by have this : ¬ 0 ≤ a := (by omega); simp [checkB, this])
    simp only [if_neg h1]
    by_cases h2 : a > 1000
    · simp only [if_pos h2]; exact evVal jt (by have this : ¬ a ≤ 1000 := (by omega); simp [checkB, this])
    simp only [if_neg h2]
    by_cases h3 : b < 1
    · simp only [if_pos h3]; exact evVal jt (by have this : ¬ 1 ≤ b := (by omega); simp [checkB, this])
    simp only [if_neg h3]
    by_cases h4 : b > 5
    · simp only [if_pos h4]; exact evVal jt (by have this : ¬ b ≤ 5 := (by omega); simp [checkB, this])
    simp only [if_neg h4]
    by_cases h5 : c < 0
    · simp only [if_pos h5]; exact evVal jt (by have this : ¬ 0 ≤ c := (by omega); simp [checkB, this])
    simp only [if_neg h5]
    by_cases h6 : c > 2
    · simp only [if_pos h6]; exact evVal jt (by have this : ¬ c ≤ 2 := (by omega); simp [checkB, this])
    simp only [if_neg h6]
    by_cases h7 : d < 0
    · simp only [if_pos h7]; exact evVal jt (by have this : ¬ 0 ≤ d := (by omega); simp [checkB, this])
    simp only [if_neg h7]
    by_cases h8 : d > 1000
    · simp only [if_pos h8]; exact evVal jt (by have this : ¬ d ≤ 1000 := (by omega); simp [checkB, this])
    simp only [if_neg h8]
    by_cases h9 : e < 0
    · simp only [if_pos h9]; exact evVal jt (by have this : ¬ 0 ≤ e := (by omega); simp [checkB, this])
    simp only [if_neg h9]
    refine evPos ?_
    simp only [spec_CheckOk.j0]
    refine evConst ?_
    have g1 : 0 ≤ a := by omega
    have g2 : a ≤ 1000 := by omega
    have g3 : 1 ≤ b := by omega
    have g4 : b ≤ 5 := by omega
    have g5 : 0 ≤ c := by omega
    have g6 : c ≤ 2 := by omega
    have g7 : 0 ≤ d := by omega
    have g8 : d ≤ 1000 := by omega
    have g9 : 0 ≤ e := by omega
    simp only [checkB, hk, g1, g2, g3, g4, g5, g6, g7, g8, g9, decide_true, Bool.and_true, Bool.true_and]
    by_cases k1 : e > b
    · have k1' : ¬ e ≤ b := by omega
      simp [k1, k1']
    · have k1' : e ≤ b := by omega
      simp only [k1, k1', decide_false, Bool.false_eq_true, if_false, decide_true, Bool.true_and]
      by_cases k2 : a > 0 <;> by_cases k3 : d ≥ a <;> by_cases k4 : c = 2 <;> by_cases k5 : c = 0 <;> by_cases k6 : e = 0 <;> simp [k2, k3, k4, k5, k6] <;> omega
theorem impl_CheckOk_ev (l : List Int) (a b c d e : Int) (hl : l.length ≤ 9223372036854775807) : Ev (fun k => impl_CheckOk.f k l a b c d e) (checkB l a b c d e) := by
  unfold impl_CheckOk.f
  refine Ev.bind (KeyOk_ev l hl) ?_
  refine evConst ?_
  cases hk : keyB l with
  | false => simp [checkB, hk]
  | true =>
    simp only [within_eq, Option.bind_some, if_true, checkB, hk, Bool.true_and, impl_Check_late.f]
    by_cases h1 : 0 ≤ a <;> by_cases h2 : a ≤ 1000 <;> simp only [h1, h2, decide_true, decide_false, Bool.true_and, Bool.false_and, Bool.and_true, Bool.and_false, Bool.false_eq_true, if_true, if_false]
    by_cases h3 : 0 ≤ d <;> by_cases h4 : d ≤ 1000 <;> simp only [h3, h4, decide_true, decide_false, Bool.true_and, Bool.false_and, Bool.and_true, Bool.and_false, Bool.false_eq_true, if_true, if_false]
    by_cases h5 : 1 ≤ b <;> by_cases h6 : b ≤ 5 <;> simp only [h5, h6, decide_true, decide_false, Bool.true_and, Bool.false_and, Bool.and_true, Bool.and_false, Bool.false_eq_true, if_true, if_false]
    by_cases h7 : 0 ≤ c <;> by_cases h8 : c ≤ 2 <;> simp only [h7, h8, decide_true, decide_false, Bool.true_and, Bool.false_and, Bool.and_true, Bool.and_false, Bool.false_eq_true, if_true, if_false]
    by_cases h9 : 0 ≤ e <;> by_cases h10 : e ≤ b <;> simp only [h9, h10, decide_true, decide_false, Bool.true_and, Bool.false_and, Bool.and_true, Bool.and_false, Bool.false_eq_true, if_true, if_false]
    by_cases k2 : a > 0 <;> by_cases k3 : d ≥ a <;> by_cases k4 : c = 2 <;> by_cases k5 : c = 0 <;> by_cases k6 : e = 0 <;> simp [k2, k3, k4, k5, k6] <;> omega
theorem toCheck_ev (l : List Int) (a b c d e : Int) (hl : l.length ≤ 281474976710656) : Ev (fun k => laws_toCheck.f k l a b c d e) (l, a, b, c, d, e) := by
  unfold laws_toCheck.f
  exact Ev.bind (toByteS_ev l hl) (Ev.now _)
theorem eqCheck_ev (l : List Int) (a b c d e : Int) (hl : l.length ≤ 281474976710656) : Ev (fun k => laws_eqCheck.f k l a b c d e l a b c d e) true := by
  unfold laws_eqCheck.f
  refine Ev.bind (eqByteS_ev l hl) ?_
  exact evConst (by simp)
theorem szCheck_eq (l : List Int) (a b c d e x : Int) (hl : l.length ≤ 9223372036854775807) (hx : -1 ≤ x) (hx' : x ≤ 1048576) : laws_szCheck.f l a b c d e x = some (if (l.length : Int) ≤ x then x - l.length else -1) := by
  unfold laws_szCheck.f
  rw [szByteS_eq l x hl hx hx', Option.bind_some]
  by_cases h : (l.length : Int) ≤ x
  · rw [if_pos h, if_neg (by omega)]
  · rw [if_neg h, if_pos (by omega)]
/-- What a law's check is to the program: the same. -/
def cv (x : S61) : S24 := ⟨x.f0, x.f1, x.f2, x.f3, x.f4, x.f5⟩
theorem rdA_lt {l : List S61} {i : Int} (h0 : 0 ≤ i) (h : i < (l.length : Int)) : rd_T61 l i = l[i.toNat]'(by omega) := by
  unfold rd_T61; rw [List.getD_eq_getElem?_getD, List.getElem?_eq_getElem (by omega)]; rfl
theorem rdB_lt {l : List S24} {i : Int} (h0 : 0 ≤ i) (h : i < (l.length : Int)) : rd_T24 l i = l[i.toNat]'(by omega) := by
  unfold rd_T24; rw [List.getD_eq_getElem?_getD, List.getElem?_eq_getElem (by omega)]; rfl
/-- What is left of a size behind the checks from a place on. -/
theorem szCheckS_loop (l : List S61) (hl : l.length ≤ 1048576) (hs : ∀ y ∈ l, y.f0.length ≤ 9223372036854775807) (d : Nat) : ∀ (x i : Int), 0 ≤ x → x ≤ 1048576 → 0 ≤ i → i ≤ l.length → (l.length : Int) - i = d →
    ∃ r, Ev (fun k => laws_szCheckS.l0 k l x i) r ∧ (0 ≤ r → ∀ j : Nat, i ≤ j → (h : j < l.length) → (l[j]).f0.length ≤ 1048576) := by
  induction d with
  | zero =>
    intro x i x0 x1 h0 h1 hd
    have hge : ¬ i < (l.length : Int) := by omega
    refine ⟨x, evPos ?_, fun _ j hj h => by omega⟩
    simp only [laws_szCheckS.l0, if_neg hge]
    exact Ev.now _
  | succ d ih =>
    intro x i x0 x1 h0 h1 hd
    have hlt : i < (l.length : Int) := by omega
    have hm := hs (l[i.toNat]'(by omega)) (List.getElem_mem _)
    have hz := szCheck_eq (l[i.toNat]'(by omega)).f0 (l[i.toNat]'(by omega)).f1 (l[i.toNat]'(by omega)).f2 (l[i.toNat]'(by omega)).f3 (l[i.toNat]'(by omega)).f4 (l[i.toNat]'(by omega)).f5 x hm (by omega) x1
    by_cases c : ((l[i.toNat]'(by omega)).f0.length : Int) ≤ x
    · obtain ⟨r, hr, hj⟩ := ih (x - (l[i.toNat]'(by omega)).f0.length) (i + 1) (by omega) (by omega) (by omega) (by omega) (by omega)
      refine ⟨r, evPos ?_, fun h j ij jl => ?_⟩
      · have hn : ¬ (x - ((l[i.toNat]'(by omega)).f0.length : Int) < 0) := by omega
        have hw : wrap64 (i + 1) = i + 1 := wrap_up h0 hlt (by omega)
        simp only [laws_szCheckS.l0, if_pos hlt, if_pos h0, rdA_lt h0 hlt, hz, if_pos c, Option.bind_some, if_neg hn, hw]
        exact hr
      · by_cases e : j = i.toNat
        · subst e; omega
        · exact hj h j (by omega) jl
    · refine ⟨-1, evPos ?_, fun h => by omega⟩
      have hn : ((-1 : Int) < 0) := by omega
      simp only [laws_szCheckS.l0, if_pos hlt, if_pos h0, rdA_lt h0 hlt, hz, if_neg c, Option.bind_some, if_pos hn]
      exact Ev.now _
theorem szCheckS_ev (l : List S61) (hl : l.length ≤ 9223372036854775807) (hs : ∀ y ∈ l, y.f0.length ≤ 9223372036854775807) :
    ∃ r, Ev (fun k => laws_szCheckS.f k l 1048576) r ∧ (0 ≤ r → l.length ≤ 1048576 ∧ ∀ y ∈ l, y.f0.length ≤ 1048576) := by
  unfold laws_szCheckS.f
  have w : wrap64 (1048576 - (l.length : Int)) = 1048576 - l.length := by unfold wrap64; omega
  simp only [w]
  by_cases c : (1048576 : Int) - l.length < 0
  · exact ⟨-1, by simp only [if_pos c]; exact Ev.now _, fun h => by omega⟩
  · obtain ⟨r, hr, hj⟩ := szCheckS_loop l (by omega) hs l.length (1048576 - l.length) 0 (by omega) (by omega) (by omega) (by omega) (by omega)
    refine ⟨r, by simp only [if_neg c]; exact hr, fun h => ⟨by omega, fun y hy => ?_⟩⟩
    obtain ⟨j, hj', rfl⟩ := List.getElem_of_mem hy
    exact hj h j (by omega) hj'
theorem toCheckS_loop (l : List S61) (hl : l.length ≤ 1048576) (hs : ∀ y ∈ l, y.f0.length ≤ 1048576) (d : Nat) : ∀ (x : List S24) (i : Int), 0 ≤ i → i ≤ l.length → (l.length : Int) - i = d → x.length = l.length → x.take i.toNat = (l.map cv).take i.toNat →
    Ev (fun k => laws_toCheckS.l0 k l x i) (l.map cv) := by
  induction d with
  | zero =>
    intro x i h0 h1 hd hx ht
    have hge : ¬ i < (l.length : Int) := by omega
    refine evPos ?_
    simp only [laws_toCheckS.l0, if_neg hge]
    refine evConst ?_
    rw [List.take_of_length_le (by omega), List.take_of_length_le (by simp; omega)] at ht
    rw [ht]
  | succ d ih =>
    intro x i h0 h1 hd hx ht
    have hlt : i < (l.length : Int) := by omega
    have hlt' : i < (x.length : Int) := by omega
    have hm := hs (l[i.toNat]'(by omega)) (List.getElem_mem _)
    refine evPos ?_
    simp only [laws_toCheckS.l0, if_pos hlt, if_pos h0, rdA_lt h0 hlt, if_pos hlt']
    refine Ev.bind (toCheck_ev _ _ _ _ _ _ (by omega)) ?_
    have hw : wrap64 (i + 1) = i + 1 := wrap_up h0 hlt (by omega)
    simp only [hw]
    refine ih _ (i + 1) (by omega) (by omega) (by omega) (by simp [hx]) ?_
    have e : (i + 1).toNat = i.toNat + 1 := by omega
    rw [e, List.take_succ_eq_append_getElem (by simp; omega), List.take_succ_eq_append_getElem (by simp; omega)]
    rw [List.take_set_of_le (Nat.le_refl _), ht, List.getElem_set_self, List.getElem_map]
    rfl
theorem toCheckS_ev (l : List S61) (hl : l.length ≤ 1048576) (hs : ∀ y ∈ l, y.f0.length ≤ 1048576) : Ev (fun k => laws_toCheckS.f k l) (l.map cv) := by
  unfold laws_toCheckS.f
  have h1 : 0 ≤ (l.length : Int) := by omega
  have h2 : ((l.length : Int)).toNat ≤ 4398046511104 := by omega
  simp only [if_pos h1, if_pos h2]
  exact toCheckS_loop l hl hs l.length _ 0 (by omega) (by omega) (by omega) (by simp) (by simp)
theorem eqCheckS_loop (l : List S24) (hl : l.length ≤ 1048576) (hs : ∀ y ∈ l, y.f0.length ≤ 1048576) (d : Nat) : ∀ (i : Int), 0 ≤ i → i ≤ l.length → (l.length : Int) - i = d → Ev (fun k => laws_eqCheckS.l0 k l l i) true := by
  induction d with
  | zero =>
    intro i h0 h1 hd
    have hge : ¬ i < (l.length : Int) := by omega
    refine evPos ?_
    simp only [laws_eqCheckS.l0, if_neg hge]
    exact Ev.now _
  | succ d ih =>
    intro i h0 h1 hd
    have hlt : i < (l.length : Int) := by omega
    have hm := hs (l[i.toNat]'(by omega)) (List.getElem_mem _)
    refine evPos ?_
    have hw : wrap64 (i + 1) = i + 1 := wrap_up h0 hlt (by omega)
    simp only [laws_eqCheckS.l0, if_pos hlt, if_pos h0, rdB_lt h0 hlt, hw]
    refine Ev.bind (eqCheck_ev _ _ _ _ _ _ (by omega)) ?_
    simp only [if_true]
    exact ih (i + 1) (by omega) (by omega) (by omega)
theorem eqCheckS_ev (l : List S24) (hl : l.length ≤ 1048576) (hs : ∀ y ∈ l, y.f0.length ≤ 1048576) : Ev (fun k => laws_eqCheckS.f k l l) true := by
  unfold laws_eqCheckS.f
  simp only [if_true]
  exact eqCheckS_loop l hl hs l.length 0 (by omega) (by omega) (by omega)
def okB (x : S24) : Bool := checkB x.f0 x.f1 x.f2 x.f3 x.f4 x.f5
/-- The greatest status from a number on; critical where one is not valid. -/
def worstF : List S24 → Int → Int
  | [], n => n
  | x :: l, n => if okB x = true then worstF l (if x.f3 > n then x.f3 else n) else 2
theorem spec_loop (l : List S24) (hl : l.length ≤ 1048576) (hs : ∀ y ∈ l, y.f0.length ≤ 1048576) (d : Nat) : ∀ (n i : Int), 0 ≤ i → i ≤ l.length → (l.length : Int) - i = d → Ev (fun k => spec_Worst.l0 k l n i) (worstF (l.drop i.toNat) n) := by
  induction d with
  | zero =>
    intro n i h0 h1 hd
    have hge : ¬ i < (l.length : Int) := by omega
    refine evPos ?_
    simp only [spec_Worst.l0, if_neg hge]
    rw [List.drop_eq_nil_of_le (by omega)]
    exact Ev.now _
  | succ d ih =>
    intro n i h0 h1 hd
    have hlt : i < (l.length : Int) := by omega
    have hm := hs (l[i.toNat]'(by omega)) (List.getElem_mem _)
    refine evPos ?_
    have hw : wrap64 (i + 1) = i + 1 := wrap_up h0 hlt (by omega)
    have e : (i + 1).toNat = i.toNat + 1 := by omega
    have r1 := ih (l[i.toNat]'(by omega)).f3 (i + 1) (by omega) (by omega) (by omega)
    have r2 := ih n (i + 1) (by omega) (by omega) (by omega)
    rw [e] at r1 r2
    rw [List.drop_eq_getElem_cons (by omega)]
    simp only [spec_Worst.l0, if_pos hlt, if_pos h0, rdB_lt h0 hlt, hw, worstF]
    refine Ev.bind (spec_CheckOk_ev _ _ _ _ _ _ (by omega)) ?_
    by_cases c : okB (l[i.toNat]'(by omega)) = true
    · have c' := c
      unfold okB at c'
      simp only [c, c', if_true]
      by_cases c2 : (l[i.toNat]'(by omega)).f3 > n
      · simp only [if_pos c2]; exact r1
      · simp only [if_neg c2]; exact r2
    · have c' := c
      unfold okB at c'
      simp only [if_neg c, if_neg c']
      exact Ev.now _
theorem impl_loop (l : List S24) (hl : l.length ≤ 1048576) (hs : ∀ y ∈ l, y.f0.length ≤ 1048576) (d : Nat) : ∀ (n i : Int), 0 ≤ i → i ≤ l.length → (l.length : Int) - i = d → Ev (fun k => impl_Worst.l0 k n l (l.length : Int) i) (worstF (l.drop i.toNat) n) := by
  induction d with
  | zero =>
    intro n i h0 h1 hd
    have hge : ¬ i < (l.length : Int) := by omega
    refine evPos ?_
    simp only [impl_Worst.l0, if_neg hge]
    rw [List.drop_eq_nil_of_le (by omega)]
    exact Ev.now _
  | succ d ih =>
    intro n i h0 h1 hd
    have hlt : i < (l.length : Int) := by omega
    have hm := hs (l[i.toNat]'(by omega)) (List.getElem_mem _)
    refine evPos ?_
    have hw : wrap64 (i + 1) = i + 1 := wrap_up h0 hlt (by omega)
    have e : (i + 1).toNat = i.toNat + 1 := by omega
    have r1 := ih (mx n (l[i.toNat]'(by omega)).f3) (i + 1) (by omega) (by omega) (by omega)
    rw [e] at r1
    rw [List.drop_eq_getElem_cons (by omega)]
    simp only [impl_Worst.l0, if_pos hlt, if_pos h0, rdB_lt h0 hlt, hw, worstF]
    refine Ev.bind (impl_CheckOk_ev _ _ _ _ _ _ (by omega)) ?_
    by_cases c : okB (l[i.toNat]'(by omega)) = true
    · have c' := c
      unfold okB at c'
      simp only [c, c', if_true]
      exact r1
    · have c' := c
      unfold okB at c'
      simp only [if_neg c, if_neg c']
      exact Ev.now _
theorem FnExactWorst : AFnExactWorst.Stmt := by
  intro l hl hw
  suffices h : Ev (fun k => laws_FnExactWorst.f k l) true from h.rounds
  unfold laws_FnExactWorst.f
  obtain ⟨r, hr, hb⟩ := szCheckS_ev l hl (fun y hy => (hw y hy).1.1)
  refine Ev.bind hr ?_
  by_cases c : r < 0
  · simp only [if_pos c]; exact Ev.now _
  · simp only [if_neg c]
    obtain ⟨h1, h2⟩ := hb (by omega)
    have t := toCheckS_ev l h1 h2
    have h1' : (l.map cv).length ≤ 1048576 := by simpa using h1
    have h2' : ∀ y ∈ l.map cv, y.f0.length ≤ 1048576 := by
      intro y hy
      obtain ⟨x, hx, rfl⟩ := List.mem_map.mp hy
      exact h2 x hx
    refine Ev.bind t ?_
    refine Ev.bind (spec_loop (l.map cv) h1' h2' (l.map cv).length 0 0 (by omega) (by omega) (by omega)) ?_
    refine Ev.bind t ?_
    refine Ev.bind (impl_loop (l.map cv) h1' h2' (l.map cv).length 0 0 (by omega) (by omega) (by omega)) ?_
    simp only [if_true]
    refine Ev.bind t ?_
    refine Ev.bind (eqCheckS_ev _ h1' h2') ?_
    simp only [if_true]
    exact Ev.now _

end Go.Proofs.Ytoglmpigdipknaa.Pure
