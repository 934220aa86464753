/- The program's LocalOk gives what the reference's LocalOk gives, for every argument. No condition. -/
import Derived.Test.YtkeplodbjldaiaaArgsFnExactLocalOk
namespace Go.Proofs.Ytkeplodbjldaiaa.Pure
open Go.RowKit Go.Proofs.Ytkeplodbjldaiaa.AFnExactLocalOk Go.Proofs.Ytkeplodbjldaiaa.XFnExactLocalOk Go.Proofs.YtkeplodbjldaiaaW.PrintWords Go.Proofs.YtkeplodbjldaiaaW.PrintLast
set_option linter.unusedSimpArgs false
set_option linter.unusedVariables false
theorem wrap_up {i : Int} {n : Nat} (h0 : 0 ≤ i) (h : i < (n : Int)) (hn : n ≤ 9223372036854775807) : wrap64 (i + 1) = i + 1 := by
  unfold wrap64; omega
theorem evPos {α : Type} {g : Nat → Option α} {r : α} (h : Ev (fun k => g (k + 1)) r) : Ev g r := by
  obtain ⟨K, hK⟩ := h
  refine ⟨K + 1, fun k hk => ?_⟩
  obtain ⟨m, rfl⟩ : ∃ m, k = m + 1 := ⟨k - 1, by omega⟩
  exact hK m (by omega)
theorem evConst {α : Type} {a : Option α} {r : α} (h : a = some r) : Ev (fun _ => a) r := ⟨0, fun _ _ => h⟩
theorem evShift {α : Type} {g : Nat → Option α} {r : α} (h : Ev g r) : Ev (fun k => g (k + 1)) r := by
  obtain ⟨K, hK⟩ := h
  exact ⟨K, fun k hk => hK (k + 1) (by omega)⟩
theorem evVal {α : Type} {g : Nat → Option α} {r r' : α} (h : Ev g r) (e : r = r') : Ev g r' := e ▸ h
theorem rd_lt {l : List Int} {i : Int} (h0 : 0 ≤ i) (h : i < (l.length : Int)) : rd l i = l[i.toNat]'(by omega) := by
  unfold rd; rw [List.getD_eq_getElem?_getD, List.getElem?_eq_getElem (by omega)]; rfl
/-! toByteS, eqByteS, szByteS: a copy is what it copies; two lists are equal. -/
theorem toByteS_loop (l : List Int) (hl : l.length ≤ 281474976710656) (d : Nat) : ∀ (x : List Int) (i : Int), 0 ≤ i → i ≤ l.length → (l.length : Int) - i = d → x.length = l.length → x.take i.toNat = l.take i.toNat →
    Ev (fun k => laws_toByteS.l0 k l x i) l := by
  induction d with
  | zero =>
    intro x i h0 h1 hd hx ht
    have hge : ¬ i < (l.length : Int) := by omega
    refine evPos ?_
    simp only [laws_toByteS.l0, if_neg hge]
    refine evConst ?_
    have e : i.toNat = l.length := by omega
    rw [e, List.take_length] at ht
    rw [← hx, List.take_length] at ht
    rw [ht]
  | succ d ih =>
    intro x i h0 h1 hd hx ht
    refine evPos ?_
    simp only [laws_toByteS.l0]
    have hlt : i < (l.length : Int) := by omega
    have hlt' : i < (x.length : Int) := by omega
    have hw : wrap64 (i + 1) = i + 1 := wrap_up h0 hlt (by omega)
    simp only [if_pos hlt, if_pos h0, if_pos hlt', hw]
    refine ih _ (i + 1) (by omega) (by omega) (by omega) (by simp [hx]) ?_
    have e : (i + 1).toNat = i.toNat + 1 := by omega
    have hi : i.toNat < l.length := by omega
    have hi' : i.toNat < x.length := by omega
    rw [e, List.take_succ_eq_append_getElem hi, List.take_succ_eq_append_getElem (by simpa using hi')]
    rw [List.take_set_of_le (Nat.le_refl _), ht, List.getElem_set_self, rd_lt h0 hlt]
theorem toByteS_ev (l : List Int) (hl : l.length ≤ 281474976710656) : Ev (fun k => laws_toByteS.f k l) l := by
  unfold laws_toByteS.f
  have h1 : 0 ≤ (l.length : Int) := by omega
  have h2 : ((l.length : Int)).toNat ≤ 281474976710656 := by omega
  simp only [if_pos h1, if_pos h2]
  exact toByteS_loop l hl l.length _ 0 (by omega) (by omega) (by omega) (by simp) (by simp)
theorem eqByteS_loop (l : List Int) (hl : l.length ≤ 281474976710656) (d : Nat) : ∀ (i : Int), 0 ≤ i → i ≤ l.length → (l.length : Int) - i = d → Ev (fun k => laws_eqByteS.l0 k l l i) true := by
  induction d with
  | zero =>
    intro i h0 h1 hd
    have hge : ¬ i < (l.length : Int) := by omega
    refine evPos ?_
    simp only [laws_eqByteS.l0, if_neg hge]
    exact Ev.now _
  | succ d ih =>
    intro i h0 h1 hd
    refine evPos ?_
    simp only [laws_eqByteS.l0]
    have hlt : i < (l.length : Int) := by omega
    have hw : wrap64 (i + 1) = i + 1 := wrap_up h0 hlt (by omega)
    simp only [if_pos hlt, if_pos h0, if_true, hw]
    exact ih (i + 1) (by omega) (by omega) (by omega)
theorem eqByteS_ev (l : List Int) (hl : l.length ≤ 281474976710656) : Ev (fun k => laws_eqByteS.f k l l) true := by
  unfold laws_eqByteS.f
  simp only [if_true]
  exact eqByteS_loop l hl l.length 0 (by omega) (by omega) (by omega)
theorem szByteS_eq (l : List Int) (a : Int) (hl : l.length ≤ 9223372036854775807) (ha : -1 ≤ a) (ha' : a ≤ 1048576) : laws_szByteS.f l a = some (if (l.length : Int) ≤ a then a - l.length else -1) := by
  unfold laws_szByteS.f
  have w : wrap64 (a - (l.length : Int)) = a - l.length := by unfold wrap64; omega
  rw [w]
  by_cases h : (l.length : Int) ≤ a
  · rw [if_neg (by omega), if_pos h]
  · rw [if_pos (by omega), if_neg h]
theorem within_eq (a b c : Int) : impl_within.f a b c = some (decide (b ≤ a) && decide (a ≤ c)) := by
  unfold impl_within.f
  by_cases h : b ≤ a <;> simp [h]
/-! A key: what the program asks and what the reference asks is one. -/
def keyByte (c : Int) : Bool := decide (97 ≤ c) && decide (c ≤ 122) || decide (c = 47)
def keyB (l : List Int) : Bool := decide (1 ≤ l.length) && decide (l.length ≤ 20) && l.all keyByte
theorem all_drop {l : List Int} {i : Int} (h0 : 0 ≤ i) (h : i < (l.length : Int)) (p : Int → Bool) : (l.drop i.toNat).all p = (p (rd l i) && (l.drop (i + 1).toNat).all p) := by
  have e : (i + 1).toNat = i.toNat + 1 := by omega
  rw [e, List.drop_eq_getElem_cons (by omega), List.all_cons, rd_lt h0 h]
theorem KeyOk_loop (l : List Int) (hl : l.length ≤ 9223372036854775807) (d : Nat) : ∀ (i : Int), 0 ≤ i → i ≤ l.length → (l.length : Int) - i = d →
    Ev (fun k => impl_KeyOk.l0 k l l (l.length : Int) i) ((l.drop i.toNat).all keyByte && (decide (1 ≤ l.length) && decide (l.length ≤ 20))) := by
  induction d with
  | zero =>
    intro i h0 h1 hd
    have hge : ¬ i < (l.length : Int) := by omega
    refine evPos ?_
    simp only [impl_KeyOk.l0, if_neg hge]
    refine evConst ?_
    rw [within_eq, List.drop_eq_nil_of_le (by omega)]
    have a : ((1 : Int) ≤ (l.length : Int)) ↔ 1 ≤ l.length := by omega
    have b : ((l.length : Int) ≤ 20) ↔ l.length ≤ 20 := by omega
    simp [a, b]
  | succ d ih =>
    intro i h0 h1 hd
    refine evPos ?_
    simp only [impl_KeyOk.l0]
    have hlt : i < (l.length : Int) := by omega
    rw [all_drop h0 hlt]
    simp only [if_pos hlt, if_pos h0, wrap_up h0 hlt hl]
    by_cases c1 : rd l i < 97
    · simp only [if_pos c1]
      by_cases c2 : rd l i = 47
      · simp only [if_pos c2]
        exact evVal (ih (i + 1) (by omega) (by omega) (by omega)) (by simp [keyByte, c2])
      · simp only [if_neg c2]
        refine evConst ?_
        have : keyByte (rd l i) = false := by simp [keyByte]; omega
        simp [this]
    · simp only [if_neg c1]
      by_cases c3 : rd l i > 122
      · simp only [if_pos c3]
        by_cases c2 : rd l i = 47
        · omega
        · simp only [if_neg c2]
          refine evConst ?_
          have : keyByte (rd l i) = false := by simp [keyByte]; omega
          simp [this]
      · simp only [if_neg c3]
        refine evVal (ih (i + 1) (by omega) (by omega) (by omega)) ?_
        have : keyByte (rd l i) = true := by simp [keyByte]; omega
        simp [this]
theorem KeyOk_ev (l : List Int) (hl : l.length ≤ 9223372036854775807) : Ev (fun k => impl_KeyOk.f k l) (keyB l) := by
  unfold impl_KeyOk.f
  exact evVal (KeyOk_loop l hl l.length 0 (by omega) (by omega) (by omega)) (by simp [keyB, Bool.and_comm])
theorem l2key_loop (l : List Int) (hl : l.length ≤ 9223372036854775807) (d : Nat) : ∀ (i : Int), 0 ≤ i → i ≤ l.length → (l.length : Int) - i = d →
    Ev (fun k => spec_l2key.l0 k l i) ((l.drop i.toNat).all keyByte) := by
  induction d with
  | zero =>
    intro i h0 h1 hd
    have hge : ¬ i < (l.length : Int) := by omega
    refine evPos ?_
    simp only [spec_l2key.l0, if_neg hge]
    refine evConst ?_
    rw [List.drop_eq_nil_of_le (by omega)]
    rfl
  | succ d ih =>
    intro i h0 h1 hd
    refine evPos ?_
    simp only [spec_l2key.l0]
    have hlt : i < (l.length : Int) := by omega
    rw [all_drop h0 hlt]
    simp only [if_pos hlt, if_pos h0, wrap_up h0 hlt hl]
    by_cases c1 : rd l i < 97
    · simp only [if_pos c1]
      by_cases c2 : rd l i = 47
      · simp only [if_pos c2]
        exact evVal (ih (i + 1) (by omega) (by omega) (by omega)) (by simp [keyByte, c2])
      · simp only [if_neg c2]
        refine evConst ?_
        have : keyByte (rd l i) = false := by simp [keyByte]; omega
        simp [this]
    · simp only [if_neg c1]
      by_cases c3 : rd l i > 122
      · simp only [if_pos c3]
        by_cases c2 : rd l i = 47
        · omega
        · simp only [if_neg c2]
          refine evConst ?_
          have : keyByte (rd l i) = false := by simp [keyByte]; omega
          simp [this]
      · simp only [if_neg c3]
        refine evVal (ih (i + 1) (by omega) (by omega) (by omega)) ?_
        have : keyByte (rd l i) = true := by simp [keyByte]; omega
        simp [this]
theorem l2key_ev (l : List Int) (hl : l.length ≤ 9223372036854775807) : Ev (fun k => spec_l2key.f k l) (keyB l) := by
  unfold spec_l2key.f
  by_cases h : (l.length : Int) < 1
  · simp only [if_pos h]
    refine evPos ?_
    simp only [spec_l2key.j0, if_true]
    refine evConst ?_
    have : ¬ 1 ≤ l.length := by omega
    simp [keyB, this]
  · simp only [if_neg h]
    refine evPos ?_
    simp only [spec_l2key.j0]
    by_cases h2 : (l.length : Int) > 20
    · simp only [h2, decide_true, if_true]
      refine evConst ?_
      have : ¬ l.length ≤ 20 := by omega
      simp [keyB, this]
    · simp only [h2, decide_false, Bool.false_eq_true, if_false]
      refine evVal (l2key_loop l hl l.length 0 (by omega) (by omega) (by omega)) ?_
      have a : 1 ≤ l.length := by omega
      have b : l.length ≤ 20 := by omega
      simp [keyB, a, b]
/-! A check: what the program asks and what the reference asks is one. -/
def checkB (l : List Int) (ttl most status age fails : Int) : Bool :=
  keyB l && (decide (0 ≤ ttl) && decide (ttl ≤ 1000) && (decide (1 ≤ most) && decide (most ≤ 5)) && (decide (0 ≤ status) && decide (status ≤ 2)) && (decide (0 ≤ age) && decide (age ≤ 1000)) && (decide (0 ≤ fails) && decide (fails ≤ most))) &&
    ((!(decide (ttl > 0) && decide (age ≥ ttl)) || decide (status = 2)) && (!decide (status = 0) || decide (fails = 0)))
theorem spec_CheckOk_ev (l : List Int) (a b c d e : Int) (hl : l.length ≤ 9223372036854775807) : Ev (fun k => spec_CheckOk.f k l a b c d e) (checkB l a b c d e) := by
  unfold spec_CheckOk.f
  refine Ev.bind (l2key_ev l hl) ?_
  have jt : Ev (fun k => spec_CheckOk.j0 k true l a b c d e) false := by
    refine evPos ?_
    simp only [spec_CheckOk.j0, if_true]
    exact Ev.now _
  cases hk : keyB l with
  | false => simp only [Bool.false_eq_true, if_false]; exact evVal jt (by simp [checkB, hk])
  | true =>
    simp only [if_true]
    by_cases h1 : a < 0
    · simp only [if_pos h1]; exact evVal jt (by have this : ¬ 0 ≤ a := (by omega); simp [checkB, this])
    simp only [if_neg h1]
    by_cases h2 : a > 1000
    · simp only [if_pos h2]; exact evVal jt (by have this : ¬ a ≤ 1000 := (by omega); simp [checkB, this])
    simp only [if_neg h2]
    by_cases h3 : b < 1
    · simp only [if_pos h3]; exact evVal jt (by have this : ¬ 1 ≤ b := (by omega); simp [checkB, this])
    simp only [if_neg h3]
    by_cases h4 : b > 5
    · simp only [if_pos h4]; exact evVal jt (by have this : ¬ b ≤ 5 := (by omega); simp [checkB, this])
    simp only [if_neg h4]
    by_cases h5 : c < 0
    · simp only [if_pos h5]; exact evVal jt (by have this : ¬ 0 ≤ c := (by omega); simp [checkB, this])
    simp only [if_neg h5]
    by_cases h6 : c > 2
    · simp only [if_pos h6]; exact evVal jt (by have this : ¬ c ≤ 2 := (by omega); simp [checkB, this])
    simp only [if_neg h6]
    by_cases h7 : d < 0
    · simp only [if_pos h7]; exact evVal jt (by have this : ¬ 0 ≤ d := (by omega); simp [checkB, this])
    simp only [if_neg h7]
    by_cases h8 : d > 1000
    · simp only [if_pos h8]; exact evVal jt (by have this : ¬ d ≤ 1000 := (by omega); simp [checkB, this])
    simp only [if_neg h8]
    by_cases h9 : e < 0
    · simp only [if_pos h9]; exact evVal jt (by have this : ¬ 0 ≤ e := (by omega); simp [checkB, this])
    simp only [if_neg h9]
    refine evPos ?_
    simp only [spec_CheckOk.j0]
    refine evConst ?_
    have g1 : 0 ≤ a := by omega
    have g2 : a ≤ 1000 := by omega
    have g3 : 1 ≤ b := by omega
    have g4 : b ≤ 5 := by omega
    have g5 : 0 ≤ c := by omega
    have g6 : c ≤ 2 := by omega
    have g7 : 0 ≤ d := by omega
    have g8 : d ≤ 1000 := by omega
    have g9 : 0 ≤ e := by omega
    simp only [checkB, hk, g1, g2, g3, g4, g5, g6, g7, g8, g9, decide_true, Bool.and_true, Bool.true_and]
    by_cases k1 : e > b
    · have k1' : ¬ e ≤ b := by omega
      simp [k1, k1']
    · have k1' : e ≤ b := by omega
      simp only [k1, k1', decide_false, Bool.false_eq_true, if_false, decide_true, Bool.true_and]
      by_cases k2 : a > 0 <;> by_cases k3 : d ≥ a <;> by_cases k4 : c = 2 <;> by_cases k5 : c = 0 <;> by_cases k6 : e = 0 <;> simp [k2, k3, k4, k5, k6] <;> omega
theorem impl_CheckOk_ev (l : List Int) (a b c d e : Int) (hl : l.length ≤ 9223372036854775807) : Ev (fun k => impl_CheckOk.f k l a b c d e) (checkB l a b c d e) := by
  unfold impl_CheckOk.f
  refine Ev.bind (KeyOk_ev l hl) ?_
  refine evConst ?_
  cases hk : keyB l with
  | false => simp [checkB, hk]
  | true =>
    simp only [within_eq, Option.bind_some, if_true, checkB, hk, Bool.true_and, impl_Check_late.f]
    by_cases h1 : 0 ≤ a <;> by_cases h2 : a ≤ 1000 <;> simp only [h1, h2, decide_true, decide_false, Bool.true_and, Bool.false_and, Bool.and_true, Bool.and_false, Bool.false_eq_true, if_true, if_false]
    by_cases h3 : 0 ≤ d <;> by_cases h4 : d ≤ 1000 <;> simp only [h3, h4, decide_true, decide_false, Bool.true_and, Bool.false_and, Bool.and_true, Bool.and_false, Bool.false_eq_true, if_true, if_false]
    by_cases h5 : 1 ≤ b <;> by_cases h6 : b ≤ 5 <;> simp only [h5, h6, decide_true, decide_false, Bool.true_and, Bool.false_and, Bool.and_true, Bool.and_false, Bool.false_eq_true, if_true, if_false]
    by_cases h7 : 0 ≤ c <;> by_cases h8 : c ≤ 2 <;> simp only [h7, h8, decide_true, decide_false, Bool.true_and, Bool.false_and, Bool.and_true, Bool.and_false, Bool.false_eq_true, if_true, if_false]
    by_cases h9 : 0 ≤ e <;> by_cases h10 : e ≤ b <;> simp only [h9, h10, decide_true, decide_false, Bool.true_and, Bool.false_and, Bool.and_true, Bool.and_false, Bool.false_eq_true, if_true, if_false]
    by_cases k2 : a > 0 <;> by_cases k3 : d ≥ a <;> by_cases k4 : c = 2 <;> by_cases k5 : c = 0 <;> by_cases k6 : e = 0 <;> simp [k2, k3, k4, k5, k6] <;> omega
theorem toCheck_ev (l : List Int) (a b c d e : Int) (hl : l.length ≤ 281474976710656) : Ev (fun k => laws_toCheck.f k l a b c d e) (l, a, b, c, d, e) := by
  unfold laws_toCheck.f
  exact Ev.bind (toByteS_ev l hl) (Ev.now _)
theorem eqCheck_ev (l : List Int) (a b c d e : Int) (hl : l.length ≤ 281474976710656) : Ev (fun k => laws_eqCheck.f k l a b c d e l a b c d e) true := by
  unfold laws_eqCheck.f
  refine Ev.bind (eqByteS_ev l hl) ?_
  exact evConst (by simp)
theorem szCheck_eq (l : List Int) (a b c d e x : Int) (hl : l.length ≤ 9223372036854775807) (hx : -1 ≤ x) (hx' : x ≤ 1048576) : laws_szCheck.f l a b c d e x = some (if (l.length : Int) ≤ x then x - l.length else -1) := by
  unfold laws_szCheck.f
  rw [szByteS_eq l x hl hx hx', Option.bind_some]
  by_cases h : (l.length : Int) ≤ x
  · rw [if_pos h, if_neg (by omega)]
  · rw [if_neg h, if_pos (by omega)]
/-- What a law's check is to the program: the same. -/
def cv (x : S82) : S47 := ⟨x.f0, x.f1, x.f2, x.f3, x.f4, x.f5⟩
theorem rdA_lt {l : List S82} {i : Int} (h0 : 0 ≤ i) (h : i < (l.length : Int)) : rd_T82 l i = l[i.toNat]'(by omega) := by
  unfold rd_T82; rw [List.getD_eq_getElem?_getD, List.getElem?_eq_getElem (by omega)]; rfl
theorem rdB_lt {l : List S47} {i : Int} (h0 : 0 ≤ i) (h : i < (l.length : Int)) : rd_T47 l i = l[i.toNat]'(by omega) := by
  unfold rd_T47; rw [List.getD_eq_getElem?_getD, List.getElem?_eq_getElem (by omega)]; rfl
/-- What is left of a size behind the checks from a place on. -/
theorem szCheckS_loop (l : List S82) (hl : l.length ≤ 1048576) (hs : ∀ y ∈ l, y.f0.length ≤ 9223372036854775807) (d : Nat) : ∀ (x i : Int), 0 ≤ x → x ≤ 1048576 → 0 ≤ i → i ≤ l.length → (l.length : Int) - i = d →
    ∃ r, Ev (fun k => laws_szCheckS.l0 k l x i) r ∧ -1 ≤ r ∧ r ≤ x ∧ (0 ≤ r → ∀ j : Nat, i ≤ j → (h : j < l.length) → (l[j]).f0.length ≤ 1048576) := by
  induction d with
  | zero =>
    intro x i x0 x1 h0 h1 hd
    have hge : ¬ i < (l.length : Int) := by omega
    refine ⟨x, evPos ?_, by omega, by omega, fun _ j hj h => by omega⟩
    simp only [laws_szCheckS.l0, if_neg hge]
    exact Ev.now _
  | succ d ih =>
    intro x i x0 x1 h0 h1 hd
    have hlt : i < (l.length : Int) := by omega
    have hm := hs (l[i.toNat]'(by omega)) (List.getElem_mem _)
    have hz := szCheck_eq (l[i.toNat]'(by omega)).f0 (l[i.toNat]'(by omega)).f1 (l[i.toNat]'(by omega)).f2 (l[i.toNat]'(by omega)).f3 (l[i.toNat]'(by omega)).f4 (l[i.toNat]'(by omega)).f5 x hm (by omega) x1
    by_cases c : ((l[i.toNat]'(by omega)).f0.length : Int) ≤ x
    · obtain ⟨r, hr, r0, r1, hj⟩ := ih (x - (l[i.toNat]'(by omega)).f0.length) (i + 1) (by omega) (by omega) (by omega) (by omega) (by omega)
      refine ⟨r, evPos ?_, r0, by omega, fun h j ij jl => ?_⟩
      · have hn : ¬ (x - ((l[i.toNat]'(by omega)).f0.length : Int) < 0) := by omega
        have hw : wrap64 (i + 1) = i + 1 := wrap_up h0 hlt (by omega)
        simp only [laws_szCheckS.l0, if_pos hlt, if_pos h0, rdA_lt h0 hlt, hz, if_pos c, Option.bind_some, if_neg hn, hw]
        exact hr
      · by_cases e : j = i.toNat
        · subst e; omega
        · exact hj h j (by omega) jl
    · refine ⟨-1, evPos ?_, by omega, by omega, fun h => by omega⟩
      have hn : ((-1 : Int) < 0) := by omega
      simp only [laws_szCheckS.l0, if_pos hlt, if_pos h0, rdA_lt h0 hlt, hz, if_neg c, Option.bind_some, if_pos hn]
      exact Ev.now _
theorem szCheckS_at (l : List S82) (x : Int) (x0 : 0 ≤ x) (x1 : x ≤ 1048576) (hl : l.length ≤ 9223372036854775807) (hs : ∀ y ∈ l, y.f0.length ≤ 9223372036854775807) :
    ∃ r, Ev (fun k => laws_szCheckS.f k l x) r ∧ -1 ≤ r ∧ r ≤ x ∧ (0 ≤ r → l.length ≤ 1048576 ∧ ∀ y ∈ l, y.f0.length ≤ 1048576) := by
  unfold laws_szCheckS.f
  have w : wrap64 (x - (l.length : Int)) = x - l.length := by unfold wrap64; omega
  simp only [w]
  by_cases c : x - l.length < 0
  · exact ⟨-1, by simp only [if_pos c]; exact Ev.now _, by omega, by omega, fun h => by omega⟩
  · obtain ⟨r, hr, r0, r1, hj⟩ := szCheckS_loop l (by omega) hs l.length (x - l.length) 0 (by omega) (by omega) (by omega) (by omega) (by omega)
    refine ⟨r, by simp only [if_neg c]; exact hr, r0, by omega, fun h => ⟨by omega, fun y hy => ?_⟩⟩
    obtain ⟨j, hj', rfl⟩ := List.getElem_of_mem hy
    exact hj h j (by omega) hj'
theorem toCheckS_loop (l : List S82) (hl : l.length ≤ 1048576) (hs : ∀ y ∈ l, y.f0.length ≤ 1048576) (d : Nat) : ∀ (x : List S47) (i : Int), 0 ≤ i → i ≤ l.length → (l.length : Int) - i = d → x.length = l.length → x.take i.toNat = (l.map cv).take i.toNat →
    Ev (fun k => laws_toCheckS.l0 k l x i) (l.map cv) := by
  induction d with
  | zero =>
    intro x i h0 h1 hd hx ht
    have hge : ¬ i < (l.length : Int) := by omega
    refine evPos ?_
    simp only [laws_toCheckS.l0, if_neg hge]
    refine evConst ?_
    rw [List.take_of_length_le (by omega), List.take_of_length_le (by simp; omega)] at ht
    rw [ht]
  | succ d ih =>
    intro x i h0 h1 hd hx ht
    have hlt : i < (l.length : Int) := by omega
    have hlt' : i < (x.length : Int) := by omega
    have hm := hs (l[i.toNat]'(by omega)) (List.getElem_mem _)
    refine evPos ?_
    simp only [laws_toCheckS.l0, if_pos hlt, if_pos h0, rdA_lt h0 hlt, if_pos hlt']
    refine Ev.bind (toCheck_ev _ _ _ _ _ _ (by omega)) ?_
    have hw : wrap64 (i + 1) = i + 1 := wrap_up h0 hlt (by omega)
    simp only [hw]
    refine ih _ (i + 1) (by omega) (by omega) (by omega) (by simp [hx]) ?_
    have e : (i + 1).toNat = i.toNat + 1 := by omega
    rw [e, List.take_succ_eq_append_getElem (by simp; omega), List.take_succ_eq_append_getElem (by simp; omega)]
    rw [List.take_set_of_le (Nat.le_refl _), ht, List.getElem_set_self, List.getElem_map]
    rfl
theorem toCheckS_ev (l : List S82) (hl : l.length ≤ 1048576) (hs : ∀ y ∈ l, y.f0.length ≤ 1048576) : Ev (fun k => laws_toCheckS.f k l) (l.map cv) := by
  unfold laws_toCheckS.f
  have h1 : 0 ≤ (l.length : Int) := by omega
  have h2 : ((l.length : Int)).toNat ≤ 4398046511104 := by omega
  simp only [if_pos h1, if_pos h2]
  exact toCheckS_loop l hl hs l.length _ 0 (by omega) (by omega) (by omega) (by simp) (by simp)
theorem eqCheckS_loop (l : List S47) (hl : l.length ≤ 1048576) (hs : ∀ y ∈ l, y.f0.length ≤ 1048576) (d : Nat) : ∀ (i : Int), 0 ≤ i → i ≤ l.length → (l.length : Int) - i = d → Ev (fun k => laws_eqCheckS.l0 k l l i) true := by
  induction d with
  | zero =>
    intro i h0 h1 hd
    have hge : ¬ i < (l.length : Int) := by omega
    refine evPos ?_
    simp only [laws_eqCheckS.l0, if_neg hge]
    exact Ev.now _
  | succ d ih =>
    intro i h0 h1 hd
    have hlt : i < (l.length : Int) := by omega
    have hm := hs (l[i.toNat]'(by omega)) (List.getElem_mem _)
    refine evPos ?_
    have hw : wrap64 (i + 1) = i + 1 := wrap_up h0 hlt (by omega)
    simp only [laws_eqCheckS.l0, if_pos hlt, if_pos h0, rdB_lt h0 hlt, hw]
    refine Ev.bind (eqCheck_ev _ _ _ _ _ _ (by omega)) ?_
    simp only [if_true]
    exact ih (i + 1) (by omega) (by omega) (by omega)
theorem eqCheckS_ev (l : List S47) (hl : l.length ≤ 1048576) (hs : ∀ y ∈ l, y.f0.length ≤ 1048576) : Ev (fun k => laws_eqCheckS.f k l l) true := by
  unfold laws_eqCheckS.f
  simp only [if_true]
  exact eqCheckS_loop l hl hs l.length 0 (by omega) (by omega) (by omega)
/-! Services, and a node with its services: sizes, copies, equality. -/
def cvS (x : S64) : S43 := ⟨x.f0, x.f1.map cv⟩
theorem rdC_lt {l : List S64} {i : Int} (h0 : 0 ≤ i) (h : i < (l.length : Int)) : rd_T64 l i = l[i.toNat]'(by omega) := by
  unfold rd_T64; rw [List.getD_eq_getElem?_getD, List.getElem?_eq_getElem (by omega)]; rfl
theorem rdD_lt {l : List S43} {i : Int} (h0 : 0 ≤ i) (h : i < (l.length : Int)) : rd_T43 l i = l[i.toNat]'(by omega) := by
  unfold rd_T43; rw [List.getD_eq_getElem?_getD, List.getElem?_eq_getElem (by omega)]; rfl
/-- A service that is no greater than the law lets it be. -/
def smA (x : S64) : Prop := x.f0.length ≤ 1048576 ∧ x.f1.length ≤ 1048576 ∧ ∀ z ∈ x.f1, z.f0.length ≤ 1048576
def smI (x : S43) : Prop := x.f0.length ≤ 1048576 ∧ x.f1.length ≤ 1048576 ∧ ∀ z ∈ x.f1, z.f0.length ≤ 1048576
def fitA (x : S64) : Prop := x.f0.length ≤ 9223372036854775807 ∧ x.f1.length ≤ 9223372036854775807 ∧ ∀ z ∈ x.f1, z.f0.length ≤ 9223372036854775807
theorem cvS_sm {x : S64} (h : smA x) : smI (cvS x) := by
  refine ⟨h.1, by simpa [cvS] using h.2.1, fun z hz => ?_⟩
  obtain ⟨y, hy, rfl⟩ := List.mem_map.1 hz
  exact h.2.2 y hy
theorem szService_at (l : List Int) (m : List S82) (x : Int) (x0 : 0 ≤ x) (x1 : x ≤ 1048576) (hf : fitA ⟨l, m⟩) :
    ∃ r, Ev (fun k => laws_szService.f k l m x) r ∧ -1 ≤ r ∧ r ≤ x ∧ (0 ≤ r → smA ⟨l, m⟩) := by
  unfold laws_szService.f
  rw [szByteS_eq l x hf.1 (by omega) x1]
  simp only [Option.bind_some]
  by_cases c : (l.length : Int) ≤ x
  · simp only [if_pos c]
    have c2 : ¬ x - (l.length : Int) < 0 := by omega
    simp only [if_neg c2]
    obtain ⟨r, hr, r0, r1, hp⟩ := szCheckS_at m (x - l.length) (by omega) (by omega) hf.2.1 hf.2.2
    by_cases c3 : r < 0
    · refine ⟨-1, Ev.bind hr ?_, by omega, by omega, fun h => by omega⟩
      simp only [if_pos c3]; exact Ev.now _
    · refine ⟨r, Ev.bind hr ?_, r0, by omega, fun h => ?_⟩
      · simp only [if_neg c3]; exact Ev.now _
      · have := hp h
        exact ⟨by show l.length ≤ 1048576; omega, this.1, this.2⟩
  · simp only [if_neg c]
    have c2 : (-1 : Int) < 0 := by omega
    refine ⟨-1, ?_, by omega, by omega, fun h => by omega⟩
    simp only [if_pos c2]; exact Ev.now _
theorem szServiceS_loop (l : List S64) (hl : l.length ≤ 1048576) (hs : ∀ y ∈ l, fitA y) (d : Nat) : ∀ (x i : Int), 0 ≤ x → x ≤ 1048576 → 0 ≤ i → i ≤ l.length → (l.length : Int) - i = d →
    ∃ r, Ev (fun k => laws_szServiceS.l0 k l x i) r ∧ -1 ≤ r ∧ r ≤ x ∧ (0 ≤ r → ∀ j : Nat, i ≤ j → (h : j < l.length) → smA l[j]) := by
  induction d with
  | zero =>
    intro x i x0 x1 h0 h1 hd
    have hge : ¬ i < (l.length : Int) := by omega
    refine ⟨x, evPos ?_, by omega, by omega, fun _ j hj h => by omega⟩
    simp only [laws_szServiceS.l0, if_neg hge]
    exact Ev.now _
  | succ d ih =>
    intro x i x0 x1 h0 h1 hd
    have hlt : i < (l.length : Int) := by omega
    have hw : wrap64 (i + 1) = i + 1 := wrap_up h0 hlt (by omega)
    have hm := hs (l[i.toNat]'(by omega)) (List.getElem_mem _)
    obtain ⟨q, hq, q0, q1, hqs⟩ := szService_at (l[i.toNat]'(by omega)).f0 (l[i.toNat]'(by omega)).f1 x x0 x1 hm
    by_cases c : q < 0
    · refine ⟨-1, evPos ?_, by omega, by omega, fun h => by omega⟩
      simp only [laws_szServiceS.l0, if_pos hlt, if_pos h0, rdC_lt h0 hlt]
      refine Ev.bind hq ?_
      simp only [if_pos c]; exact Ev.now _
    · obtain ⟨r, hr, r0, r1, hj⟩ := ih q (i + 1) (by omega) (by omega) (by omega) (by omega) (by omega)
      refine ⟨r, evPos ?_, r0, by omega, fun h j ij jl => ?_⟩
      · simp only [laws_szServiceS.l0, if_pos hlt, if_pos h0, rdC_lt h0 hlt]
        refine Ev.bind hq ?_
        simp only [if_neg c, hw]; exact hr
      · by_cases e : j = i.toNat
        · subst e; exact hqs (by omega)
        · exact hj h j (by omega) jl
theorem szServiceS_at (l : List S64) (x : Int) (x0 : 0 ≤ x) (x1 : x ≤ 1048576) (hl : l.length ≤ 9223372036854775807) (hs : ∀ y ∈ l, fitA y) :
    ∃ r, Ev (fun k => laws_szServiceS.f k l x) r ∧ -1 ≤ r ∧ r ≤ x ∧ (0 ≤ r → l.length ≤ 1048576 ∧ ∀ y ∈ l, smA y) := by
  unfold laws_szServiceS.f
  have w : wrap64 (x - (l.length : Int)) = x - l.length := by unfold wrap64; omega
  simp only [w]
  by_cases c : x - l.length < 0
  · exact ⟨-1, by simp only [if_pos c]; exact Ev.now _, by omega, by omega, fun h => by omega⟩
  · obtain ⟨r, hr, r0, r1, hj⟩ := szServiceS_loop l (by omega) hs l.length (x - l.length) 0 (by omega) (by omega) (by omega) (by omega) (by omega)
    refine ⟨r, by simp only [if_neg c]; exact hr, r0, by omega, fun h => ⟨by omega, fun y hy => ?_⟩⟩
    obtain ⟨j, hj', rfl⟩ := List.getElem_of_mem hy
    exact hj h j (by omega) hj'
theorem szLocal_at (l : List Int) (m : List S64) (x : Int) (x0 : 0 ≤ x) (x1 : x ≤ 1048576) (hl : l.length ≤ 9223372036854775807) (hm : m.length ≤ 9223372036854775807) (hs : ∀ y ∈ m, fitA y) :
    ∃ r, Ev (fun k => laws_szLocal.f k l m x) r ∧ -1 ≤ r ∧ r ≤ x ∧ (0 ≤ r → l.length ≤ 1048576 ∧ m.length ≤ 1048576 ∧ ∀ y ∈ m, smA y) := by
  unfold laws_szLocal.f
  rw [szByteS_eq l x hl (by omega) x1]
  simp only [Option.bind_some]
  by_cases c : (l.length : Int) ≤ x
  · simp only [if_pos c]
    have c2 : ¬ x - (l.length : Int) < 0 := by omega
    simp only [if_neg c2]
    obtain ⟨r, hr, r0, r1, hp⟩ := szServiceS_at m (x - l.length) (by omega) (by omega) hm hs
    by_cases c3 : r < 0
    · refine ⟨-1, Ev.bind hr ?_, by omega, by omega, fun h => by omega⟩
      simp only [if_pos c3]; exact Ev.now _
    · refine ⟨r, Ev.bind hr ?_, r0, by omega, fun h => ?_⟩
      · simp only [if_neg c3]; exact Ev.now _
      · have := hp h
        exact ⟨by omega, this.1, this.2⟩
  · simp only [if_neg c]
    have c2 : (-1 : Int) < 0 := by omega
    refine ⟨-1, ?_, by omega, by omega, fun h => by omega⟩
    simp only [if_pos c2]; exact Ev.now _
theorem toService_ev (l : List Int) (m : List S82) (hs : smA ⟨l, m⟩) : Ev (fun k => laws_toService.f k l m) (l, m.map cv) := by
  unfold laws_toService.f
  refine Ev.bind (toByteS_ev l (by have : l.length ≤ 1048576 := hs.1; omega)) ?_
  exact Ev.bind (toCheckS_ev m hs.2.1 hs.2.2) (Ev.now _)
theorem toServiceS_loop (l : List S64) (hl : l.length ≤ 1048576) (hs : ∀ y ∈ l, smA y) (d : Nat) : ∀ (x : List S43) (i : Int), 0 ≤ i → i ≤ l.length → (l.length : Int) - i = d → x.length = l.length → x.take i.toNat = (l.map cvS).take i.toNat →
    Ev (fun k => laws_toServiceS.l0 k l x i) (l.map cvS) := by
  induction d with
  | zero =>
    intro x i h0 h1 hd hx ht
    have hge : ¬ i < (l.length : Int) := by omega
    refine evPos ?_
    simp only [laws_toServiceS.l0, if_neg hge]
    refine evConst ?_
    rw [List.take_of_length_le (by omega), List.take_of_length_le (by simp; omega)] at ht
    rw [ht]
  | succ d ih =>
    intro x i h0 h1 hd hx ht
    have hlt : i < (l.length : Int) := by omega
    have hlt' : i < (x.length : Int) := by omega
    have hm := hs (l[i.toNat]'(by omega)) (List.getElem_mem _)
    refine evPos ?_
    simp only [laws_toServiceS.l0, if_pos hlt, if_pos h0, rdC_lt h0 hlt, if_pos hlt']
    refine Ev.bind (toService_ev _ _ hm) ?_
    have hw : wrap64 (i + 1) = i + 1 := wrap_up h0 hlt (by omega)
    simp only [hw]
    refine ih _ (i + 1) (by omega) (by omega) (by omega) (by simp [hx]) ?_
    have e : (i + 1).toNat = i.toNat + 1 := by omega
    rw [e, List.take_succ_eq_append_getElem (by simp; omega), List.take_succ_eq_append_getElem (by simp; omega)]
    rw [List.take_set_of_le (Nat.le_refl _), ht, List.getElem_set_self, List.getElem_map]
    rfl
theorem toLocal_ev (l : List Int) (m : List S64) (hl : l.length ≤ 1048576) (hm : m.length ≤ 1048576) (hs : ∀ y ∈ m, smA y) : Ev (fun k => laws_toLocal.f k l m) (l, m.map cvS) := by
  have h : Ev (fun k => laws_toServiceS.f k m) (m.map cvS) := by
    unfold laws_toServiceS.f
    have h1 : 0 ≤ (m.length : Int) := by omega
    have h2 : ((m.length : Int)).toNat ≤ 5864062014805 := by omega
    simp only [if_pos h1, if_pos h2]
    exact toServiceS_loop m hm hs m.length _ 0 (by omega) (by omega) (by omega) (by simp) (by simp)
  unfold laws_toLocal.f
  refine Ev.bind (toByteS_ev l (by omega)) ?_
  exact Ev.bind h (Ev.now _)
theorem eqServiceS_loop (l : List S43) (hl : l.length ≤ 1048576) (hs : ∀ y ∈ l, smI y) (d : Nat) : ∀ (i : Int), 0 ≤ i → i ≤ l.length → (l.length : Int) - i = d → Ev (fun k => laws_eqServiceS.l0 k l l i) true := by
  induction d with
  | zero =>
    intro i h0 h1 hd
    have hge : ¬ i < (l.length : Int) := by omega
    refine evPos ?_
    simp only [laws_eqServiceS.l0, if_neg hge]
    exact Ev.now _
  | succ d ih =>
    intro i h0 h1 hd
    have hlt : i < (l.length : Int) := by omega
    have hm := hs (l[i.toNat]'(by omega)) (List.getElem_mem _)
    have hw : wrap64 (i + 1) = i + 1 := wrap_up h0 hlt (by omega)
    have he : Ev (fun k => laws_eqService.f k (l[i.toNat]'(by omega)).f0 (l[i.toNat]'(by omega)).f1 (l[i.toNat]'(by omega)).f0 (l[i.toNat]'(by omega)).f1) true := by
      unfold laws_eqService.f
      refine Ev.bind (eqByteS_ev _ (by have := hm.1; omega)) ?_
      simp only [if_true]
      refine Ev.bind (eqCheckS_ev _ hm.2.1 hm.2.2) ?_
      simp only [if_true]
      exact Ev.now _
    refine evPos ?_
    simp only [laws_eqServiceS.l0, if_pos hlt, if_pos h0, rdD_lt h0 hlt, hw]
    refine Ev.bind he ?_
    simp only [if_true]
    exact ih (i + 1) (by omega) (by omega) (by omega)
theorem eqLocal_ev (l : List Int) (m : List S43) (hl : l.length ≤ 1048576) (hm : m.length ≤ 1048576) (hs : ∀ y ∈ m, smI y) : Ev (fun k => laws_eqLocal.f k l m l m) true := by
  have h : Ev (fun k => laws_eqServiceS.f k m m) true := by
    unfold laws_eqServiceS.f
    simp only [if_true]
    exact eqServiceS_loop m hm hs m.length 0 (by omega) (by omega) (by omega)
  unfold laws_eqLocal.f
  refine Ev.bind (eqByteS_ev l (by omega)) ?_
  simp only [if_true]
  refine Ev.bind h ?_
  simp only [if_true]
  exact Ev.now _
/-! slices.Index and slices.Contains of whole numbers. -/
theorem Index_loop (l : List Int) (a : Int) (hl : l.length ≤ 9223372036854775807) (d : Nat) : ∀ (i : Int), 0 ≤ i → i ≤ l.length → (l.length : Int) - i = d →
    ∃ r, Ev (fun k => slices_Index_byte_byte.l0 k l a (l.length : Int) i) r ∧ (r ≥ 0 ↔ a ∈ l.drop i.toNat) := by
  induction d with
  | zero =>
    intro i h0 h1 hd
    refine ⟨-1, ?_, ?_⟩
    · refine evPos ?_
      have hge : ¬ i < (l.length : Int) := by omega
      simp only [slices_Index_byte_byte.l0, if_neg hge]
      exact Ev.now _
    · rw [List.drop_eq_nil_of_le (by omega)]; simp
  | succ d ih =>
    intro i h0 h1 hd
    have hlt : i < (l.length : Int) := by omega
    have hw : wrap64 (i + 1) = i + 1 := wrap_up h0 hlt hl
    have e : (i + 1).toNat = i.toNat + 1 := by omega
    have ed : l.drop i.toNat = rd l i :: l.drop (i + 1).toNat := by
      rw [e, List.drop_eq_getElem_cons (by omega), rd_lt h0 hlt]
    by_cases c : a = rd l i
    · refine ⟨i, ?_, ?_⟩
      · refine evPos ?_
        simp only [slices_Index_byte_byte.l0, if_pos hlt, if_pos h0, if_pos c]
        exact Ev.now _
      · rw [ed]; simp [← c, h0]
    · obtain ⟨r, hr, hm⟩ := ih (i + 1) (by omega) (by omega) (by omega)
      refine ⟨r, ?_, ?_⟩
      · refine evPos ?_
        simp only [slices_Index_byte_byte.l0, if_pos hlt, if_pos h0, if_neg c, hw]
        exact hr
      · rw [ed, hm]; simp [c]
theorem Contains_ev (l : List Int) (a : Int) (hl : l.length ≤ 9223372036854775807) : Ev (fun k => slices_Contains_byte_byte.f k l a) (decide (a ∈ l)) := by
  unfold slices_Contains_byte_byte.f slices_Index_byte_byte.f
  obtain ⟨r, hr, hm⟩ := Index_loop l a hl l.length 0 (by omega) (by omega) (by omega)
  refine Ev.bind hr (evConst ?_)
  simp only [Int.toNat_zero, List.drop_zero] at hm
  simp [hm]
/-! Is a node with its services one: the program's answer and the reference's are one. -/
theorem less_cmp : ∀ (a b : List UInt8), Op.bytesLess a b = decide (Lib.compareBytes a b < 0)
  | [], [] => rfl
  | [], _ :: _ => rfl
  | _ :: _, [] => rfl
  | a :: x, b :: y => by
    have ih := less_cmp x y
    unfold Op.bytesLess Lib.compareBytes
    by_cases h1 : a < b
    · simp [h1]
    · by_cases h2 : b < a
      · have h3 : (a == b) = false := by
          refine beq_eq_false_iff_ne.mpr (fun e => ?_)
          subst e
          exact h1 h2
        simp [h1, h2, h3]
      · have e : a = b := UInt8.le_antisymm (UInt8.not_lt.1 h2) (UInt8.not_lt.1 h1)
        subst e
        simp [h1, ih]
theorem less_nums (a b : List Int) : Op.bytesLess (strOfNums a).toList (strOfNums b).toList = decide (Lib.compareBytes (Lib.bytesOf a) (Lib.bytesOf b) < 0) := by
  rw [Lib.strOfNums_toList, Lib.strOfNums_toList, less_cmp]
def partB (l : List Int) : Bool := keyB l && !decide (47 ∈ l)
theorem l14part_loop (l : List Int) (hl : l.length ≤ 9223372036854775807) (d : Nat) : ∀ (i : Int), 0 ≤ i → i ≤ l.length → (l.length : Int) - i = d → Ev (fun k => spec_l14part.l0 k l i) (keyB l && !decide (47 ∈ l.drop i.toNat)) := by
  induction d with
  | zero =>
    intro i h0 h1 hd
    have hge : ¬ i < (l.length : Int) := by omega
    refine evPos ?_
    simp only [spec_l14part.l0, if_neg hge]
    refine evVal (Ev.bind (l2key_ev l hl) (Ev.now _)) ?_
    rw [List.drop_eq_nil_of_le (by omega)]
    simp
  | succ d ih =>
    intro i h0 h1 hd
    have hlt : i < (l.length : Int) := by omega
    have hw : wrap64 (i + 1) = i + 1 := wrap_up h0 hlt hl
    have e : (i + 1).toNat = i.toNat + 1 := by omega
    have ed : l.drop i.toNat = rd l i :: l.drop (i + 1).toNat := by
      rw [e, List.drop_eq_getElem_cons (by omega), rd_lt h0 hlt]
    refine evPos ?_
    by_cases c : rd l i = 47
    · simp only [spec_l14part.l0, if_pos hlt, if_pos h0, if_pos c]
      refine evConst ?_
      rw [ed]; simp [c]
    · simp only [spec_l14part.l0, if_pos hlt, if_pos h0, if_neg c, hw]
      refine evVal (ih (i + 1) (by omega) (by omega) (by omega)) ?_
      rw [ed]
      have c2 : ¬ 47 = rd l i := fun z => c z.symm
      simp [c2]
theorem l14part_ev (l : List Int) (hl : l.length ≤ 9223372036854775807) : Ev (fun k => spec_l14part.f k l) (partB l) := by
  unfold spec_l14part.f
  have := l14part_loop l hl l.length 0 (by omega) (by omega) (by omega)
  simpa [partB] using this
theorem isPlain_ev (l : List Int) (hl : l.length ≤ 9223372036854775807) : Ev (fun k => impl_isPlain.f k l) (partB l) := by
  unfold impl_isPlain.f
  refine Ev.bind (KeyOk_ev l hl) ?_
  unfold partB
  cases h : keyB l with
  | false => simp only [Bool.false_eq_true, if_false]; exact Ev.now _
  | true =>
    simp only [if_true]
    exact Ev.bind (Contains_ev l 47 hl) (Ev.now _)
def keyF (node name : List Int) : List Int := [115, 118, 99, 47] ++ node ++ [47] ++ name
theorem l14key_eq (node name : List Int) (h1 : node.length ≤ 1048576) (h2 : name.length ≤ 1048576) : spec_l14key.f node name = some (keyF node name) := by
  unfold spec_l14key.f keyF
  have g1 : ([115, 118, 99, 47] : List Int).length + node.length < 140737488355328 := by simp; omega
  have g2 : (([115, 118, 99, 47] : List Int) ++ node).length < 140737488355328 := by simp; omega
  have g3 : ((([115, 118, 99, 47] : List Int) ++ node) ++ [47]).length + name.length < 140737488355328 := by simp; omega
  simp only [Option.bind_some, if_pos g1, if_pos g2, if_pos g3]
theorem ahead_eq (node : List Int) (m : List S43) (h1 : node.length ≤ 1048576) : impl_Local_ahead.f node m = some ([115, 118, 99, 47] ++ node ++ [47]) := by
  unfold impl_Local_ahead.f slices_Concat_byte_byte.f
  have g : ([[115, 118, 99, 47], node, [47]] : List (List Int)).flatten.length < 140737488355328 := by simp; omega
  rw [if_pos g]
  simp
theorem catalogKey_eq (node name : List Int) (m : List S43) (h1 : node.length ≤ 1048576) (h2 : name.length ≤ 1048576) : impl_Local_catalogKey.f node m name = some (keyF node name) := by
  unfold impl_Local_catalogKey.f
  rw [ahead_eq node m h1]
  unfold slices_Concat_byte_byte.f
  have g : ([[115, 118, 99, 47] ++ node ++ [47], name] : List (List Int)).flatten.length < 140737488355328 := by simp; omega
  simp only [Option.bind_some]
  rw [if_pos g]
  simp [keyF]
theorem keyF_len (node name : List Int) : (keyF node name).length = node.length + name.length + 5 := by
  unfold keyF; simp; omega
theorem localIn (node : List Int) (m : List S43) (nm : List Int) (cs : List S47) (hc : cs.length ≤ 1048576) (hcs : ∀ z ∈ cs, z.f0.length ≤ 1048576) (i : Int) (i0 : 0 ≤ i) (i1 : i < (m.length : Int)) (hm : m.length ≤ 1048576) (b : Bool)
    (h1 : Ev (fun k => spec_LocalOk.l0 k (i + 1) node m) b) (h2 : Ev (fun k => impl_LocalOk.l0 k m (m.length : Int) (i + 1) node m) b) (d : Nat) : ∀ (j : Int), 0 ≤ j → j ≤ cs.length → (cs.length : Int) - j = d →
    ∃ r, Ev (fun k => spec_LocalOk.l1 k i j node m nm cs) r ∧ Ev (fun k => impl_LocalOk.l1 k m (m.length : Int) i cs (cs.length : Int) j node m nm cs) r := by
  have hwi : wrap64 (i + 1) = i + 1 := by unfold wrap64; omega
  induction d with
  | zero =>
    intro j j0 j1 hd
    have hge : ¬ j < (cs.length : Int) := by omega
    refine ⟨b, evPos ?_, evPos ?_⟩
    · simp only [spec_LocalOk.l1, if_neg hge, hwi]; exact h1
    · simp only [impl_LocalOk.l1, if_neg hge, hwi]; exact h2
  | succ d ih =>
    intro j j0 j1 hd
    have hlt : j < (cs.length : Int) := by omega
    have hw : wrap64 (j + 1) = j + 1 := wrap_up j0 hlt (by omega)
    have hz := hcs (cs[j.toNat]'(by omega)) (List.getElem_mem _)
    obtain ⟨c, hcd⟩ : ∃ c, c = cs[j.toNat]'(by omega) := ⟨_, rfl⟩
    have e1 := spec_CheckOk_ev c.f0 c.f1 c.f2 c.f3 c.f4 c.f5 (by rw [hcd]; omega)
    have e2 := impl_CheckOk_ev c.f0 c.f1 c.f2 c.f3 c.f4 c.f5 (by rw [hcd]; omega)
    have er : rd_T47 cs j = c := by rw [rdB_lt j0 hlt, hcd]
    obtain ⟨r, r1, r2⟩ := ih (j + 1) (by omega) (by omega) (by omega)
    cases hb : checkB c.f0 c.f1 c.f2 c.f3 c.f4 c.f5 with
    | false =>
      rw [hb] at e1 e2
      refine ⟨false, evPos ?_, evPos ?_⟩
      · simp only [spec_LocalOk.l1, if_pos hlt, if_pos j0, er]
        refine Ev.bind e1 ?_
        simp only [Bool.false_eq_true, if_false]; exact Ev.now _
      · simp only [impl_LocalOk.l1, if_pos hlt, if_pos j0, er]
        refine Ev.bind e2 ?_
        simp only [Bool.false_eq_true, if_false]; exact Ev.now _
    | true =>
      rw [hb] at e1 e2
      by_cases cj : j > 0
      · have w1 : wrap64 (j - 1) = j - 1 := by unfold wrap64; omega
        have q0 : 0 ≤ j - 1 := by omega
        have q1 : j - 1 < (cs.length : Int) := by omega
        obtain ⟨v, hv⟩ : ∃ v, v = Lib.compareBytes (Lib.bytesOf (rd_T47 cs (j - 1)).f0) (Lib.bytesOf c.f0) := ⟨_, rfl⟩
        by_cases cv0 : v < 0
        · have cv1 : ¬ v ≥ 0 := by omega
          refine ⟨r, evPos ?_, evPos ?_⟩
          · simp only [spec_LocalOk.l1, if_pos hlt, if_pos j0, er, hw]
            refine Ev.bind e1 ?_
            simp only [if_true, if_pos cj, w1, if_pos q0, if_pos q1, less_nums, ← hv, cv0, decide_true]
            exact r1
          · simp only [impl_LocalOk.l1, if_pos hlt, if_pos j0, er, hw]
            refine Ev.bind e2 ?_
            simp only [if_true, if_pos cj, w1, if_pos q0, if_pos q1, bytes_Compare.f, ← hv, Option.bind_some, if_neg cv1]
            exact r2
        · have cv1 : v ≥ 0 := by omega
          refine ⟨false, evPos ?_, evPos ?_⟩
          · simp only [spec_LocalOk.l1, if_pos hlt, if_pos j0, er, hw]
            refine Ev.bind e1 ?_
            simp only [if_true, if_pos cj, w1, if_pos q0, if_pos q1, less_nums, ← hv, cv0, decide_false, Bool.false_eq_true, if_false]
            exact Ev.now _
          · simp only [impl_LocalOk.l1, if_pos hlt, if_pos j0, er, hw]
            refine Ev.bind e2 ?_
            simp only [if_true, if_pos cj, w1, if_pos q0, if_pos q1, bytes_Compare.f, ← hv, Option.bind_some, if_pos cv1]
            exact Ev.now _
      · refine ⟨r, evPos ?_, evPos ?_⟩
        · simp only [spec_LocalOk.l1, if_pos hlt, if_pos j0, er, hw]
          refine Ev.bind e1 ?_
          simp only [if_true, if_neg cj]
          exact r1
        · simp only [impl_LocalOk.l1, if_pos hlt, if_pos j0, er, hw]
          refine Ev.bind e2 ?_
          simp only [if_true, if_neg cj]
          exact r2
theorem localOut (node : List Int) (hn : node.length ≤ 1048576) (m : List S43) (hm : m.length ≤ 1048576) (hs : ∀ y ∈ m, smI y) (d : Nat) : ∀ (i : Int), 0 ≤ i → i ≤ m.length → (m.length : Int) - i = d →
    ∃ r, Ev (fun k => spec_LocalOk.l0 k i node m) r ∧ Ev (fun k => impl_LocalOk.l0 k m (m.length : Int) i node m) r := by
  induction d with
  | zero =>
    intro i h0 h1 hd
    have hge : ¬ i < (m.length : Int) := by omega
    refine ⟨true, evPos ?_, evPos ?_⟩
    · simp only [spec_LocalOk.l0, if_neg hge]; exact Ev.now _
    · simp only [impl_LocalOk.l0, if_neg hge]; exact Ev.now _
  | succ d ih =>
    intro i h0 h1 hd
    have hlt : i < (m.length : Int) := by omega
    obtain ⟨b, b1, b2⟩ := ih (i + 1) (by omega) (by omega) (by omega)
    have hy := hs (m[i.toNat]'(by omega)) (List.getElem_mem _)
    obtain ⟨y, hyd⟩ : ∃ y, y = m[i.toNat]'(by omega) := ⟨_, rfl⟩
    rw [← hyd] at hy
    have er : rd_T43 m i = y := by rw [rdD_lt h0 hlt, hyd]
    obtain ⟨y1, y2, y3⟩ := hy
    obtain ⟨r, r1, r2⟩ := localIn node m y.f0 y.f1 y2 y3 i h0 hlt hm b b1 b2 y.f1.length 0 (by omega) (by omega) (by omega)
    have p1 := l14part_ev y.f0 (by omega)
    have p2 := isPlain_ev y.f0 (by omega)
    have k1 := l2key_ev (keyF node y.f0) (by rw [keyF_len]; omega)
    have k2 := KeyOk_ev (keyF node y.f0) (by rw [keyF_len]; omega)
    have jt1 : Ev (fun k => spec_LocalOk.j2 k i true node m y.f0 y.f1) false := by
      refine evPos ?_
      simp only [spec_LocalOk.j2, if_true]; exact Ev.now _
    have jt2 : Ev (fun k => impl_LocalOk.j2 k m (m.length : Int) i true node m y.f0 y.f1) false := by
      refine evPos ?_
      simp only [impl_LocalOk.j2, if_true]; exact Ev.now _
    have jf1 : Ev (fun k => spec_LocalOk.j2 k i false node m y.f0 y.f1) r := by
      refine evPos ?_
      simp only [spec_LocalOk.j2, Bool.false_eq_true, if_false]; exact r1
    have jf2 : Ev (fun k => impl_LocalOk.j2 k m (m.length : Int) i false node m y.f0 y.f1) r := by
      refine evPos ?_
      simp only [impl_LocalOk.j2, Bool.false_eq_true, if_false]; exact r2
    have s1 : ∀ q, Ev (fun k => (spec_l14part.f k y.f0).bind fun t140 => (if t140 = true then ((spec_l14key.f node y.f0).bind fun t141 => ((spec_l2key.f k t141).bind fun t144 => (if t144 = true then (if (y.f1.length : Int) > 4 then (spec_LocalOk.j2 k i true node m y.f0 y.f1) else (if i > 0 then (if 0 ≤ (wrap64 (i - 1)) then (if (wrap64 (i - 1)) < (m.length : Int) then (spec_LocalOk.j2 k i (!(Op.bytesLess ((strOfNums ((rd_T43 m (wrap64 (i - 1))).f0)).toList) ((strOfNums y.f0).toList))) node m y.f0 y.f1) else (none)) else (none)) else (spec_LocalOk.j2 k i false node m y.f0 y.f1))) else (spec_LocalOk.j2 k i true node m y.f0 y.f1)))) else (spec_LocalOk.j2 k i true node m y.f0 y.f1))) q → Ev (fun k => spec_LocalOk.l0 k i node m) q := fun q hq => by
      refine evPos ?_
      simp only [spec_LocalOk.l0, if_pos hlt, if_pos h0, er]; exact hq
    have s2 : ∀ q, Ev (fun k => (impl_isPlain.f k y.f0).bind fun t251 => (if t251 = true then ((impl_Local_catalogKey.f node m y.f0).bind fun t252 => ((impl_KeyOk.f k t252).bind fun t255 => (if t255 = true then (if (y.f1.length : Int) > 4 then (impl_LocalOk.j2 k m (m.length : Int) i true node m y.f0 y.f1) else (if i > 0 then (if 0 ≤ (wrap64 (i - 1)) then (if (wrap64 (i - 1)) < (m.length : Int) then ((bytes_Compare.f ((rd_T43 m (wrap64 (i - 1))).f0) y.f0).bind fun t257 => (impl_LocalOk.j2 k m (m.length : Int) i (decide (t257 ≥ 0)) node m y.f0 y.f1)) else (none)) else (none)) else (impl_LocalOk.j2 k m (m.length : Int) i false node m y.f0 y.f1))) else (impl_LocalOk.j2 k m (m.length : Int) i true node m y.f0 y.f1)))) else (impl_LocalOk.j2 k m (m.length : Int) i true node m y.f0 y.f1))) q → Ev (fun k => impl_LocalOk.l0 k m (m.length : Int) i node m) q := fun q hq => by
      refine evPos ?_
      simp only [impl_LocalOk.l0, if_pos hlt, if_pos h0, er]; exact hq
    cases hp : partB y.f0 with
    | false =>
      rw [hp] at p1 p2
      refine ⟨false, s1 _ (Ev.bind p1 ?_), s2 _ (Ev.bind p2 ?_)⟩
      · simp only [Bool.false_eq_true, if_false]; exact jt1
      · simp only [Bool.false_eq_true, if_false]; exact jt2
    | true =>
      rw [hp] at p1 p2
      cases hk : keyB (keyF node y.f0) with
      | false =>
        rw [hk] at k1 k2
        refine ⟨false, s1 _ (Ev.bind p1 ?_), s2 _ (Ev.bind p2 ?_)⟩
        · simp only [if_true, l14key_eq node y.f0 hn y1, Option.bind_some]
          refine Ev.bind k1 ?_
          simp only [Bool.false_eq_true, if_false]; exact jt1
        · simp only [if_true, catalogKey_eq node y.f0 m hn y1, Option.bind_some]
          refine Ev.bind k2 ?_
          simp only [Bool.false_eq_true, if_false]; exact jt2
      | true =>
        rw [hk] at k1 k2
        by_cases c4 : (y.f1.length : Int) > 4
        · refine ⟨false, s1 _ (Ev.bind p1 ?_), s2 _ (Ev.bind p2 ?_)⟩
          · simp only [if_true, l14key_eq node y.f0 hn y1, Option.bind_some]
            refine Ev.bind k1 ?_
            simp only [if_true, if_pos c4]; exact jt1
          · simp only [if_true, catalogKey_eq node y.f0 m hn y1, Option.bind_some]
            refine Ev.bind k2 ?_
            simp only [if_true, if_pos c4]; exact jt2
        · by_cases ci : i > 0
          · have w1 : wrap64 (i - 1) = i - 1 := by unfold wrap64; omega
            have q0 : 0 ≤ i - 1 := by omega
            have q1 : i - 1 < (m.length : Int) := by omega
            obtain ⟨v, hv⟩ : ∃ v, v = Lib.compareBytes (Lib.bytesOf (rd_T43 m (i - 1)).f0) (Lib.bytesOf y.f0) := ⟨_, rfl⟩
            have fin : ∃ q, Ev (fun k => spec_LocalOk.j2 k i (!decide (v < 0)) node m y.f0 y.f1) q ∧ Ev (fun k => impl_LocalOk.j2 k m (m.length : Int) i (decide (v ≥ 0)) node m y.f0 y.f1) q := by
              by_cases cv0 : v < 0
              · have cv1 : ¬ v ≥ 0 := by omega
                refine ⟨r, ?_, ?_⟩
                · simp only [cv0, decide_true, Bool.not_true]; exact jf1
                · simp only [cv1, decide_false]; exact jf2
              · have cv1 : v ≥ 0 := by omega
                refine ⟨false, ?_, ?_⟩
                · simp only [cv0, decide_false, Bool.not_false]; exact jt1
                · simp only [cv1, decide_true]; exact jt2
            obtain ⟨q, f1, f2⟩ := fin
            refine ⟨q, s1 _ (Ev.bind p1 ?_), s2 _ (Ev.bind p2 ?_)⟩
            · simp only [if_true, l14key_eq node y.f0 hn y1, Option.bind_some]
              refine Ev.bind k1 ?_
              simp only [if_true, if_neg c4, if_pos ci, w1, if_pos q0, if_pos q1, less_nums, ← hv]; exact f1
            · simp only [if_true, catalogKey_eq node y.f0 m hn y1, Option.bind_some]
              refine Ev.bind k2 ?_
              simp only [if_true, if_neg c4, if_pos ci, w1, if_pos q0, if_pos q1, bytes_Compare.f, ← hv, Option.bind_some]; exact f2
          · refine ⟨r, s1 _ (Ev.bind p1 ?_), s2 _ (Ev.bind p2 ?_)⟩
            · simp only [if_true, l14key_eq node y.f0 hn y1, Option.bind_some]
              refine Ev.bind k1 ?_
              simp only [if_true, if_neg c4, if_neg ci]; exact jf1
            · simp only [if_true, catalogKey_eq node y.f0 m hn y1, Option.bind_some]
              refine Ev.bind k2 ?_
              simp only [if_true, if_neg c4, if_neg ci]; exact jf2
theorem localOk_ev (node : List Int) (m : List S43) (hn : node.length ≤ 1048576) (hm : m.length ≤ 1048576) (hs : ∀ y ∈ m, smI y) : ∃ r, Ev (fun k => spec_LocalOk.f k node m) r ∧ Ev (fun k => impl_LocalOk.f k node m) r := by
  have p1 := l14part_ev node (by omega)
  have p2 := isPlain_ev node (by omega)
  have jt1 : Ev (fun k => spec_LocalOk.j0 k true node m) false := by
    refine evPos ?_
    simp only [spec_LocalOk.j0, if_true]; exact Ev.now _
  have jt2 : Ev (fun k => impl_LocalOk.j0 k true node m) false := by
    refine evPos ?_
    simp only [impl_LocalOk.j0, if_true]; exact Ev.now _
  unfold spec_LocalOk.f impl_LocalOk.f
  cases hp : partB node with
  | false =>
    rw [hp] at p1 p2
    refine ⟨false, Ev.bind p1 ?_, Ev.bind p2 ?_⟩
    · simp only [Bool.false_eq_true, if_false]; exact jt1
    · simp only [Bool.false_eq_true, if_false]; exact jt2
  | true =>
    rw [hp] at p1 p2
    by_cases c : (m.length : Int) > 6
    · refine ⟨false, Ev.bind p1 ?_, Ev.bind p2 ?_⟩
      · simp only [if_true, c, decide_true]; exact jt1
      · simp only [if_true, c, decide_true]; exact jt2
    · obtain ⟨r, r1, r2⟩ := localOut node hn m hm hs m.length 0 (by omega) (by omega) (by omega)
      refine ⟨r, Ev.bind p1 ?_, Ev.bind p2 ?_⟩
      · simp only [if_true, c, decide_false]
        refine evPos ?_
        simp only [spec_LocalOk.j0, Bool.false_eq_true, if_false]; exact r1
      · simp only [if_true, c, decide_false]
        refine evPos ?_
        simp only [impl_LocalOk.j0, Bool.false_eq_true, if_false]; exact r2
theorem FnExactLocalOk : AFnExactLocalOk.Stmt := by
  intro l m hl _ hm hw
  suffices h : Ev (fun k => laws_FnExactLocalOk.f k l m) true from h.rounds
  unfold laws_FnExactLocalOk.f
  obtain ⟨r, hr, _, _, hb⟩ := szLocal_at l m 1048576 (by omega) (by omega) hl hm (fun y hy => ⟨(hw y hy).1.1, (hw y hy).2.1, fun z hz => ((hw y hy).2.2 z hz).1.1⟩)
  refine Ev.bind hr ?_
  by_cases c : r < 0
  · simp only [if_pos c]; exact Ev.now _
  · simp only [if_neg c]
    obtain ⟨h1, h2, h3⟩ := hb (by omega)
    have t := toLocal_ev l m h1 h2 h3
    have g2 : (m.map cvS).length ≤ 1048576 := by simpa using h2
    have g3 : ∀ y ∈ m.map cvS, smI y := by
      intro y hy
      obtain ⟨x, hx, rfl⟩ := List.mem_map.mp hy
      exact cvS_sm (h3 x hx)
    obtain ⟨q, q1, q2⟩ := localOk_ev l (m.map cvS) h1 g2 g3
    refine Ev.bind t ?_
    refine Ev.bind q1 ?_
    refine Ev.bind t ?_
    refine Ev.bind q2 ?_
    simp only [bne_self_eq_false, Bool.false_eq_true, if_false]
    refine Ev.bind t ?_
    refine Ev.bind (eqLocal_ev _ _ h1 g2 g3) ?_
    simp only [if_true]
    exact Ev.now _

end Go.Proofs.Ytkeplodbjldaiaa.Pure
