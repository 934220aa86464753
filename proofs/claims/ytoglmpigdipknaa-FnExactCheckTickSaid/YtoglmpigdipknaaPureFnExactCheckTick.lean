/- The program's CheckTick gives what the reference's CheckTick gives, for every argument; its result shares no memory with the argument or another result. No condition. -/
import Derived.Test.YtoglmpigdipknaaArgsFnExactCheckTick
namespace Go.Proofs.Ytoglmpigdipknaa.Pure
open Go.RowKit Go.Proofs.Ytoglmpigdipknaa.AFnExactCheckTick Go.Proofs.Ytoglmpigdipknaa.XFnExactCheckTick Go.Proofs.YtoglmpigdipknaaW.PrintWords Go.Proofs.YtoglmpigdipknaaW.PrintLast
set_option linter.unusedSimpArgs false
set_option linter.unusedVariables false
theorem wrap_up {i : Int} {n : Nat} (h0 : 0 ≤ i) (h : i < (n : Int)) (hn : n ≤ 9223372036854775807) : wrap64 (i + 1) = i + 1 := by
  unfold wrap64; omega
theorem evPos {α : Type} {g : Nat → Option α} {r : α} (h : Ev (fun k => g (k + 1)) r) : Ev g r := by
  obtain ⟨K, hK⟩ := h
  refine ⟨K + 1, fun k hk => ?_⟩
  obtain ⟨m, rfl⟩ : ∃ m, k = m + 1 := ⟨k - 1, by omega⟩
  exact hK m (by omega)
theorem evConst {α : Type} {a : Option α} {r : α} (h : a = some r) : Ev (fun _ => a) r := ⟨0, fun _ _ => h⟩
theorem evShift {α : Type} {g : Nat → Option α} {r : α} (h : Ev g r) : Ev (fun k => g (k + 1)) r := by
  obtain ⟨K, hK⟩ := h
  exact ⟨K, fun k hk => hK (k + 1) (by omega)⟩
theorem evVal {α : Type} {g : Nat → Option α} {r r' : α} (h : Ev g r) (e : r = r') : Ev g r' := e ▸ h
theorem rd_lt {l : List Int} {i : Int} (h0 : 0 ≤ i) (h : i < (l.length : Int)) : rd l i = l[i.toNat]'(by omega) := by
  unfold rd; rw [List.getD_eq_getElem?_getD, List.getElem?_eq_getElem (by omega)]; rfl
/-! toByteS, eqByteS, szByteS: a copy is what it copies; two lists are equal. -/
theorem toByteS_loop (l : List Int) (hl : l.length ≤ 281474976710656) (d : Nat) : ∀ (x : List Int) (i : Int), 0 ≤ i → i ≤ l.length → (l.length : Int) - i = d → x.length = l.length → x.take i.toNat = l.take i.toNat →
    Ev (fun k => laws_toByteS.l0 k l x i) l := by
  induction d with
  | zero =>
    intro x i h0 h1 hd hx ht
    have hge : ¬ i < (l.length : Int) := by omega
    refine evPos ?_
    simp only [laws_toByteS.l0, if_neg hge]
    refine evConst ?_
    have e : i.toNat = l.length := by omega
    rw [e, List.take_length] at ht
    rw [← hx, List.take_length] at ht
    rw [ht]
  | succ d ih =>
    intro x i h0 h1 hd hx ht
    refine evPos ?_
    simp only [laws_toByteS.l0]
    have hlt : i < (l.length : Int) := by omega
    have hlt' : i < (x.length : Int) := by omega
    have hw : wrap64 (i + 1) = i + 1 := wrap_up h0 hlt (by omega)
    simp only [if_pos hlt, if_pos h0, if_pos hlt', hw]
    refine ih _ (i + 1) (by omega) (by omega) (by omega) (by simp [hx]) ?_
    have e : (i + 1).toNat = i.toNat + 1 := by omega
    have hi : i.toNat < l.length := by omega
    have hi' : i.toNat < x.length := by omega
    rw [e, List.take_succ_eq_append_getElem hi, List.take_succ_eq_append_getElem (by simpa using hi')]
    rw [List.take_set_of_le (Nat.le_refl _), ht, List.getElem_set_self, rd_lt h0 hlt]
theorem toByteS_ev (l : List Int) (hl : l.length ≤ 281474976710656) : Ev (fun k => laws_toByteS.f k l) l := by
  unfold laws_toByteS.f
  have h1 : 0 ≤ (l.length : Int) := by omega
  have h2 : ((l.length : Int)).toNat ≤ 281474976710656 := by omega
  simp only [if_pos h1, if_pos h2]
  exact toByteS_loop l hl l.length _ 0 (by omega) (by omega) (by omega) (by simp) (by simp)
theorem eqByteS_loop (l : List Int) (hl : l.length ≤ 281474976710656) (d : Nat) : ∀ (i : Int), 0 ≤ i → i ≤ l.length → (l.length : Int) - i = d → Ev (fun k => laws_eqByteS.l0 k l l i) true := by
  induction d with
  | zero =>
    intro i h0 h1 hd
    have hge : ¬ i < (l.length : Int) := by omega
    refine evPos ?_
    simp only [laws_eqByteS.l0, if_neg hge]
    exact Ev.now _
  | succ d ih =>
    intro i h0 h1 hd
    refine evPos ?_
    simp only [laws_eqByteS.l0]
    have hlt : i < (l.length : Int) := by omega
    have hw : wrap64 (i + 1) = i + 1 := wrap_up h0 hlt (by omega)
    simp only [if_pos hlt, if_pos h0, if_true, hw]
    exact ih (i + 1) (by omega) (by omega) (by omega)
theorem eqByteS_ev (l : List Int) (hl : l.length ≤ 281474976710656) : Ev (fun k => laws_eqByteS.f k l l) true := by
  unfold laws_eqByteS.f
  simp only [if_true]
  exact eqByteS_loop l hl l.length 0 (by omega) (by omega) (by omega)
theorem szByteS_eq (l : List Int) (a : Int) (hl : l.length ≤ 9223372036854775807) (ha : -1 ≤ a) (ha' : a ≤ 1048576) : laws_szByteS.f l a = some (if (l.length : Int) ≤ a then a - l.length else -1) := by
  unfold laws_szByteS.f
  have w : wrap64 (a - (l.length : Int)) = a - l.length := by unfold wrap64; omega
  rw [w]
  by_cases h : (l.length : Int) ≤ a
  · rw [if_neg (by omega), if_pos h]
  · rw [if_pos (by omega), if_neg h]
/-! markByteS, heldByteS: what was marked is found so. -/
def marksB (a : Int) (n : Nat) : List Int := (List.range n).map fun (i : Nat) => (a + (i : Int)) % 256
theorem marksB_length (a : Int) (n : Nat) : (marksB a n).length = n := by simp [marksB]
theorem marksB_rd (a : Int) (n : Nat) {i : Int} (h0 : 0 ≤ i) (h : i < (n : Int)) : rd (marksB a n) i = (a + i) % 256 := by
  rw [rd_lt h0 (by rw [marksB_length]; exact h)]
  simp only [marksB, List.getElem_map, List.getElem_range]
  congr 1; omega
theorem markByteS_loop (n : Nat) (a : Int) (ha : 0 ≤ a) (hn : a + n ≤ 9223372036854775807) (d : Nat) : ∀ (x : List Int) (i : Int), 0 ≤ i → i ≤ n → (n : Int) - i = d → x.length = n → x.take i.toNat = (marksB a n).take i.toNat →
    Ev (fun k => laws_markByteS.l0 k x (a + i) i) (a + n, marksB a n) := by
  induction d with
  | zero =>
    intro x i h0 h1 hd hx ht
    have hge : ¬ i < (x.length : Int) := by omega
    refine evPos ?_
    simp only [laws_markByteS.l0, if_neg hge]
    refine evConst ?_
    have e : i.toNat = n := by omega
    have ei : i = n := by omega
    rw [e] at ht
    rw [List.take_of_length_le (by omega), List.take_of_length_le (by rw [marksB_length]; omega)] at ht
    rw [ht, ei]
  | succ d ih =>
    intro x i h0 h1 hd hx ht
    refine evPos ?_
    have hlt : i < (x.length : Int) := by omega
    have hw : wrap64 (i + 1) = i + 1 := by unfold wrap64; omega
    have hw2 : wrap64 (a + i + 1) = a + (i + 1) := by unfold wrap64; omega
    simp only [laws_markByteS.l0, if_pos hlt, if_pos h0, hw, hw2]
    refine ih _ (i + 1) (by omega) (by omega) (by omega) (by simp [hx]) ?_
    have e : (i + 1).toNat = i.toNat + 1 := by omega
    have hi : i.toNat < (marksB a n).length := by rw [marksB_length]; omega
    have hi' : i.toNat < x.length := by omega
    rw [e, List.take_succ_eq_append_getElem hi, List.take_succ_eq_append_getElem (by simpa using hi'), List.take_set_of_le (Nat.le_refl _), ht, List.getElem_set_self, ← rd_lt h0 (by rw [marksB_length]; omega), marksB_rd a n h0 (by omega)]
theorem markByteS_ev (l : List Int) (a : Int) (ha : 0 ≤ a) (hn : a + l.length ≤ 9223372036854775807) : Ev (fun k => laws_markByteS.f k l a) (a + l.length, marksB a l.length) := by
  unfold laws_markByteS.f
  have := markByteS_loop l.length a ha hn l.length l 0 (by omega) (by omega) (by omega) rfl (by simp)
  simpa using this
theorem heldByteS_loop (n : Nat) (a : Int) (ha : 0 ≤ a) (hn : a + n ≤ 9223372036854775807) (d : Nat) : ∀ (i : Int), 0 ≤ i → i ≤ n → (n : Int) - i = d →
    Ev (fun k => laws_heldByteS.l0 k (marksB a n) (a + i) i) (a + n) := by
  induction d with
  | zero =>
    intro i h0 h1 hd
    have hge : ¬ i < ((marksB a n).length : Int) := by rw [marksB_length]; omega
    refine evPos ?_
    simp only [laws_heldByteS.l0, if_neg hge]
    exact evConst (by congr 1; omega)
  | succ d ih =>
    intro i h0 h1 hd
    refine evPos ?_
    have hlt : i < ((marksB a n).length : Int) := by rw [marksB_length]; omega
    have hw : wrap64 (i + 1) = i + 1 := by unfold wrap64; omega
    have hw2 : wrap64 (a + i + 1) = a + (i + 1) := by unfold wrap64; omega
    have hr := marksB_rd a n h0 (by omega)
    simp only [laws_heldByteS.l0, if_pos hlt, if_pos h0, hr, if_true, hw, hw2]
    exact ih (i + 1) (by omega) (by omega) (by omega)
theorem heldByteS_ev (a : Int) (n : Nat) (ha : 0 ≤ a) (hn : a + n ≤ 9223372036854775807) : Ev (fun k => laws_heldByteS.f k (marksB a n) a) (a + n) := by
  unfold laws_heldByteS.f
  have := heldByteS_loop n a ha hn n 0 (by omega) (by omega) (by omega)
  simpa using this
theorem within_eq (a b c : Int) : impl_within.f a b c = some (decide (b ≤ a) && decide (a ≤ c)) := by
  unfold impl_within.f
  by_cases h : b ≤ a <;> simp [h]
/-! A key: what the program asks and what the reference asks is one. -/
def keyByte (c : Int) : Bool := decide (97 ≤ c) && decide (c ≤ 122) || decide (c = 47)
def keyB (l : List Int) : Bool := decide (1 ≤ l.length) && decide (l.length ≤ 20) && l.all keyByte
theorem all_drop {l : List Int} {i : Int} (h0 : 0 ≤ i) (h : i < (l.length : Int)) (p : Int → Bool) : (l.drop i.toNat).all p = (p (rd l i) && (l.drop (i + 1).toNat).all p) := by
  have e : (i + 1).toNat = i.toNat + 1 := by omega
  rw [e, List.drop_eq_getElem_cons (by omega), List.all_cons, rd_lt h0 h]
theorem KeyOk_loop (l : List Int) (hl : l.length ≤ 9223372036854775807) (d : Nat) : ∀ (i : Int), 0 ≤ i → i ≤ l.length → (l.length : Int) - i = d →
    Ev (fun k => impl_KeyOk.l0 k l l (l.length : Int) i) ((l.drop i.toNat).all keyByte && (decide (1 ≤ l.length) && decide (l.length ≤ 20))) := by
  induction d with
  | zero =>
    intro i h0 h1 hd
    have hge : ¬ i < (l.length : Int) := by omega
    refine evPos ?_
    simp only [impl_KeyOk.l0, if_neg hge]
    refine evConst ?_
    rw [within_eq, List.drop_eq_nil_of_le (by omega)]
    have a : ((1 : Int) ≤ (l.length : Int)) ↔ 1 ≤ l.length := by omega
    have b : ((l.length : Int) ≤ 20) ↔ l.length ≤ 20 := by omega
    simp [a, b]
  | succ d ih =>
    intro i h0 h1 hd
    refine evPos ?_
    simp only [impl_KeyOk.l0]
    have hlt : i < (l.length : Int) := by omega
    rw [all_drop h0 hlt]
    simp only [if_pos hlt, if_pos h0, wrap_up h0 hlt hl]
    by_cases c1 : rd l i < 97
    · simp only [if_pos c1]
      by_cases c2 : rd l i = 47
      · simp only [if_pos c2]
        exact evVal (ih (i + 1) (by omega) (by omega) (by omega)) (by simp [keyByte, c2])
      · simp only [if_neg c2]
        refine evConst ?_
        have : keyByte (rd l i) = false := by simp [keyByte]; omega
        simp [this]
    · simp only [if_neg c1]
      by_cases c3 : rd l i > 122
      · simp only [if_pos c3]
        by_cases c2 : rd l i = 47
        · omega
        · simp only [if_neg c2]
          refine evConst ?_
          have : keyByte (rd l i) = false := by simp [keyByte]; omega
          simp [this]
      · simp only [if_neg c3]
        refine evVal (ih (i + 1) (by omega) (by omega) (by omega)) ?_
        have : keyByte (rd l i) = true := by simp [keyByte]; omega
        simp [this]
theorem KeyOk_ev (l : List Int) (hl : l.length ≤ 9223372036854775807) : Ev (fun k => impl_KeyOk.f k l) (keyB l) := by
  unfold impl_KeyOk.f
  exact evVal (KeyOk_loop l hl l.length 0 (by omega) (by omega) (by omega)) (by simp [keyB, Bool.and_comm])
theorem l2key_loop (l : List Int) (hl : l.length ≤ 9223372036854775807) (d : Nat) : ∀ (i : Int), 0 ≤ i → i ≤ l.length → (l.length : Int) - i = d →
    Ev (fun k => spec_l2key.l0 k l i) ((l.drop i.toNat).all keyByte) := by
  induction d with
  | zero =>
    intro i h0 h1 hd
    have hge : ¬ i < (l.length : Int) := by omega
    refine evPos ?_
    simp only [spec_l2key.l0, if_neg hge]
    refine evConst ?_
    rw [List.drop_eq_nil_of_le (by omega)]
    rfl
  | succ d ih =>
    intro i h0 h1 hd
    refine evPos ?_
    simp only [spec_l2key.l0]
    have hlt : i < (l.length : Int) := by omega
    rw [all_drop h0 hlt]
    simp only [if_pos hlt, if_pos h0, wrap_up h0 hlt hl]
    by_cases c1 : rd l i < 97
    · simp only [if_pos c1]
      by_cases c2 : rd l i = 47
      · simp only [if_pos c2]
        exact evVal (ih (i + 1) (by omega) (by omega) (by omega)) (by simp [keyByte, c2])
      · simp only [if_neg c2]
        refine evConst ?_
        have : keyByte (rd l i) = false := by simp [keyByte]; omega
        simp [this]
    · simp only [if_neg c1]
      by_cases c3 : rd l i > 122
      · simp only [if_pos c3]
        by_cases c2 : rd l i = 47
        · omega
        · simp only [if_neg c2]
          refine evConst ?_
          have : keyByte (rd l i) = false := by simp [keyByte]; omega
          simp [this]
      · simp only [if_neg c3]
        refine evVal (ih (i + 1) (by omega) (by omega) (by omega)) ?_
        have : keyByte (rd l i) = true := by simp [keyByte]; omega
        simp [this]
theorem l2key_ev (l : List Int) (hl : l.length ≤ 9223372036854775807) : Ev (fun k => spec_l2key.f k l) (keyB l) := by
  unfold spec_l2key.f
  by_cases h : (l.length : Int) < 1
  · simp only [if_pos h]
    refine evPos ?_
    simp only [spec_l2key.j0, if_true]
    refine evConst ?_
    have : ¬ 1 ≤ l.length := by omega
    simp [keyB, this]
  · simp only [if_neg h]
    refine evPos ?_
    simp only [spec_l2key.j0]
    by_cases h2 : (l.length : Int) > 20
    · simp only [h2, decide_true, if_true]
      refine evConst ?_
      have : ¬ l.length ≤ 20 := by omega
      simp [keyB, this]
    · simp only [h2, decide_false, Bool.false_eq_true, if_false]
      refine evVal (l2key_loop l hl l.length 0 (by omega) (by omega) (by omega)) ?_
      have a : 1 ≤ l.length := by omega
      have b : l.length ≤ 20 := by omega
      simp [keyB, a, b]
/-! A check: what the program asks and what the reference asks is one. -/
def checkB (l : List Int) (ttl most status age fails : Int) : Bool :=
  keyB l && (decide (0 ≤ ttl) && decide (ttl ≤ 1000) && (decide (1 ≤ most) && decide (most ≤ 5)) && (decide (0 ≤ status) && decide (status ≤ 2)) && (decide (0 ≤ age) && decide (age ≤ 1000)) && (decide (0 ≤ fails) && decide (fails ≤ most))) &&
    ((!(decide (ttl > 0) && decide (age ≥ ttl)) || decide (status = 2)) && (!decide (status = 0) || decide (fails = 0)))
theorem spec_CheckOk_ev (l : List Int) (a b c d e : Int) (hl : l.length ≤ 9223372036854775807) : Ev (fun k => spec_CheckOk.f k l a b c d e) (checkB l a b c d e) := by
  unfold spec_CheckOk.f
  refine Ev.bind (l2key_ev l hl) ?_
  have jt : Ev (fun k => spec_CheckOk.j0 k true l a b c d e) false := by
    refine evPos ?_
    simp only [spec_CheckOk.j0, if_true]
    exact Ev.now _
  cases hk : keyB l with
  | false => simp only [Bool.false_eq_true, if_false]; exact evVal jt (by simp [checkB, hk])
  | true =>
    simp only [if_true]
    by_cases h1 : a < 0
    · simp only [if_pos h1]; exact evVal jt (by have this : ¬ 0 ≤ a := (by omega); simp [checkB, this])
    simp only [if_neg h1]
    by_cases h2 : a > 1000
    · simp only [if_pos h2]; exact evVal jt (by have this : ¬ a ≤ 1000 := (by omega); simp [checkB, this])
    simp only [if_neg h2]
    by_cases h3 : b < 1
    · simp only [if_pos h3]; exact evVal jt (by have this : ¬ 1 ≤ b := (by omega); simp [checkB, this])
    simp only [if_neg h3]
    by_cases h4 : b > 5
    · simp only [if_pos h4]; exact evVal jt (by have this : ¬ b ≤ 5 := (by omega); simp [checkB, this])
    simp only [if_neg h4]
    by_cases h5 : c < 0
    · simp only [if_pos h5]; exact evVal jt (by have this : ¬ 0 ≤ c := (by omega); simp [checkB, this])
    simp only [if_neg h5]
    by_cases h6 : c > 2
    · simp only [if_pos h6]; exact evVal jt (by have this : ¬ c ≤ 2 := (by omega); simp [checkB, this])
    simp only [if_neg h6]
    by_cases h7 : d < 0
    · simp only [if_pos h7]; exact evVal jt (by have this : ¬ 0 ≤ d := (by omega); simp [checkB, this])
    simp only [if_neg h7]
    by_cases h8 : d > 1000
    · simp only [if_pos h8]; exact evVal jt (by have this : ¬ d ≤ 1000 := (by omega); simp [checkB, this])
    simp only [if_neg h8]
    by_cases h9 : e < 0
    · simp only [if_pos h9]; exact evVal jt (by have this : ¬ 0 ≤ e := (by omega); simp [checkB, this])
    simp only [if_neg h9]
    refine evPos ?_
    simp only [spec_CheckOk.j0]
    refine evConst ?_
    have g1 : 0 ≤ a := by omega
    have g2 : a ≤ 1000 := by omega
    have g3 : 1 ≤ b := by omega
    have g4 : b ≤ 5 := by omega
    have g5 : 0 ≤ c := by omega
    have g6 : c ≤ 2 := by omega
    have g7 : 0 ≤ d := by omega
    have g8 : d ≤ 1000 := by omega
    have g9 : 0 ≤ e := by omega
    simp only [checkB, hk, g1, g2, g3, g4, g5, g6, g7, g8, g9, decide_true, Bool.and_true, Bool.true_and]
    by_cases k1 : e > b
    · have k1' : ¬ e ≤ b := by omega
      simp [k1, k1']
    · have k1' : e ≤ b := by omega
      simp only [k1, k1', decide_false, Bool.false_eq_true, if_false, decide_true, Bool.true_and]
      by_cases k2 : a > 0 <;> by_cases k3 : d ≥ a <;> by_cases k4 : c = 2 <;> by_cases k5 : c = 0 <;> by_cases k6 : e = 0 <;> simp [k2, k3, k4, k5, k6] <;> omega
theorem impl_CheckOk_ev (l : List Int) (a b c d e : Int) (hl : l.length ≤ 9223372036854775807) : Ev (fun k => impl_CheckOk.f k l a b c d e) (checkB l a b c d e) := by
  unfold impl_CheckOk.f
  refine Ev.bind (KeyOk_ev l hl) ?_
  refine evConst ?_
  cases hk : keyB l with
  | false => simp [checkB, hk]
  | true =>
    simp only [within_eq, Option.bind_some, if_true, checkB, hk, Bool.true_and, impl_Check_late.f]
    by_cases h1 : 0 ≤ a <;> by_cases h2 : a ≤ 1000 <;> simp only [h1, h2, decide_true, decide_false, Bool.true_and, Bool.false_and, Bool.and_true, Bool.and_false, Bool.false_eq_true, if_true, if_false]
    by_cases h3 : 0 ≤ d <;> by_cases h4 : d ≤ 1000 <;> simp only [h3, h4, decide_true, decide_false, Bool.true_and, Bool.false_and, Bool.and_true, Bool.and_false, Bool.false_eq_true, if_true, if_false]
    by_cases h5 : 1 ≤ b <;> by_cases h6 : b ≤ 5 <;> simp only [h5, h6, decide_true, decide_false, Bool.true_and, Bool.false_and, Bool.and_true, Bool.and_false, Bool.false_eq_true, if_true, if_false]
    by_cases h7 : 0 ≤ c <;> by_cases h8 : c ≤ 2 <;> simp only [h7, h8, decide_true, decide_false, Bool.true_and, Bool.false_and, Bool.and_true, Bool.and_false, Bool.false_eq_true, if_true, if_false]
    by_cases h9 : 0 ≤ e <;> by_cases h10 : e ≤ b <;> simp only [h9, h10, decide_true, decide_false, Bool.true_and, Bool.false_and, Bool.and_true, Bool.and_false, Bool.false_eq_true, if_true, if_false]
    by_cases k2 : a > 0 <;> by_cases k3 : d ≥ a <;> by_cases k4 : c = 2 <;> by_cases k5 : c = 0 <;> by_cases k6 : e = 0 <;> simp [k2, k3, k4, k5, k6] <;> omega
theorem toCheck_ev (l : List Int) (a b c d e : Int) (hl : l.length ≤ 281474976710656) : Ev (fun k => laws_toCheck.f k l a b c d e) (l, a, b, c, d, e) := by
  unfold laws_toCheck.f
  exact Ev.bind (toByteS_ev l hl) (Ev.now _)
theorem eqCheck_ev (l : List Int) (a b c d e : Int) (hl : l.length ≤ 281474976710656) : Ev (fun k => laws_eqCheck.f k l a b c d e l a b c d e) true := by
  unfold laws_eqCheck.f
  refine Ev.bind (eqByteS_ev l hl) ?_
  exact evConst (by simp)
theorem szCheck_eq (l : List Int) (a b c d e x : Int) (hl : l.length ≤ 9223372036854775807) (hx : -1 ≤ x) (hx' : x ≤ 1048576) : laws_szCheck.f l a b c d e x = some (if (l.length : Int) ≤ x then x - l.length else -1) := by
  unfold laws_szCheck.f
  rw [szByteS_eq l x hl hx hx', Option.bind_some]
  by_cases h : (l.length : Int) ≤ x
  · rw [if_pos h, if_neg (by omega)]
  · rw [if_neg h, if_pos (by omega)]
/-! Checks marked and found. -/
theorem markCheck_ev (l : List Int) (a b c d e x : Int) (ha : 0 ≤ x) (hn : x + l.length ≤ 9223372036854775807) : Ev (fun k => laws_markCheck.f k l a b c d e x) (x + l.length, marksB x l.length) := by
  unfold laws_markCheck.f
  exact Ev.bind (markByteS_ev l x ha hn) (Ev.now _)
theorem heldCheck_ev (n : Nat) (a b c d e x : Int) (ha : 0 ≤ x) (hn : x + n ≤ 9223372036854775807) : Ev (fun k => laws_heldCheck.f k (marksB x n) a b c d e x) (x + n) := by
  unfold laws_heldCheck.f
  refine Ev.bind (heldByteS_ev x n ha hn) ?_
  have c1 : ¬ (x + n < 0) := by omega
  simp only [if_neg c1]
  exact Ev.now _
theorem clone_eq (l : List Int) (h : l.length ≤ 1048576) : slices_Clone_byte_byte.f l = some l := by
  unfold slices_Clone_byte_byte.f
  exact if_pos (by omega)
theorem implOwn_eq (l : List Int) (a b c d e : Int) (h : l.length ≤ 1048576) : impl_Check_own.f l a b c d e = some (l, a, b, c, d, e) := by
  unfold impl_Check_own.f
  rw [clone_eq l h, Option.bind_some]
theorem specOwn_eq (l : List Int) (a b c d e : Int) (h : l.length ≤ 1048576) : spec_l13own.f l a b c d e = some (l, a, b, c, d, e) := by
  unfold spec_l13own.f
  simp only [Option.bind_some, List.nil_append, List.length_nil, Nat.zero_add]
  exact if_pos (by omega)
theorem nRange {n : Int} (h : (Lit.int .i64 n).wf = true) : -9223372036854775808 ≤ n ∧ n ≤ 9223372036854775807 := by
  have h1 : (decide (IntKind.min .i64 ≤ n) && decide (n ≤ IntKind.max .i64)) = true := h
  simp only [Bool.and_eq_true, decide_eq_true_eq] at h1
  exact h1
theorem nUp {n : Int} (h : (Lit.int .i64 n).wf = true) : n ≤ 9223372036854775807 := (nRange h).2
theorem nLo {n : Int} (h : (Lit.int .i64 n).wf = true) : -9223372036854775808 ≤ n := (nRange h).1
def tickF (t s a n : Int) : Int × Int × Bool :=
  if t = 0 then (s, a, false) else
    if (if n > 1000 - a then 1000 else a + n) ≥ t ∧ s ≠ 2 then (2, (if n > 1000 - a then 1000 else a + n), true) else (s, (if n > 1000 - a then 1000 else a + n), false)
def resF (l : List Int) (a b c d e n : Int) : List Int × Int × Int × Int × Int × Int × Bool :=
  if checkB l a b c d e = true ∧ 0 ≤ n then (l, a, b, (tickF a c d n).1, (tickF a c d n).2.1, e, (tickF a c d n).2.2) else ([], 0, 0, 0, 0, 0, false)
theorem resF_len (l : List Int) (a b c d e n : Int) : (resF l a b c d e n).1.length ≤ l.length := by
  unfold resF; split <;> simp
theorem check_facts {l : List Int} {a b c d e : Int} (h : checkB l a b c d e = true) : 0 ≤ a ∧ a ≤ 1000 ∧ 0 ≤ d ∧ d ≤ 1000 ∧ 0 ≤ c ∧ c ≤ 2 := by
  simp only [checkB, Bool.and_eq_true, decide_eq_true_eq] at h
  omega
theorem spec_ev (l : List Int) (a b c d e n : Int) (hn : n ≤ 9223372036854775807) (h : l.length ≤ 1048576) : Ev (fun k => spec_CheckTick.f k l a b c d e n) (resF l a b c d e n) := by
  unfold spec_CheckTick.f
  refine Ev.bind (spec_CheckOk_ev l a b c d e (by omega)) ?_
  unfold resF
  cases hc : checkB l a b c d e with
  | false =>
    simp only [Bool.false_eq_true, if_false, false_and]
    refine evPos ?_
    simp only [spec_CheckTick.j0, if_true]
    exact Ev.now _
  | true =>
    obtain ⟨f1, f2, f3, f4, f5, f6⟩ := check_facts hc
    simp only [if_true]
    refine evPos ?_
    simp only [spec_CheckTick.j0]
    refine evConst ?_
    by_cases h0 : n < 0
    · have h0' : ¬ 0 ≤ n := by omega
      simp [h0, h0']
    · have h0' : 0 ≤ n := by omega
      rw [specOwn_eq l a b c d e h]
      have w1 : wrap64 (1000 - d) = 1000 - d := by unfold wrap64; omega
      simp only [h0, h0', decide_false, Bool.false_eq_true, if_false, and_self, if_true, Option.bind_some, spec_l13tick.f, w1, tickF]
      by_cases k1 : a = 0
      · simp [k1]
      by_cases k2 : n > 1000 - d
      · by_cases k3 : (1000 : Int) ≥ a <;> by_cases k4 : c = 2 <;> simp [k1, k2, k3, k4]
      · have w2 : wrap64 (d + n) = d + n := by unfold wrap64; omega
        by_cases k3 : d + n ≥ a <;> by_cases k4 : c = 2 <;> simp [k1, k2, k3, k4, w2]
theorem impl_ev (l : List Int) (a b c d e n : Int) (hn : n ≤ 9223372036854775807) (h : l.length ≤ 1048576) : Ev (fun k => impl_CheckTick.f k l a b c d e n) (resF l a b c d e n) := by
  unfold impl_CheckTick.f
  refine Ev.bind (impl_CheckOk_ev l a b c d e (by omega)) ?_
  refine evConst ?_
  unfold resF
  cases hc : checkB l a b c d e with
  | false => simp
  | true =>
    obtain ⟨f1, f2, f3, f4, f5, f6⟩ := check_facts hc
    by_cases h0 : n < 0
    · have h0' : ¬ 0 ≤ n := by omega
      simp [h0, h0']
    · have h0' : 0 ≤ n := by omega
      have w1 : wrap64 (1000 - d) = 1000 - d := by unfold wrap64; omega
      have w3 : wrap64 (d + mn n (1000 - d)) = (if n > 1000 - d then 1000 else d + n) := by
        have hm : mn n (1000 - d) = if n > 1000 - d then 1000 - d else n := by unfold mn; rfl
        rw [hm]; split <;> unfold wrap64 <;> omega
      simp only [h0, h0', if_false, and_self, if_true, impl_Check_tick.f, implOwn_eq l a b c d e h, Option.bind_some, w1, w3, impl_Check_late.f, tickF]
      by_cases k1 : a = 0
      · simp [k1]
      · have k1' : a > 0 := by omega
        by_cases k3 : (if n > 1000 - d then 1000 else d + n) ≥ a
        · by_cases k4 : c = 2
          · simp [k1, k1', k3, k4]
          · have k5 : ((2 : Int) != c) = true := by rw [bne_iff_ne]; exact fun x => k4 x.symm
            simp only [k1, k1', k3, k4, k5, if_false, if_true, Option.bind_some, decide_true, ne_eq, not_false_eq_true, and_self]
        · simp [k1, k1', k3]
theorem FnExactCheckTick : AFnExactCheckTick.Stmt := by
  intro l a b c d e n hl _ _ _ _ _ _ hn'
  have hn : n ≤ 9223372036854775807 := nUp hn'
  suffices h : Ev (fun k => laws_FnExactCheckTick.f k l a b c d e n) true from h.rounds
  unfold laws_FnExactCheckTick.f
  rw [szCheck_eq l a b c d e 1048576 hl (by omega) (by omega)]
  simp only [Option.bind_some]
  by_cases h : (l.length : Int) ≤ 1048576
  · have h2 : ¬ ((1048576 : Int) - l.length < 0) := by omega
    simp only [if_pos h, if_neg h2]
    have hl' : l.length ≤ 281474976710656 := by omega
    have hs := spec_ev l a b c d e n hn (by omega)
    have hi := impl_ev l a b c d e n hn (by omega)
    have hR := resF_len l a b c d e n
    generalize resF l a b c d e n = R at hs hi hR
    obtain ⟨R0, R1, R2, R3, R4, R5, R6⟩ := R
    simp only at hR
    have t := toCheck_ev l a b c d e hl'
    have e' := eqCheck_ev R0 R1 R2 R3 R4 R5 (by omega)
    refine Ev.bind t ?_
    refine Ev.bind hs ?_
    refine Ev.bind t ?_
    refine Ev.bind hi ?_
    refine Ev.bind e' ?_
    simp only [if_true, bne_self_eq_false]
    refine evPos ?_
    simp only [laws_FnExactCheckTick.j0, Bool.false_eq_true, if_false]
    refine Ev.bind t ?_
    refine Ev.bind (eqCheck_ev l a b c d e hl') ?_
    simp only [if_true]
    refine Ev.bind (markCheck_ev l a b c d e 1 (by omega) (by omega)) ?_
    have c1 : ¬ ((1 : Int) + l.length < 0) := by omega
    simp only [if_neg c1]
    refine Ev.bind e' ?_
    simp only [if_true, bne_self_eq_false]
    refine evPos ?_
    simp only [laws_FnExactCheckTick.j1, Bool.false_eq_true, if_false]
    refine Ev.bind (markCheck_ev R0 R1 R2 R3 R4 R5 1 (by omega) (by omega)) ?_
    refine Ev.bind (heldCheck_ev R0.length R1 R2 R3 R4 R5 1 (by omega) (by omega)) ?_
    have c2 : ¬ ((1 : Int) + R0.length < 0) := by omega
    simp only [if_neg c2, if_true]
    refine Ev.bind t ?_
    refine Ev.bind hi ?_
    refine Ev.bind e' ?_
    simp only [if_true, bne_self_eq_false]
    refine evPos ?_
    simp only [laws_FnExactCheckTick.j2, Bool.false_eq_true, if_false]
    refine Ev.bind (heldCheck_ev R0.length R1 R2 R3 R4 R5 1 (by omega) (by omega)) ?_
    simp only [if_neg c2, if_true]
    exact Ev.now _
  · simp only [if_neg h]
    exact Ev.now _

end Go.Proofs.Ytoglmpigdipknaa.Pure
