/- Lists and numbers, for the proofs about texts. Lemmas alone, no statement. -/
import Derived.Test.YtecleaangfcloabVpKeyFnExactStateRead
import Derived.Test.YtecleaangfcloabVpTseFnExactStateRead
import Derived.Test.YtecleaangfcloabVmOrd
namespace Go.Proofs.Ytecleaangfcloab.VtFnExactStateRead
set_option linter.unusedVariables false
set_option linter.unusedSimpArgs false
open Go Go.Vm
def ixFrom {α : Type} (p : α → Bool) : List α → Int → Int
  | [], _ => -1
  | x :: l, i => if p x then i else ixFrom p l (i + 1)
theorem ix_drop {α : Type} {p : α → Bool} {l : List α} {i : Int} (h0 : 0 ≤ i) (h : i.toNat < l.length) : ixFrom p (l.drop i.toNat) i = if p l[i.toNat] then i else ixFrom p (l.drop (i + 1).toNat) (i + 1) := by
  rw [show (i + 1).toNat = i.toNat + 1 by omega, List.drop_eq_getElem_cons h]
  rfl
theorem ix_end {α : Type} {p : α → Bool} {l : List α} {i : Int} (h : l.length ≤ i.toNat) : ixFrom p (l.drop i.toNat) i = -1 := by
  rw [List.drop_of_length_le h]
  rfl
theorem ix_any {α : Type} {p : α → Bool} : ∀ {l : List α} {i : Int}, 0 ≤ i → decide (ixFrom p l i < 0) = !l.any p
  | [], i, h => by simp [ixFrom]
  | x :: l, i, h => by
    unfold ixFrom
    by_cases hp : p x = true
    · rw [if_pos hp]
      simp [hp]
      exact h
    · rw [if_neg hp, ix_any (by omega)]
      simp [hp]
theorem ix_range {α : Type} {p : α → Bool} : ∀ {l : List α} {i : Int}, 0 ≤ i → -1 ≤ ixFrom p l i ∧ ixFrom p l i ≤ i + l.length
  | [], i, h => by simp [ixFrom]; omega
  | x :: l, i, h => by
    unfold ixFrom
    split
    · simp; omega
    · have := ix_range (p := p) (l := l) (i := i + 1) (by omega)
      simp at this ⊢
      omega
theorem ix_first {α : Type} {p : α → Bool} : ∀ {l : List α} {i : Int} {n : Nat}, (∀ j y, j < n → l[j]? = some y → p y = false) → (h : n < l.length) → p l[n] = true → ixFrom p l i = i + n
  | [], _, _, _, h, _ => by simp at h
  | x :: l, i, 0, _, _, h => by
    have h : p x = true := h
    unfold ixFrom; rw [if_pos h]; simp
  | x :: l, i, n + 1, hj, hl, h => by
    unfold ixFrom
    rw [if_neg (by rw [hj 0 x (by omega) rfl]; simp), ix_first (n := n) (fun j y hjn hy => hj (j + 1) y (by omega) (by simpa using hy)) (by simpa using hl) h]
    omega
theorem den_chk {F : Fns} {N : Nat} {ρ : List Dy} {Ls : List Lb} {c : A} {e : IR} {g b v : Bool} (h : evA ρ c = some ⟨.bool, g⟩) (hg : g = !b) (he : b = true → den F N e ρ Ls = some [B v]) : den F N (.ite c (.ret [.bool false]) e) ρ Ls = some [B (b && v)] := by
  subst hg
  refine den_ite h (fun h1 => ?_) (fun h1 => ?_)
  · have : b = false := by simpa using h1
    subst this
    exact den_ret rfl rfl
  · have : b = true := by simpa using h1
    subst this
    rw [he rfl]; rfl
theorem lt_not (a b : Int) : decide (a < b) = !decide (b ≤ a) := by by_cases h : a < b <;> simp [h]; omega
theorem gt_not (a b : Int) : decide (a > b) = !decide (a ≤ b) := by by_cases h : a > b <;> simp [h]; omega
theorem ge_not (a b : Int) : decide (a ≥ b) = !decide (a < b) := by by_cases h : a ≥ b <;> simp [h]; omega
theorem ne_not (a b : Int) : (a != b) = !decide (a = b) := by by_cases h : a = b <;> simp [h]
def upAll (f : Nat → Bool) : Nat → Nat → Bool
  | _, 0 => true
  | i, d + 1 => f i && upAll f (i + 1) d
theorem up_step {f : Nat → Bool} {i s : Int} (h0 : 0 ≤ i) (h : i < s) : upAll f i.toNat (s - i).toNat = (f i.toNat && upAll f (i + 1).toNat (s - (i + 1)).toNat) := by
  rw [show (s - i).toNat = (s - (i + 1)).toNat + 1 by omega, show (i + 1).toNat = i.toNat + 1 by omega]
  rfl
theorem up_end {f : Nat → Bool} {i s : Int} (h : ¬ i < s) : upAll f i.toNat (s - i).toNat = true := by
  rw [show (s - i).toNat = 0 by omega]
  rfl
theorem up_last {f : Nat → Bool} : ∀ {d i : Nat}, upAll f i d = true → f (i + d) = true → upAll f i (d + 1) = true
  | 0, i, _, h => by simp [upAll] at h ⊢; exact h
  | d + 1, i, h, h2 => by
    simp only [upAll, Bool.and_eq_true] at h
    have := up_last (f := f) (d := d) (i := i + 1) h.2 (by rw [← h2]; congr 1; omega)
    unfold upAll
    rw [h.1, this]; rfl
theorem up_get {f : Nat → Bool} : ∀ {d i j : Nat}, upAll f i d = true → i ≤ j → j < i + d → f j = true
  | 0, i, j, _, h1, h2 => by omega
  | d + 1, i, j, h, h1, h2 => by
    simp only [upAll, Bool.and_eq_true] at h
    by_cases hj : i = j
    · subst hj; exact h.1
    · exact up_get h.2 (by omega) (by omega)

theorem den_chk2 {F : Fns} {N : Nat} {ρ : List Dy} {Ls : List Lb} {c : A} {e : IR} {g b1 b2 v : Bool} (h : evA ρ c = some ⟨.bool, g⟩) (hg : g = !(b1 && b2)) (he : b1 = true → b2 = true → den F N e ρ Ls = some [B v]) : den F N (.ite c (.ret [.bool false]) e) ρ Ls = some [B (b1 && (b2 && v))] := by
  rw [← Bool.and_assoc]
  refine den_chk h hg (fun hb => ?_)
  simp only [Bool.and_eq_true] at hb
  exact he hb.1 hb.2
theorem le3 (c : Int) : decide (c ≤ 3) = decide (c < 4) := by rw [decide_eq_decide]; omega
theorem upto (f : Nat → Bool) (n : Nat) : upAll f 0 n = upAll f (0 : Int).toNat ((n : Int) - 0).toNat := by
  rw [Int.sub_zero, Int.toNat_natCast]; rfl
theorem sub_one {i : Int} {n : Nat} (h0 : 0 < i) (h : i ≤ n) (hn : n < big) : IntKind.i64.wrap (i - 1) = i - 1 := by
  unfold big at hn
  exact wrap_id (by omega) (by omega)

end Go.Proofs.Ytecleaangfcloab.VtFnExactStateRead
