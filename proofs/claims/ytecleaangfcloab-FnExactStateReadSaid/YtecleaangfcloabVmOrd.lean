/- Keys as bytes: their order, and comparisons of their texts. Lemmas alone, no statement. -/
import Derived.Test.YtecleaangfcloabVmNat
import Derived.Test.YtecleaangfcloabVmTse
import Derived.Laws.Strings
namespace Go.Vm
set_option linter.unusedVariables false
set_option linter.unusedSimpArgs false

/-- A key's bytes. -/
def kb (l : List Int) : List UInt8 := l.map fun n => UInt8.ofNat n.toNat

theorem cmpI_kb (l m : List Int) : cmpI l m = Lib.compareBytes (kb l) (kb m) := rfl

theorem cmp_self : ∀ a : List UInt8, Lib.compareBytes a a = 0
  | [] => rfl
  | x :: a => by
    have : ¬ x < x := UInt8.lt_irrefl x
    simp [Lib.compareBytes, this, cmp_self a]

theorem cmp_zero : ∀ {a b : List UInt8}, Lib.compareBytes a b = 0 → a = b
  | [], [], _ => rfl
  | [], _ :: _, h => by simp [Lib.compareBytes] at h
  | _ :: _, [], h => by simp [Lib.compareBytes] at h
  | x :: a, y :: b, h => by
    unfold Lib.compareBytes at h
    split at h
    · simp at h
    · split at h
      · simp at h
      · rename_i h1 h2
        have : x = y := UInt8.le_antisymm (UInt8.not_lt.1 h2) (UInt8.not_lt.1 h1)
        rw [this, cmp_zero h]

theorem cmp_anti : ∀ {a b : List UInt8}, Lib.compareBytes a b < 0 → 0 < Lib.compareBytes b a
  | [], [], h => by simp [Lib.compareBytes] at h
  | [], _ :: _, _ => by simp [Lib.compareBytes]
  | _ :: _, [], h => by simp [Lib.compareBytes] at h
  | x :: a, y :: b, h => by
    unfold Lib.compareBytes at h ⊢
    split at h
    · rename_i h1
      have h2 : ¬ y < x := UInt8.lt_asymm h1
      rw [if_neg h2, if_pos h1]; decide
    · rename_i h1
      split at h
      · simp at h
      · rename_i h2
        rw [if_neg h2, if_neg h1]
        exact cmp_anti h

theorem cmp_anti' {a b : List UInt8} (h : 0 < Lib.compareBytes a b) : Lib.compareBytes b a < 0 := by
  rcases Int.lt_trichotomy (Lib.compareBytes b a) 0 with h1 | h1 | h1
  · exact h1
  · rw [cmp_zero h1, cmp_self] at h; omega
  · rcases Int.lt_trichotomy (Lib.compareBytes a b) 0 with h2 | h2 | h2
    · omega
    · omega
    · exfalso
      clear h
      induction a generalizing b with
      | nil => cases b <;> simp [Lib.compareBytes] at h1 h2
      | cons x a ih =>
        cases b with
        | nil => simp [Lib.compareBytes] at h1
        | cons y b =>
          unfold Lib.compareBytes at h1 h2
          by_cases hxy : x < y
          · rw [if_pos hxy] at h2; simp at h2
          · by_cases hyx : y < x
            · rw [if_pos hyx] at h1; simp at h1
            · rw [if_neg hxy, if_neg hyx] at h2
              rw [if_neg hyx, if_neg hxy] at h1
              exact ih h1 h2

theorem cmp_trans : ∀ {a b c : List UInt8}, Lib.compareBytes a b < 0 → Lib.compareBytes b c < 0 → Lib.compareBytes a c < 0
  | [], [], _, h, _ => by simp [Lib.compareBytes] at h
  | _ :: _, [], _, h, _ => by simp [Lib.compareBytes] at h
  | _, _ :: _, [], _, h => by simp [Lib.compareBytes] at h
  | [], _ :: _, _ :: _, _, _ => by simp [Lib.compareBytes]
  | x :: a, y :: b, z :: c, h1, h2 => by
    unfold Lib.compareBytes at h1 h2 ⊢
    by_cases hxy : x < y
    · by_cases hyz : y < z
      · rw [if_pos (UInt8.lt_trans hxy hyz)]; decide
      · by_cases hzy : z < y
        · rw [if_neg hyz, if_pos hzy] at h2; simp at h2
        · have : y = z := UInt8.le_antisymm (UInt8.not_lt.1 hzy) (UInt8.not_lt.1 hyz)
          subst this
          rw [if_pos hxy]; decide
    · by_cases hyx : y < x
      · rw [if_neg hxy, if_pos hyx] at h1; simp at h1
      · have : x = y := UInt8.le_antisymm (UInt8.not_lt.1 hyx) (UInt8.not_lt.1 hxy)
        subst this
        rw [if_neg hxy, if_neg hxy] at h1
        by_cases hyz : x < z
        · rw [if_pos hyz]; decide
        · by_cases hzy : z < x
          · rw [if_neg hyz, if_pos hzy] at h2; simp at h2
          · rw [if_neg hyz, if_neg hzy] at h2 ⊢
            exact cmp_trans h1 h2

theorem bytesLess_eq : ∀ a b : List UInt8, Op.bytesLess a b = decide (Lib.compareBytes a b < 0)
  | [], [] => by simp [Op.bytesLess, Lib.compareBytes]
  | [], _ :: _ => by simp [Op.bytesLess, Lib.compareBytes]
  | _ :: _, [] => by simp [Op.bytesLess, Lib.compareBytes]
  | x :: a, y :: b => by
    unfold Op.bytesLess Lib.compareBytes
    by_cases hxy : x < y
    · simp [hxy]
    · by_cases hyx : y < x
      · have : ¬ x = y := fun h => by subst h; exact UInt8.lt_irrefl x hyx
        simp [hxy, hyx, this]
      · have : x = y := UInt8.le_antisymm (UInt8.not_lt.1 hyx) (UInt8.not_lt.1 hxy)
        subst this
        simp [hxy, bytesLess_eq a b]

/-- A row's text. -/
def txt (l : List Int) : ByteArray := ⟨(kb l).toArray⟩
theorem txt_list (l : List Int) : (txt l).toList = kb l := by unfold txt; simp

theorem ev_text (l : List Int) : evX .text [S (.int .u8) l] = some ⟨.str, txt l⟩ := rfl
theorem ev_eql (t : Nat) (a b : List Int) : evX (.bin .eql t) [⟨.str, txt a⟩, ⟨.str, txt b⟩] = some (B (kb a == kb b)) := by
  rw [← txt_list a, ← txt_list b]
  rfl
theorem ev_neq (t : Nat) (a b : List Int) : evX (.bin .neq t) [⟨.str, txt a⟩, ⟨.str, txt b⟩] = some (B (!(kb a == kb b))) := by
  rw [← txt_list a, ← txt_list b]
  rfl
theorem ev_geq (t : Nat) (a b : List Int) : evX (.bin .geq t) [⟨.str, txt a⟩, ⟨.str, txt b⟩] = some (B (!decide (cmpI a b < 0))) := by
  rw [cmpI_kb, ← bytesLess_eq, ← txt_list a, ← txt_list b]
  rfl
end Go.Vm
