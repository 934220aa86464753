/- Numbers and texts as bytes: written, and read again. Lemmas alone, no statement. -/
import Derived.Test.YtecleaangfcloabVpStateFnExactStateRead
namespace Go.Proofs.Ytecleaangfcloab.VtFnExactStateRead
set_option linter.unusedVariables false
set_option linter.unusedSimpArgs false
open Go Go.Vm
abbrev Bs (l : List Int) : Dy := S (.int .u8) l
abbrev Y (n : Int) : Dy := ⟨.int .u8, n⟩
def maxN : Int := 2147483647
/-- Bytes. -/
def By (l : List Int) : Prop := ∀ x ∈ l, 0 ≤ x ∧ x < 256
def putF : Nat → Int → List Int
  | 0, m => [m]
  | f + 1, m => if 128 ≤ m then (m % 128 + 128) :: putF f (m / 128) else [m]
def put (m : Int) : List Int := putF 4 m
def getF (b : List Int) (a : Int) : Nat → Int → Int → Int → Int × Int
  | 0, _, _, _ => (0, -1)
  | f + 1, n, u, j =>
    if a + j < b.length then
      if b.getD (a + j).toNat 0 < 128 then
        if (b.getD (a + j).toNat 0 = 0 ∧ 0 < j) ∨ maxN < n + b.getD (a + j).toNat 0 % 128 * u then (0, -1)
        else (n + b.getD (a + j).toNat 0 % 128 * u, a + j + 1)
      else getF b a f (n + b.getD (a + j).toNat 0 % 128 * u) (u * 128) (j + 1)
    else (0, -1)
def getN (b : List Int) (a : Int) : Int × Int := if a < 0 then (0, -1) else getF b a 5 0 1 0
def getT (b : List Int) (a : Int) : List Int × Int :=
  if (getN b a).2 < 0 then ([], -1) else if 20 < (getN b a).1 then ([], -1) else if (b.length : Int) - (getN b a).2 < (getN b a).1 then ([], -1)
  else ((b.take ((getN b a).2 + (getN b a).1).toNat).drop (getN b a).2.toNat, (getN b a).2 + (getN b a).1)
/-- What is left to read. -/
def At (b : List Int) (a : Int) (l : List Int) : Prop := 0 ≤ a ∧ a ≤ b.length ∧ b.drop a.toNat = l
theorem by_get {b : List Int} (hb : By b) {i : Nat} (h : i < b.length) : b[i]? = some (b.getD i 0) ∧ 0 ≤ b.getD i 0 ∧ b.getD i 0 < 256 := by
  have e : b.getD i 0 = b[i] := by simp [List.getD, List.getElem?_eq_getElem h]
  rw [e]
  exact ⟨List.getElem?_eq_getElem h, hb _ (List.getElem_mem h)⟩
theorem mul_b {x u : Int} (hx : 0 ≤ x) (hx2 : x ≤ 127) (hu : 0 ≤ u) : 0 ≤ x * u ∧ x * u ≤ 127 * u := ⟨Int.mul_nonneg hx hu, Int.mul_le_mul_of_nonneg_right hx2 hu⟩
theorem getF_ok {b : List Int} {a : Int} (ha : 0 ≤ a) (hb : By b) : ∀ (f : Nat) (n u j : Int), 0 ≤ n → 0 ≤ u → 0 ≤ j → 0 ≤ (getF b a f n u j).1 ∧ (getF b a f n u j).1 ≤ maxN ∧ -1 ≤ (getF b a f n u j).2 ∧ (getF b a f n u j).2 ≤ b.length
  | 0, n, u, j, _, _, _ => by simp only [getF, maxN]; omega
  | f + 1, n, u, j, hn, hu, hj => by
    unfold getF
    split
    · rename_i h
      obtain ⟨_, x0, x1⟩ := by_get hb (i := (a + j).toNat) (by omega)
      obtain ⟨m0, m1⟩ := mul_b (x := b.getD (a + j).toNat 0 % 128) (u := u) (by omega) (by omega) hu
      split
      · split
        · simp only [maxN]; omega
        · rename_i h2
          dsimp only
          omega
      · exact getF_ok ha hb f _ _ _ (by omega) (by omega) (by omega)
    · simp only [maxN]; omega
theorem getN_ok {b : List Int} (a : Int) (hb : By b) : 0 ≤ (getN b a).1 ∧ (getN b a).1 ≤ maxN ∧ -1 ≤ (getN b a).2 ∧ (getN b a).2 ≤ b.length := by
  unfold getN
  split
  · simp only [maxN]; omega
  · exact getF_ok (by omega) hb 5 0 1 0 (by omega) (by omega) (by omega)
theorem drop_get {b : List Int} {i : Nat} {x : Int} {l : List Int} (h : b.drop i = x :: l) : i < b.length ∧ b.getD i 0 = x ∧ b.drop (i + 1) = l := by
  have hlt : i < b.length := by
    have := congrArg List.length h
    simp at this
    omega
  rw [List.drop_eq_getElem_cons hlt] at h
  simp only [List.cons.injEq] at h
  exact ⟨hlt, by simp [List.getD, List.getElem?_eq_getElem hlt, h.1], h.2⟩
theorem putF_ne (f : Nat) (m : Int) : putF f m ≠ [] := by
  cases f <;> unfold putF
  · simp
  · split <;> simp
theorem split_num (m u : Int) : m % 128 * u + m / 128 * (u * 128) = m * u := by
  rw [show m / 128 * (u * 128) = 128 * (m / 128) * u by rw [← Int.mul_assoc, Int.mul_comm (m / 128 * u) 128, ← Int.mul_assoc], ← Int.add_mul, show m % 128 + 128 * (m / 128) = m by omega]
theorem get_putF {b : List Int} {a : Int} (ha : 0 ≤ a) : ∀ (f : Nat) (m n u j : Int) (l : List Int), 0 ≤ m → m < 128 ^ (f + 1) → (0 < j → 0 < m) → 0 ≤ j → b.drop (a + j).toNat = putF f m ++ l → n + m * u ≤ maxN →
    ∃ a', getF b a (f + 1) n u j = (n + m * u, a') ∧ At b a' l
  | 0, m, n, u, j, l, h0, h1, hj, hj0, hd, hm => by
    obtain ⟨d1, d2, d3⟩ := drop_get (l := l) hd
    unfold getF
    rw [if_pos (by omega), d2, if_pos (by omega), show m % 128 = m by omega, if_neg (by omega)]
    exact ⟨_, rfl, by omega, by omega, by rw [← d3]; congr 1; omega⟩
  | f + 1, m, n, u, j, l, h0, h1, hj, hj0, hd, hm => by
    unfold putF at hd
    split at hd
    · rename_i h
      obtain ⟨d1, d2, d3⟩ := drop_get (l := putF f (m / 128) ++ l) hd
      have hs := split_num m u
      obtain ⟨a', e, h'⟩ := get_putF ha f (m / 128) (n + m % 128 * u) (u * 128) (j + 1) l (by omega) (by rw [Int.pow_succ] at h1; omega) (fun _ => by omega) (by omega) (by rw [← d3]; congr 1; omega) (by omega)
      unfold getF
      rw [if_pos (by omega), d2, if_neg (by omega), show (m % 128 + 128) % 128 = m % 128 by omega, e]
      exact ⟨a', by rw [show n + m % 128 * u + m / 128 * (u * 128) = n + m * u by omega], h'⟩
    · obtain ⟨d1, d2, d3⟩ := drop_get (l := l) hd
      unfold getF
      rw [if_pos (by omega), d2, if_pos (by omega), show m % 128 = m by omega, if_neg (by omega)]
      exact ⟨_, rfl, by omega, by omega, by rw [← d3]; congr 1; omega⟩
theorem get_put {b : List Int} {a m : Int} {l : List Int} (h : At b a (put m ++ l)) (h0 : 0 ≤ m) (h1 : m ≤ maxN) : ∃ a', getN b a = (m, a') ∧ At b a' l := by
  obtain ⟨a0, a1, hd⟩ := h
  unfold maxN at h1
  obtain ⟨a', e, h'⟩ := get_putF a0 4 m 0 1 0 l h0 (by omega) (by omega) (by omega) (by rw [Int.add_zero]; exact hd) (by unfold maxN; omega)
  refine ⟨a', ?_, h'⟩
  unfold getN
  rw [if_neg (by omega), e]
  simp
theorem get_text {b t : List Int} {a : Int} {l : List Int} (h : At b a (put t.length ++ (t ++ l))) (ht : t.length ≤ 20) : ∃ a', getT b a = (t, a') ∧ At b a' l := by
  obtain ⟨p, e, p0, p1, p2⟩ := get_put h (by omega) (by unfold maxN; omega)
  have hl : t.length ≤ b.length - p.toNat := by
    have := congrArg List.length p2
    simp at this
    omega
  refine ⟨p + t.length, ?_, by omega, by omega, ?_⟩
  · unfold getT
    rw [e]
    dsimp only
    rw [if_neg (by omega), if_neg (by omega), if_neg (by omega)]
    congr 1
    rw [List.drop_take, p2]
    rw [show (p + (t.length : Int)).toNat - p.toNat = t.length by omega]
    simp
  · rw [show (p + (t.length : Int)).toNat = p.toNat + t.length by omega, ← List.drop_drop, p2]
    simp
theorem getT_ok {b : List Int} (a : Int) (hb : By b) : (getT b a).1.length ≤ 20 ∧ By (getT b a).1 ∧ -1 ≤ (getT b a).2 ∧ (getT b a).2 ≤ b.length := by
  obtain ⟨h1, h2, h3, h4⟩ := getN_ok a hb
  have hn : By [] := fun x hx => by simp at hx
  unfold getT
  split
  · exact ⟨by simp, hn, by simp, by dsimp only; omega⟩
  · split
    · exact ⟨by simp, hn, by simp, by dsimp only; omega⟩
    · split
      · exact ⟨by simp, hn, by simp, by dsimp only; omega⟩
      · refine ⟨?_, fun x hx => hb x (List.mem_of_mem_take (List.mem_of_mem_drop hx)), by dsimp only; omega, by dsimp only; omega⟩
        dsimp only
        rw [List.length_drop, List.length_take]
        omega
theorem putF_by : ∀ (f : Nat) (m : Int), 0 ≤ m → m < 128 ^ (f + 1) → By (putF f m)
  | 0, m, h0, h1 => by
    intro x hx
    simp [putF] at hx
    omega
  | f + 1, m, h0, h1 => by
    unfold putF
    split
    · intro x hx
      rcases List.mem_cons.1 hx with rfl | hx
      · omega
      · exact putF_by f (m / 128) (by omega) (by rw [Int.pow_succ] at h1; omega) x hx
    · intro x hx
      simp at hx
      omega
theorem put_by {m : Int} (h0 : 0 ≤ m) (h1 : m ≤ maxN) : By (put m) := putF_by 4 m h0 (by unfold maxN at h1; omega)
theorem putF_len : ∀ (f : Nat) (m : Int), (putF f m).length ≤ f + 1
  | 0, m => by simp [putF]
  | f + 1, m => by
    unfold putF
    split
    · have := putF_len f (m / 128)
      simp; omega
    · simp
theorem put_len (m : Int) : (put m).length ≤ 5 := putF_len 4 m
theorem kb_inj : ∀ {a b : List Int}, By a → By b → kb a = kb b → a = b
  | [], [], _, _, _ => rfl
  | [], y :: b, _, _, h => by simp [kb] at h
  | x :: a, [], _, _, h => by simp [kb] at h
  | x :: a, y :: b, ha, hb, h => by
    simp only [kb, List.map_cons, List.cons.injEq] at h
    obtain ⟨x0, x1⟩ := ha x (by simp)
    obtain ⟨y0, y1⟩ := hb y (by simp)
    have e := congrArg UInt8.toNat h.1
    simp only [UInt8.toNat_ofNat'] at e
    rw [show x = y by omega, kb_inj (fun z hz => ha z (by simp [hz])) (fun z hz => hb z (by simp [hz])) h.2]
end Go.Proofs.Ytecleaangfcloab.VtFnExactStateRead
