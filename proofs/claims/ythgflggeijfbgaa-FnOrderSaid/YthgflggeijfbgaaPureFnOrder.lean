/- The order of statements is irreflexive and transitive, and any two different statements about one member are ordered: FnOrder is true of every input. No condition. -/
import Derived.Test.YthgflggeijfbgaaXFnOrderx
namespace Go.Proofs.Ythgflggeijfbgaa.Pure
open Go.RowKit Go.Proofs.Ythgflggeijfbgaa.XFnOrder Go.Proofs.YthgflggeijfbgaaW.PrintWords Go.Proofs.YthgflggeijfbgaaW.PrintLast

namespace OrderParts

theorem and255 (n : Int) : 0 ≤ Go.bits .and .i64 n 255 ∧ Go.bits .and .i64 n 255 ≤ 255 := by
  have h255 : (BitVec.ofInt 64 255).toNat = 2 ^ 8 - 1 := by decide
  have key : (BitVec.ofInt 64 n &&& BitVec.ofInt 64 255).toNat = (n % ((2 ^ 64 : Nat) : Int)).toNat % 2 ^ 8 := by
    rw [BitVec.toNat_and, BitVec.toNat_ofInt, h255, Nat.and_two_pow_sub_one_eq_mod]
  have e : Go.bits .and .i64 n 255 = n % 256 := by
    show IntKind.i64.wrap ((BitVec.ofInt 64 n &&& BitVec.ofInt 64 255).toNat : Nat) = n % 256
    rw [key, IntKind.wrap_i64]
    omega
  rw [e]; omega

theorem wrap_up {i : Int} {n : Nat} (h0 : 0 ≤ i) (h : i < (n : Int)) (hn : n ≤ 140737488355328) : wrap64 (i + 1) = i + 1 := by
  unfold wrap64; omega

/-- A place in the bytes: one that they have, or the first behind them. -/
def Ok (b : List Int) (i : Int) : Prop := 0 ≤ i ∧ i ≤ b.length

theorem byte_some (b : List Int) (i h : Int) (hb : b.length ≤ 140737488355328) (hi : Ok b i) :
    ∃ x i' h', spec_l1Byte.f b i h = some (x, i', h') ∧ 0 ≤ x ∧ x ≤ 255 ∧ Ok b i' := by
  obtain ⟨h0, h1⟩ := hi
  unfold spec_l1Byte.f
  by_cases c : i < (b.length : Int)
  · rw [if_pos c, if_pos h0]
    exact ⟨_, _, _, rfl, (and255 _).1, (and255 _).2, by rw [wrap_up h0 c hb]; exact ⟨by omega, by omega⟩⟩
  · rw [if_neg c]
    exact ⟨_, _, _, rfl, (and255 _).1, (and255 _).2, h0, h1⟩

theorem below_some (b : List Int) (i h n : Int) (hb : b.length ≤ 140737488355328) (hi : Ok b i) (hn0 : 0 < n) (hn : n ≤ 256) :
    ∃ x i' h', spec_l1Below.f b i h n = some (x, i', h') ∧ 0 ≤ x ∧ x < n ∧ Ok b i' := by
  obtain ⟨x, i', h', e, x0, x1, hi'⟩ := byte_some b i h hb hi
  unfold spec_l1Below.f
  rw [if_neg (by omega), if_pos hn, e]
  simp only [Option.bind_some]
  rw [if_neg (by omega)]
  refine ⟨_, _, _, rfl, ?_, ?_, hi'⟩
  · rw [Int.tmod_eq_emod_of_nonneg x0]; exact Int.emod_nonneg _ (by omega)
  · rw [Int.tmod_eq_emod_of_nonneg x0]; exact Int.emod_lt_of_pos _ hn0

theorem once_some (b : List Int) (i h n : Int) (hb : b.length ≤ 140737488355328) (hi : Ok b i) (hn0 : 0 < n) (hn : n ≤ 256) :
    ∃ x i' h', spec_l1Once.f b i h n = some (x, i', h') ∧ Ok b i' := by
  obtain ⟨x, i', h', e, _, _, hi'⟩ := below_some b i h n hb hi hn0 hn
  unfold spec_l1Once.f
  rw [e]
  exact ⟨_, _, _, rfl, hi'⟩

theorem pick_some (b : List Int) (i h : Int) (l : List Int) (hb : b.length ≤ 140737488355328) (hi : Ok b i) (hn0 : 0 < l.length) (hn : l.length ≤ 256) :
    ∃ x i' h', spec_l1PickInt.f b i h l = some (x, i', h') ∧ Ok b i' := by
  obtain ⟨x, i', h', e, x0, x1, hi'⟩ := below_some b i h l.length hb hi (by omega) (by omega)
  unfold spec_l1PickInt.f
  rw [e]
  simp only [Option.bind_some]
  rw [if_pos x0, if_pos x1]
  exact ⟨_, _, _, rfl, hi'⟩

theorem member_some (b : List Int) (i h : Int) (hb : b.length ≤ 140737488355328) (hi : Ok b i) :
    ∃ x y z i' h', spec_l10member.f b i h = some (x, y, z, i', h') ∧ Ok b i' := by
  obtain ⟨x, i1, h1, e1, _, _, k1⟩ := below_some b i h 6 hb hi (by omega) (by omega)
  obtain ⟨y, i2, h2, e2, _, _, k2⟩ := below_some b i1 h1 4 hb k1 (by omega) (by omega)
  obtain ⟨z, i3, h3, e3, _, _, k3⟩ := below_some b i2 h2 4 hb k2 (by omega) (by omega)
  unfold spec_l10member.f
  rw [e1]; simp only [Option.bind_some]
  rw [e2]; simp only [Option.bind_some]
  rw [e3]; simp only [Option.bind_some]
  exact ⟨_, _, _, _, _, rfl, k3⟩

theorem said_some (b : List Int) (i h : Int) (hb : b.length ≤ 140737488355328) (hi : Ok b i) :
    ∃ x y z i' h', spec_l10said.f b i h = some (x, y, z, i', h') ∧ Ok b i' := by
  obtain ⟨x, y, z, i1, h1, e1, k1⟩ := member_some b i h hb hi
  obtain ⟨o, i2, h2, e2, k2⟩ := once_some b i1 h1 8 hb k1 (by omega) (by omega)
  unfold spec_l10said.f
  rw [e1]; simp only [Option.bind_some]
  rw [e2]; simp only [Option.bind_some]
  by_cases c : o = true
  · rw [if_pos c]
    obtain ⟨q, i3, h3, e3, _, _, k3⟩ := below_some b i2 h2 3 hb k2 (by omega) (by omega)
    rw [e3]; simp only [Option.bind_some]
    by_cases c0 : q = 0
    · rw [if_pos c0]
      obtain ⟨u, i4, h4, e4, k4⟩ := pick_some b i3 h3 [(-1), 11, 12] hb k3 (by simp) (by simp)
      rw [e4]; simp only [Option.bind_some]
      exact ⟨_, _, _, _, _, rfl, k4⟩
    · rw [if_neg c0]
      by_cases c1 : q = 1
      · rw [if_pos c1]
        obtain ⟨u, i4, h4, e4, k4⟩ := pick_some b i3 h3 [(-1), 4] hb k3 (by simp) (by simp)
        rw [e4]; simp only [Option.bind_some]
        exact ⟨_, _, _, _, _, rfl, k4⟩
      · rw [if_neg c1]
        obtain ⟨u, i4, h4, e4, k4⟩ := pick_some b i3 h3 [(-1), 1000, 999, 1001] hb k3 (by simp) (by simp)
        rw [e4]; simp only [Option.bind_some]
        exact ⟨_, _, _, _, _, rfl, k4⟩
  · rw [if_neg c]
    exact ⟨_, _, _, _, _, rfl, k2⟩

theorem new_some (b : List Int) (hb : b.length ≤ 140737488355328) (d : Nat) :
    ∀ (k : Nat) (h i : Int), 0 ≤ i → i ≤ b.length → (b.length : Int) - i = d → d < k → ∃ h', spec_l1New.l0 k b h i = some (b, 0, h') := by
  induction d with
  | zero =>
    intro k h i h0 h1 hd hk
    obtain ⟨k, rfl⟩ : ∃ m, k = m + 1 := ⟨k - 1, by omega⟩
    exact ⟨h, by simp only [spec_l1New.l0]; rw [if_neg (by omega)]⟩
  | succ d ih =>
    intro k h i h0 h1 hd hk
    obtain ⟨k, rfl⟩ : ∃ m, k = m + 1 := ⟨k - 1, by omega⟩
    have hlt : i < (b.length : Int) := by omega
    simp only [spec_l1New.l0]
    rw [if_pos hlt]
    by_cases c : i < 4000
    · rw [if_pos c, if_pos h0, wrap_up h0 hlt hb]
      exact ih k _ (i + 1) (by omega) (by omega) (by omega) (by omega)
    · rw [if_neg c]
      exact ⟨h, rfl⟩

theorem draw_some (b : List Int) (hb : b.length ≤ 140737488355328) :
    ∃ k x1 x2 x3 y1 y2 y3, spec_DrawBeats.f k b = some (x1, x2, x3, y1, y2, y3) := by
  obtain ⟨h, e⟩ := new_some b hb b.length (b.length + 1) (wrap64 (36565 + (b.length : Int))) 0 (by omega) (by omega) (by omega) (by omega)
  have e0 : spec_l1New.f (b.length + 1) b = some (b, 0, h) := e
  obtain ⟨x1, x2, x3, i1, h1, e1, k1⟩ := said_some b 0 h hb ⟨by omega, by omega⟩
  obtain ⟨y1, y2, y3, i2, h2, e2, k2⟩ := said_some b i1 h1 hb k1
  obtain ⟨o, i3, h3, e3, k3⟩ := once_some b i2 h2 2 hb k2 (by omega) (by omega)
  refine ⟨b.length + 1, ?_⟩
  unfold spec_DrawBeats.f
  rw [e0]; simp only [Option.bind_some]
  rw [e1]; simp only [Option.bind_some]
  rw [e2]; simp only [Option.bind_some]
  rw [e3]; simp only [Option.bind_some]
  by_cases c : o = true
  · rw [if_pos c]; exact ⟨_, _, _, _, _, _, rfl⟩
  · rw [if_neg c]; exact ⟨_, _, _, _, _, _, rfl⟩

/-- Beats, as one Bool. -/
def bts (a b c x y z : Int) : Bool := decide (a = x) && (decide (c > z) || decide (c = z) && decide (b > y))
theorem beats_eq (a b c x y z : Int) : impl_Beats.f a b c x y z = some (bts a b c x y z) := by
  unfold impl_Beats.f bts
  by_cases h : a = x <;> by_cases h1 : c > z <;> by_cases h2 : c = z <;> simp [h, h1, h2]

theorem j0_false (k : Nat) (a b c x y z : Int) : laws_FnOrder.j0 (k + 1) false a b c x y z = some true := by
  simp only [laws_FnOrder.j0]
  rw [if_neg (by decide)]
  by_cases h : a = x
  · rw [if_pos h]
    by_cases h1 : (a == x && (b == y && (c == z))) = true
    · rw [if_pos h1]
    · rw [if_neg h1, beats_eq, beats_eq]
      simp only [Option.bind_some]
      by_cases h2 : bts a b c x y z = true
      · rw [if_pos h2]
      · rw [if_neg h2]
        have : bts x y z a b c = true := by
          simp [bts] at *
          omega
        rw [this]
  · rw [if_neg h]

theorem at_some (b : List Int) : ∃ t, laws_at.f b 0 = some t := by
  unfold laws_at.f
  by_cases c : (b.length : Int) = 0
  · exact ⟨0, by rw [if_pos c]⟩
  · rw [if_neg c]
    have h : Int.tmod 0 (b.length : Int) = 0 := by simp
    rw [h, if_pos (by omega), if_pos (by omega)]
    exact ⟨_, rfl⟩
end OrderParts
open OrderParts

theorem FnOrder : laws_FnOrder.Pure := by
  intro b _ hb _
  obtain ⟨k1, x1, x2, x3, y1, y2, y3, e1⟩ := draw_some b (by omega)
  obtain ⟨t, et⟩ := at_some b
  obtain ⟨k2, u1, u2, u3, v1, v2, v3, e2⟩ := draw_some ([t % 256, 3] ++ b) (by simp; omega)
  refine ⟨k1 + k2 + 1, ?_⟩
  have e1' := at_rounds (fun k => spec_DrawBeats.mono b k) (show k1 ≤ k1 + k2 + 1 by omega) e1
  have e2' := at_rounds (fun k => spec_DrawBeats.mono ([t % 256, 3] ++ b) k) (show k2 ≤ k1 + k2 + 1 by omega) e2
  unfold laws_FnOrder.f
  rw [e1']; simp only [Option.bind_some]
  rw [et]; simp only [Option.bind_some]
  rw [if_pos (by simp; omega)]
  rw [e2']; simp only [Option.bind_some, beats_eq]
  have i1 : bts x1 x2 x3 x1 x2 x3 = false := by simp [bts]
  rw [i1]
  simp only [Bool.false_eq_true, if_false]
  by_cases p : bts x1 x2 x3 y1 y2 y3 = true
  · have q : bts y1 y2 y3 x1 x2 x3 = false := by simp [bts] at *; omega
    simp only [p, q, if_true, Bool.false_eq_true, if_false]
    by_cases r : bts y1 y2 y3 y1 u2 u3 = true
    · have s : bts x1 x2 x3 y1 u2 u3 = true := by simp [bts] at *; omega
      simp only [r, s, if_true, Bool.not_true]
      exact j0_false _ _ _ _ _ _ _
    · have r' : bts y1 y2 y3 y1 u2 u3 = false := by simpa using r
      simp only [r', Bool.false_eq_true, if_false]
      exact j0_false _ _ _ _ _ _ _
  · have p' : bts x1 x2 x3 y1 y2 y3 = false := by simpa using p
    simp only [p', Bool.false_eq_true, if_false]
    exact j0_false _ _ _ _ _ _ _

end Go.Proofs.Ythgflggeijfbgaa.Pure
