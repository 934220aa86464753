/- The program's and the reference's numbers and texts, read and written. Lemmas alone, no statement. -/
import Derived.Test.YtecleaangfcloabVpNmFnExactStateRead
namespace Go.Proofs.Ytecleaangfcloab.VtFnExactStateRead
set_option linter.unusedVariables false
set_option linter.unusedSimpArgs false
open Go Go.Vm
section
variable {ρ : List Dy} {a b : A} {x y : Int}
theorem ev_add (ha : evA ρ a = some (I x)) (hb : evA ρ b = some (I y)) (h0 : -9223372036854775808 ≤ x + y) (h1 : x + y ≤ 9223372036854775807) : ev ρ ⟨.bin .add 3, [a, b]⟩ = some (I (x + y)) := by
  simp only [ev, evAs, ha, hb]
  show some (I (IntKind.i64.wrap (x + y))) = _
  rw [wrap_id h0 h1]
theorem ev_min (ha : evA ρ a = some (I x)) (hb : evA ρ b = some (I y)) (h0 : -9223372036854775808 ≤ x - y) (h1 : x - y ≤ 9223372036854775807) : ev ρ ⟨.bin .sub 3, [a, b]⟩ = some (I (x - y)) := by
  simp only [ev, evAs, ha, hb]
  show some (I (IntKind.i64.wrap (x - y))) = _
  rw [wrap_id h0 h1]
theorem ev_mul (ha : evA ρ a = some (I x)) (hb : evA ρ b = some (I y)) (h0 : -9223372036854775808 ≤ x * y) (h1 : x * y ≤ 9223372036854775807) : ev ρ ⟨.bin .mul 3, [a, b]⟩ = some (I (x * y)) := by
  simp only [ev, evAs, ha, hb]
  show some (I (IntKind.i64.wrap (x * y))) = _
  rw [wrap_id h0 h1]
theorem ev_rem (ha : evA ρ a = some (I x)) (h0 : 0 ≤ x) : ev ρ ⟨.bin .rem 3, [a, .int .i64 128]⟩ = some (I (x % 128)) := by
  simp only [ev, evAs, ha, evA]
  show some (I (x.tmod 128)) = _
  rw [Int.tmod_eq_emod_of_nonneg h0]
theorem ev_rem8 (ha : evA ρ a = some (Y x)) (h0 : 0 ≤ x) : ev ρ ⟨.bin .rem 5, [a, .int .u8 128]⟩ = some (Y (x % 128)) := by
  simp only [ev, evAs, ha, evA]
  show some (Y (x.tmod 128)) = _
  rw [Int.tmod_eq_emod_of_nonneg h0]
theorem ev_quo (ha : evA ρ a = some (I x)) (h0 : 0 ≤ x) (h1 : x ≤ 9223372036854775807) : ev ρ ⟨.bin .quo 3, [a, .int .i64 128]⟩ = some (I (x / 128)) := by
  simp only [ev, evAs, ha, evA]
  show some (I (IntKind.i64.wrap (x.tdiv 128))) = _
  rw [Int.tdiv_eq_ediv_of_nonneg h0, wrap_id (by omega) (by omega)]
theorem wrap8 (h0 : 0 ≤ x) (h1 : x < 256) : IntKind.u8.wrap x = x := by
  show x % 256 = x
  omega
theorem ev_toI (ha : evA ρ a = some (Y x)) (h0 : 0 ≤ x) (h1 : x < 256) : ev ρ ⟨.conv .i64, [a]⟩ = some (I x) := by
  simp only [ev, evAs, ha, evX]
  rw [wrap_id (by omega) (by omega)]
theorem ev_toY (ha : evA ρ a = some (I x)) (h0 : 0 ≤ x) (h1 : x < 256) : ev ρ ⟨.conv .u8, [a]⟩ = some (Y x) := by
  simp only [ev, evAs, ha, evX]
  rw [wrap8 h0 h1]
theorem ev_add8 (ha : evA ρ a = some (Y x)) (h0 : 0 ≤ x) (h1 : x < 128) : ev ρ ⟨.bin .add 5, [a, .int .u8 128]⟩ = some (Y (x + 128)) := by
  simp only [ev, evAs, ha, evA]
  show some (Y (IntKind.u8.wrap (x + 128))) = _
  rw [wrap8 (by omega) (by omega)]
end
def cap : Nat → Int
  | 0 => 34359738368
  | 1 => 268435456
  | 2 => 2097152
  | 3 => 16384
  | 4 => 128
  | _ => 1
theorem cap_le (f : Nat) : cap f ≤ 34359738368 := by rcases f with _ | _ | _ | _ | _ | f <;> simp only [cap] <;> omega
theorem cap_step {f : Nat} {u : Int} (hf : f + 1 ≤ 5) (h : u ≤ cap (f + 1)) : u * 128 ≤ cap f ∧ u ≤ 268435456 := by
  rcases f with _ | _ | _ | _ | _ | f <;> simp only [cap] at h ⊢ <;> omega
def GQ (a : Int) (s : Nat × Int × Int × Int) : Prop := s.1 ≤ 5 ∧ 0 ≤ s.2.1 ∧ s.2.1 < s.2.2.1 ∧ s.2.2.1 ≤ cap s.1 ∧ s.2.2.2 = 5 - s.1
theorem gq_next {a : Int} {f : Nat} {n u j x : Int} (h : GQ a (f + 1, n, u, j)) (x0 : 0 ≤ x) (x1 : x < 256) : GQ a (f, n + x % 128 * u, u * 128, j + 1) ∧ 0 ≤ x % 128 * u ∧ x % 128 * u ≤ 34359738368 ∧ n + x % 128 * u ≤ 34359738368 ∧ u * 128 ≤ 34359738368 ∧ 0 < u ∧ 0 ≤ n := by
  obtain ⟨h1, h2, h3, h4, h5⟩ := h
  dsimp only at h1 h2 h3 h4 h5
  obtain ⟨c1, c2⟩ := cap_step h1 h4
  have c3 := cap_le f
  obtain ⟨m0, m1⟩ := mul_b (x := x % 128) (u := u) (by omega) (by omega) (by omega)
  refine ⟨⟨?_, ?_, ?_, ?_, ?_⟩, m0, by omega, by omega, by omega, by omega, h2⟩ <;> dsimp only <;> omega
theorem or_dec (x n j : Int) : (decide (x = 0) && decide (0 < j) || decide (maxN < n)) = decide ((x = 0 ∧ 0 < j) ∨ maxN < n) := by
  by_cases h1 : x = 0 <;> by_cases h2 : 0 < j <;> by_cases h3 : maxN < n <;> simp [h1, h2, h3]
set_option maxHeartbeats 4000000 in
theorem numI (N k : Nat) (b : List Int) (a : Int) (hb : By b) (hm : b.length < big) (hN : big ≤ N) (ha : -1 ≤ a) (ha2 : a ≤ b.length) : Lv N (k + 1) 122 [Bs b, I a] = some [I (getN b a).1, I (getN b a).2] := by
  have hm' : b.length < 1048577 := hm
  have hN' : 1048577 ≤ N := hN
  refine level_den rfl rfl ?_ rfl
  unfold ir122
  refine den_loop (den_jump (ds := [I 0, I 1, I 0, I 0, I (a + 0)]) rfl (by rw [Int.add_zero]; rfl) ?_)
  by_cases h0 : a < 0
  · obtain ⟨m, rfl⟩ : ∃ m, N = m + 1 := ⟨N - 1, by omega⟩
    unfold getN
    rw [if_pos h0]
    simp only [rounds, List.cons_append, List.nil_append]
    refine den_let rfl (den_ite (b := decide (a + 0 ≥ 0)) rfl (fun h => ?_) (fun _ => den_ret rfl rfl))
    have h : a + 0 ≥ 0 := of_decide_eq_true h
    omega
  · have e0 : getN b a = getF b a 5 0 1 0 := by unfold getN; rw [if_neg h0]
    rw [e0]
    refine rounds_ind (α := Nat × Int × Int × Int) (enc := fun s => [I s.2.1, I s.2.2.1, I 0, I 0, I (a + s.2.2.2)]) (ans := fun s => some [I (getF b a s.1 s.2.1 s.2.2.1 s.2.2.2).1, I (getF b a s.1 s.2.1 s.2.2.1 s.2.2.2).2]) (meas := fun s => s.1) (Q := GQ a)
      ?_ N (5, 0, 1, 0) (by unfold GQ; simp [cap]) (by show 5 < N; omega)
    · rintro J ⟨f, n, u, j⟩ hq hJ
      have hj : j = 5 - f := hq.2.2.2.2
      have hf : f ≤ 5 := hq.1
      dsimp only
      simp only [List.cons_append, List.nil_append]
      refine den_let rfl (den_ite (b := decide (a + j ≥ 0)) rfl (fun _ => ?_) (fun h => absurd (of_decide_eq_false h) (by omega)))
      refine den_let rfl (den_let rfl (den_ite (b := decide (a + j < b.length)) rfl (fun c => ?_) (fun c => ?_)))
      · have c : a + j < b.length := of_decide_eq_true c
        simp only [List.cons_append, List.nil_append]
        refine den_let (ev_add (x := a) (y := 5) rfl rfl (by omega) (by omega)) (den_let rfl (den_ite (b := decide (a + j < a + 5)) rfl (fun c2 => ?_) (fun c2 => ?_)))
        · have c2 : a + j < a + 5 := of_decide_eq_true c2
          obtain ⟨g, rfl⟩ : ∃ g, f = g + 1 := ⟨f - 1, by omega⟩
          obtain ⟨x0, x1, x2⟩ := by_get hb (i := (a + j).toNat) (by omega)
          obtain ⟨q1, q2, q3, q4, q5, q6, q7⟩ := gq_next hq x1 x2
          unfold getF
          rw [if_pos c]
          obtain ⟨x, hx⟩ : ∃ x, x = b.getD (a + j).toNat 0 := ⟨_, rfl⟩
          rw [← hx] at x0 x1 x2 q1 q2 q3 q4 ⊢
          simp only [List.cons_append, List.nil_append]
          refine den_idx rfl rfl rfl (by omega) x0 (den_let rfl (den_let (ev_rem8 (x := x) rfl x1) ?_))
          simp only [List.cons_append, List.nil_append]
          refine den_let (ev_toI (x := x % 128) rfl (by omega) (by omega)) (den_let (ev_mul (x := x % 128) (y := u) rfl rfl (by omega) (by omega)) ?_)
          simp only [List.cons_append, List.nil_append]
          refine den_let (ev_add (x := n) (y := x % 128 * u) rfl rfl (by omega) (by omega)) (den_let (ev_mul (x := u) (y := 128) rfl rfl (by omega) (by omega)) ?_)
          simp only [List.cons_append, List.nil_append]
          refine den_idx rfl rfl rfl (by omega) x0 (den_let rfl (den_let rfl (den_ite (b := decide (x ≥ 128)) rfl (fun d => ?_) (fun d => ?_))))
          · have d : x ≥ 128 := of_decide_eq_true d
            rw [if_neg (by omega)]
            simp only [List.cons_append, List.nil_append]
            refine den_let (ev_add (x := a + j) (y := 1) rfl rfl (by omega) (by omega)) (den_jump rfl rfl ?_)
            rw [Int.add_assoc]
            exact hJ (g, n + x % 128 * u, u * 128, j + 1) q1 (by show g < g + 1; omega)
          · have d : ¬ x ≥ 128 := of_decide_eq_false d
            rw [if_pos (by omega)]
            simp only [List.cons_append, List.nil_append]
            refine den_let rfl (den_ite (b := decide (a + j > a)) rfl (fun e => ?_) (fun e => ?_))
            · have e : a + j > a := of_decide_eq_true e
              simp only [List.cons_append, List.nil_append]
              refine den_idx rfl rfl rfl (by omega) x0 (den_let rfl (den_let rfl (den_ite (b := x == 0) rfl (fun z => ?_) (fun z => ?_))))
              · have z : x = 0 := by simpa using z
                rw [if_pos (by omega)]
                exact den_ret rfl rfl
              · have z : ¬ x = 0 := by simpa using z
                simp only [List.cons_append, List.nil_append]
                refine den_let rfl (den_ite (b := decide (n + x % 128 * u > 2147483647)) rfl (fun w => ?_) (fun w => ?_))
                · have w : n + x % 128 * u > 2147483647 := of_decide_eq_true w
                  rw [if_pos (.inr w)]
                  exact den_ret rfl rfl
                · have w : ¬ n + x % 128 * u > 2147483647 := of_decide_eq_false w
                  rw [if_neg (by unfold maxN; omega)]
                  exact den_let (ev_add (x := a + j) (y := 1) rfl rfl (by omega) (by omega)) (den_ret rfl rfl)
            · have e : ¬ a + j > a := of_decide_eq_false e
              refine den_let rfl (den_ite (b := decide (n + x % 128 * u > 2147483647)) rfl (fun w => ?_) (fun w => ?_))
              · have w : n + x % 128 * u > 2147483647 := of_decide_eq_true w
                rw [if_pos (.inr w)]
                exact den_ret rfl rfl
              · have w : ¬ n + x % 128 * u > 2147483647 := of_decide_eq_false w
                rw [if_neg (by unfold maxN; omega)]
                exact den_let (ev_add (x := a + j) (y := 1) rfl rfl (by omega) (by omega)) (den_ret rfl rfl)
        · have c2 : ¬ a + j < a + 5 := of_decide_eq_false c2
          obtain rfl : f = 0 := by omega
          exact den_ret rfl rfl
      · have c : ¬ a + j < b.length := of_decide_eq_false c
        have : getF b a f n u j = (0, -1) := by
          cases f
          · rfl
          · unfold getF; rw [if_neg c]
        rw [this]
        exact den_ret rfl rfl
set_option maxHeartbeats 4000000 in
theorem numS (N k : Nat) (b : List Int) (a : Int) (hb : By b) (hm : b.length < big) (hN : big ≤ N) (ha : -1 ≤ a) (ha2 : a ≤ b.length) : Lv N (k + 1) 146 [Bs b, I a] = some [I (getN b a).1, I (getN b a).2] := by
  have hm' : b.length < 1048577 := hm
  have hN' : 1048577 ≤ N := hN
  refine level_den rfl rfl ?_ rfl
  unfold ir146
  refine den_let rfl (den_ite (b := decide (a < 0)) rfl (fun h0 => ?_) (fun h0 => ?_))
  · unfold getN
    rw [if_pos (of_decide_eq_true h0)]
    exact den_ret rfl rfl
  · have h0 : ¬ a < 0 := of_decide_eq_false h0
    have e0 : getN b a = getF b a 5 0 1 0 := by unfold getN; rw [if_neg h0]
    rw [e0]
    simp only [List.cons_append, List.nil_append]
    refine den_loop (den_jump rfl rfl ?_)
    refine rounds_ind (α := Nat × Int × Int × Int) (enc := fun s => [I s.2.1, I s.2.2.1, I 0, I 0, I s.2.2.2]) (ans := fun s => some [I (getF b a s.1 s.2.1 s.2.2.1 s.2.2.2).1, I (getF b a s.1 s.2.1 s.2.2.1 s.2.2.2).2]) (meas := fun s => s.1) (Q := GQ a)
      ?_ N (5, 0, 1, 0) (by unfold GQ; simp [cap]) (by show 5 < N; omega)
    rintro J ⟨f, n, u, j⟩ hq hJ
    have hj : j = 5 - f := hq.2.2.2.2
    have hf : f ≤ 5 := hq.1
    dsimp only
    simp only [List.cons_append, List.nil_append]
    refine den_let rfl (den_ite (b := decide (j < 5)) rfl (fun c2 => ?_) (fun c2 => ?_))
    · have c2 : j < 5 := of_decide_eq_true c2
      obtain ⟨g, rfl⟩ : ∃ g, f = g + 1 := ⟨f - 1, by omega⟩
      simp only [List.cons_append, List.nil_append]
      refine den_let rfl (den_let (ev_min (x := b.length) (y := a) rfl rfl (by omega) (by omega)) (den_let rfl (den_ite (b := decide (j < b.length - a)) rfl (fun c => ?_) (fun c => ?_))))
      · have c : j < b.length - a := of_decide_eq_true c
        have c : a + j < b.length := by omega
        obtain ⟨x0, x1, x2⟩ := by_get hb (i := (a + j).toNat) (by omega)
        obtain ⟨q1, q2, q3, q4, q5, q6, q7⟩ := gq_next hq x1 x2
        unfold getF
        rw [if_pos c]
        obtain ⟨x, hx⟩ : ∃ x, x = b.getD (a + j).toNat 0 := ⟨_, rfl⟩
        rw [← hx] at x0 x1 x2 q1 q2 q3 q4 ⊢
        simp only [List.cons_append, List.nil_append]
        refine den_let (ev_add (x := a) (y := j) rfl rfl (by omega) (by omega)) (den_idx rfl rfl rfl (by omega) x0 (den_let rfl (den_let (ev_toI (x := x) rfl x1 x2) ?_)))
        simp only [List.cons_append, List.nil_append]
        refine den_let (ev_rem (x := x) rfl x1) (den_let (ev_mul (x := x % 128) (y := u) rfl rfl (by omega) (by omega)) ?_)
        simp only [List.cons_append, List.nil_append]
        refine den_let (ev_add (x := n) (y := x % 128 * u) rfl rfl (by omega) (by omega)) (den_let (ev_mul (x := u) (y := 128) rfl rfl (by omega) (by omega)) ?_)
        simp only [List.cons_append, List.nil_append]
        refine den_let rfl (den_ite (b := decide (x < 128)) rfl (fun d => ?_) (fun d => ?_))
        · have d : x < 128 := of_decide_eq_true d
          rw [if_pos d]
          simp only [List.cons_append, List.nil_append]
          refine den_let rfl (den_ite (b := x == 0) rfl (fun z => ?_) (fun z => ?_))
          · have z : x = 0 := by simpa using z
            simp only [List.cons_append, List.nil_append]
            refine den_let rfl (den_ite (b := decide (j > 0)) rfl (fun e => ?_) (fun e => ?_))
            · have e : j > 0 := of_decide_eq_true e
              rw [if_pos (.inl ⟨z, e⟩)]
              exact den_ret rfl rfl
            · have e : ¬ j > 0 := of_decide_eq_false e
              simp only [List.cons_append, List.nil_append]
              refine den_let rfl (den_ite (b := decide (n + x % 128 * u > 2147483647)) rfl (fun w => ?_) (fun w => ?_))
              · have w : n + x % 128 * u > 2147483647 := of_decide_eq_true w
                rw [if_pos (.inr w)]
                exact den_ret rfl rfl
              · have w : ¬ n + x % 128 * u > 2147483647 := of_decide_eq_false w
                rw [if_neg (by unfold maxN; omega)]
                simp only [List.cons_append, List.nil_append]
                exact den_let (ev_add (x := a) (y := j) rfl rfl (by omega) (by omega)) (den_let (ev_add (x := a + j) (y := 1) rfl rfl (by omega) (by omega)) (den_ret rfl rfl))
          · have z : ¬ x = 0 := by simpa using z
            simp only [List.cons_append, List.nil_append]
            refine den_let rfl (den_ite (b := decide (n + x % 128 * u > 2147483647)) rfl (fun w => ?_) (fun w => ?_))
            · have w : n + x % 128 * u > 2147483647 := of_decide_eq_true w
              rw [if_pos (.inr w)]
              exact den_ret rfl rfl
            · have w : ¬ n + x % 128 * u > 2147483647 := of_decide_eq_false w
              rw [if_neg (by unfold maxN; omega)]
              simp only [List.cons_append, List.nil_append]
              exact den_let (ev_add (x := a) (y := j) rfl rfl (by omega) (by omega)) (den_let (ev_add (x := a + j) (y := 1) rfl rfl (by omega) (by omega)) (den_ret rfl rfl))
        · have d : ¬ x < 128 := of_decide_eq_false d
          rw [if_neg d]
          simp only [List.cons_append, List.nil_append]
          refine den_let (ev_add (x := j) (y := 1) rfl rfl (by omega) (by omega)) (den_jump rfl rfl ?_)
          exact hJ (g, n + x % 128 * u, u * 128, j + 1) q1 (by show g < g + 1; omega)
      · have c : ¬ j < b.length - a := of_decide_eq_false c
        unfold getF
        rw [if_neg (by omega)]
        exact den_ret rfl rfl
    · have c2 : ¬ j < 5 := of_decide_eq_false c2
      obtain rfl : f = 0 := by omega
      exact den_ret rfl rfl
theorem cloneI (N k : Nat) (l : List Int) (hl : l.length < big) : Lv N (k + 1) 107 [Bs l] = some [Bs l] := by
  have hl' : l.length < 1048577 := hl
  refine level_den rfl rfl ?_ rfl
  unfold ir107
  refine den_let rfl (den_amb rfl (fun h => ⟨den_ret rfl (by rw [h]), ?_⟩) (fun _ => ?_))
  · refine den_let rfl (den_app (e := .int .u8) (l := []) (m := l) rfl rfl (by simp [maxRow]; omega) (den_ret rfl rfl))
  · refine den_let rfl (den_app (e := .int .u8) (l := []) (m := l) rfl rfl (by simp [maxRow]; omega) (den_ret rfl rfl))
theorem ev_cut {ρ : List Dy} {a b c : A} {l : List Int} {x y : Int} (ha : evA ρ a = some (Bs l)) (hb : evA ρ b = some (I x)) (hc : evA ρ c = some (I y)) (h0 : 0 ≤ x) (h1 : x ≤ y) (h2 : y ≤ l.length) : ev ρ ⟨.sub 1 true true, [a, b, c]⟩ = some (Bs ((l.take y.toNat).drop x.toNat)) := by
  have h2' : y ≤ (List.length l : Int) := h2
  have e1 : (Ty.int IntKind.u8).n = 1 := rfl
  simp only [ev, evAs, ha, hb, hc, evX, bounds, e1, h0, h1, h2', ne_eq, Nat.one_ne_zero, not_false_eq_true, and_self, if_true]
theorem textI (N k : Nat) (b : List Int) (a : Int) (hb : By b) (hm : b.length < big) (hN : big ≤ N) (ha : -1 ≤ a) (ha2 : a ≤ b.length) : Lv N (k + 2) 123 [Bs b, I a] = some [Bs (getT b a).1, I (getT b a).2] := by
  have hm' : b.length < 1048577 := hm
  refine level_den rfl rfl ?_ rfl
  obtain ⟨g1, g2, g3, g4⟩ := getN_ok a hb
  unfold ir123 getT
  refine den_call rfl (numI N k b a hb hm hN ha ha2) rfl ?_
  generalize hn : (getN b a).1 = n at g1 g2 ⊢
  generalize hp : (getN b a).2 = p at g3 g4 ⊢
  unfold maxN at g2
  simp only [List.cons_append, List.nil_append]
  refine den_let rfl (den_ite (b := decide (p < 0)) rfl (fun c => ?_) (fun c => ?_))
  · rw [if_pos (of_decide_eq_true c)]
    exact den_ret rfl rfl
  rw [if_neg (of_decide_eq_false c)]
  have c : ¬ p < 0 := of_decide_eq_false c
  refine den_let rfl (den_ite (b := decide (n > 20)) rfl (fun c => ?_) (fun c => ?_))
  · rw [if_pos (of_decide_eq_true c)]
    exact den_ret rfl rfl
  rw [if_neg (of_decide_eq_false c)]
  simp only [List.cons_append, List.nil_append]
  refine den_let rfl (den_let (ev_min (x := b.length) (y := p) rfl rfl (by omega) (by omega)) (den_let rfl (den_ite (b := decide (n > b.length - p)) rfl (fun c => ?_) (fun c => ?_))))
  · rw [if_pos (of_decide_eq_true c)]
    exact den_ret rfl rfl
  rw [if_neg (of_decide_eq_false c)]
  have c : ¬ n > b.length - p := of_decide_eq_false c
  simp only [List.cons_append, List.nil_append]
  refine den_let (ev_add (x := p) (y := n) rfl rfl (by omega) (by omega)) (den_let (ev_cut (l := b) (x := p) (y := p + n) rfl rfl rfl (by omega) (by omega) (by omega)) (den_call rfl (cloneI N k _ (by unfold big; rw [List.length_drop, List.length_take]; omega)) rfl ?_))
  simp only [List.cons_append, List.nil_append]
  exact den_let (ev_add (x := p) (y := n) rfl rfl (by omega) (by omega)) (den_ret rfl rfl)
theorem textS (N k : Nat) (b : List Int) (a : Int) (hb : By b) (hm : b.length < big) (hN : big ≤ N) (ha : -1 ≤ a) (ha2 : a ≤ b.length) : Lv N (k + 2) 147 [Bs b, I a] = some [Bs (getT b a).1, I (getT b a).2] := by
  have hm' : b.length < 1048577 := hm
  refine level_den rfl rfl ?_ rfl
  obtain ⟨g1, g2, g3, g4⟩ := getN_ok a hb
  unfold ir147 getT
  refine den_call rfl (numS N k b a hb hm hN ha ha2) rfl ?_
  generalize hn : (getN b a).1 = n at g1 g2 ⊢
  generalize hp : (getN b a).2 = p at g3 g4 ⊢
  unfold maxN at g2
  simp only [List.cons_append, List.nil_append]
  refine den_let rfl (den_ite (b := decide (p < 0)) rfl (fun c => ?_) (fun c => ?_))
  · rw [if_pos (of_decide_eq_true c)]
    exact den_ret rfl rfl
  rw [if_neg (of_decide_eq_false c)]
  have c : ¬ p < 0 := of_decide_eq_false c
  refine den_let rfl (den_ite (b := decide (n > 20)) rfl (fun c => ?_) (fun c => ?_))
  · rw [if_pos (of_decide_eq_true c)]
    exact den_ret rfl rfl
  rw [if_neg (of_decide_eq_false c)]
  simp only [List.cons_append, List.nil_append]
  refine den_let rfl (den_let (ev_min (x := b.length) (y := p) rfl rfl (by omega) (by omega)) (den_let rfl (den_ite (b := decide (n > b.length - p)) rfl (fun c => ?_) (fun c => ?_))))
  · rw [if_pos (of_decide_eq_true c)]
    exact den_ret rfl rfl
  rw [if_neg (of_decide_eq_false c)]
  have c : ¬ n > b.length - p := of_decide_eq_false c
  simp only [List.cons_append, List.nil_append]
  refine den_let rfl (den_let (ev_add (x := p) (y := n) rfl rfl (by omega) (by omega)) (den_let (ev_cut (l := b) (x := p) (y := p + n) rfl rfl rfl (by omega) (by omega) (by omega)) ?_))
  simp only [List.cons_append, List.nil_append]
  refine den_app (e := .int .u8) (l := []) rfl rfl (by unfold maxRow; rw [List.length_drop, List.length_take]; simp; omega) ?_
  simp only [List.cons_append, List.nil_append]
  exact den_let (ev_add (x := p) (y := n) rfl rfl (by omega) (by omega)) (den_ret rfl rfl)
abbrev CT : Ty := .pair (.sl (.int .u8)) (.pair (.int .i64) .unit)
abbrev C (b : List Int) (a : Int) : Dy := ⟨CT, (b, a, ())⟩
theorem tnum (N k : Nat) (b : List Int) (a : Int) (hb : By b) (hm : b.length < big) (hN : big ≤ N) (ha : -1 ≤ a) (ha2 : a ≤ b.length) : Lv N (k + 2) 66 [C b a] = some [I (getN b a).1, C b (getN b a).2] := by
  refine level_den rfl rfl ?_ rfl
  unfold ir66
  exact den_call rfl (numI N k b a hb hm hN ha ha2) rfl (den_let rfl (den_let rfl (den_ret rfl rfl)))
theorem ttext (N k : Nat) (b : List Int) (a : Int) (hb : By b) (hm : b.length < big) (hN : big ≤ N) (ha : -1 ≤ a) (ha2 : a ≤ b.length) : Lv N (k + 3) 68 [C b a] = some [Bs (getT b a).1, C b (getT b a).2] := by
  refine level_den rfl rfl ?_ rfl
  unfold ir68
  exact den_call rfl (textI N k b a hb hm hN ha ha2) rfl (den_let rfl (den_let rfl (den_ret rfl rfl)))
def getC (b : List Int) (m a : Int) : Int × Int := if m < (getN b a).1 then (0, -1) else getN b a
theorem tcount (N k : Nat) (m : Int) (b : List Int) (a : Int) (hb : By b) (hm : b.length < big) (hN : big ≤ N) (ha : -1 ≤ a) (ha2 : a ≤ b.length) : Lv N (k + 3) 67 [I m, C b a] = some [I (getC b m a).1, C b (getC b m a).2] := by
  refine level_den rfl rfl ?_ rfl
  unfold ir67 getC
  refine den_let rfl (den_call rfl (tnum N k b a hb hm hN ha ha2) rfl (den_let rfl (den_ite (b := decide ((getN b a).1 > m)) rfl (fun c => ?_) (fun c => ?_))))
  · rw [if_pos (of_decide_eq_true c)]
    exact den_let rfl (den_let rfl (den_ret rfl rfl))
  · rw [if_neg (of_decide_eq_false c)]
    exact den_let rfl (den_ret rfl rfl)
theorem snum (N k : Nat) (b : List Int) (a : Int) (hb : By b) (hm : b.length < big) (hN : big ≤ N) (ha : -1 ≤ a) (ha2 : a ≤ b.length) : Lv N (k + 2) 83 [C b a] = some [I (getN b a).1, C b (getN b a).2] := by
  refine level_den rfl rfl ?_ rfl
  unfold ir83
  refine den_let rfl (den_ite (b := decide (a < 0)) rfl (fun c => ?_) (fun c => ?_))
  · have c : a < 0 := of_decide_eq_true c
    have e : getN b a = (0, -1) := by unfold getN; rw [if_pos c]
    obtain rfl : a = -1 := by omega
    rw [e]
    exact den_let rfl (den_ret rfl rfl)
  · exact den_call rfl (numS N k b a hb hm hN ha ha2) rfl (den_let rfl (den_let rfl (den_ret rfl rfl)))
theorem stext (N k : Nat) (b : List Int) (a : Int) (hb : By b) (hm : b.length < big) (hN : big ≤ N) (ha : -1 ≤ a) (ha2 : a ≤ b.length) : Lv N (k + 3) 84 [C b a] = some [Bs (getT b a).1, C b (getT b a).2] := by
  refine level_den rfl rfl ?_ rfl
  unfold ir84
  refine den_let rfl (den_ite (b := decide (a < 0)) rfl (fun c => ?_) (fun c => ?_))
  · have c : a < 0 := of_decide_eq_true c
    have e0 : getN b a = (0, -1) := by unfold getN; rw [if_pos c]
    have e : getT b a = ([], -1) := by unfold getT; rw [e0]; rfl
    obtain rfl : a = -1 := by omega
    rw [e]
    exact den_let rfl (den_ret rfl rfl)
  · exact den_call rfl (textS N k b a hb hm hN ha ha2) rfl (den_let rfl (den_let rfl (den_ret rfl rfl)))
end Go.Proofs.Ytecleaangfcloab.VtFnExactStateRead
