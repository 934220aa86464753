/- The program's and the reference's numbers and texts, written. Lemmas alone, no statement. -/
import Derived.Test.YtecleaangfcloabVpNiFnExactStateRead
namespace Go.Proofs.Ytecleaangfcloab.VtFnExactStateRead
set_option linter.unusedVariables false
set_option linter.unusedSimpArgs false
open Go Go.Vm
theorem ev_lst8 {ρ : List Dy} {a : A} {x : Int} (ha : evA ρ a = some (Y x)) : ev ρ ⟨.lst (.int .u8), [a]⟩ = some (Bs [x]) := by
  simp only [ev, evAs, ha]
  rfl
theorem big_row : big < maxRow := by unfold big maxRow; decide
def PQ (s : List Int × Int × Nat) : Prop := s.2.2 ≤ 4 ∧ 0 ≤ s.2.1 ∧ s.2.1 < 128 ^ (s.2.2 + 1) ∧ s.1.length + s.2.2 < big
theorem pq_next {b : List Int} {m : Int} {f : Nat} {x : Int} (h : PQ (b, m, f)) (h1 : 128 ≤ m) : ∃ g, f = g + 1 ∧ PQ (b ++ [x], m / 128, g) ∧ putF f m = (m % 128 + 128) :: putF g (m / 128) := by
  obtain ⟨p1, p2, p3, p4⟩ := h
  dsimp only at p1 p2 p3 p4
  rcases f with _ | g
  · omega
  · refine ⟨g, rfl, ⟨by dsimp only; omega, by dsimp only; omega, ?_, by rw [List.length_append]; simp; omega⟩, ?_⟩
    · rw [Int.pow_succ] at p3
      dsimp only
      omega
    · show (if 128 ≤ m then _ else _) = _
      rw [if_pos h1]
theorem pq_end {b : List Int} {m : Int} {f : Nat} (h : PQ (b, m, f)) (h1 : m < 128) : putF f m = [m] := by
  rcases f with _ | g
  · rfl
  · show (if 128 ≤ m then _ else _) = _
    rw [if_neg (by omega)]
theorem pq_le {b : List Int} {m : Int} {f : Nat} (h : PQ (b, m, f)) : m ≤ 34359738368 := by
  obtain ⟨p1, p2, p3, p4⟩ := h
  dsimp only at p1 p2 p3 p4
  rcases f with _ | _ | _ | _ | _ | f <;> omega
set_option maxHeartbeats 1000000 in
theorem putI (N k : Nat) (b : List Int) (m : Int) (h0 : 0 ≤ m) (h1 : m ≤ maxN) (hb : b.length + 4 < big) (hN : big ≤ N) : Lv N (k + 1) 112 [I m, Bs b] = some [Bs (b ++ put m)] := by
  have hr := big_row
  have hN' : 1048577 ≤ N := hN
  unfold maxN at h1
  refine level_den rfl rfl ?_ rfl
  unfold ir112
  refine den_loop (den_jump rfl rfl ?_)
  refine rounds_ind (α := List Int × Int × Nat) (enc := fun s => [Bs s.1, I s.2.1, Bs []]) (ans := fun s => some [Bs (s.1 ++ putF s.2.2 s.2.1)]) (meas := fun s => s.2.2) (Q := PQ) ?_ N (b, m, 4) ⟨by show 4 ≤ 4; omega, h0, by show m < 128 ^ 5; omega, hb⟩ (by show 4 < N; omega)
  rintro J ⟨b, m, f⟩ hq hJ
  have hle := pq_le hq
  have hl : b.length + f < big := hq.2.2.2
  have hm : 0 ≤ m := hq.2.1
  dsimp only
  simp only [List.cons_append, List.nil_append]
  refine den_let rfl (den_ite (b := decide (m ≥ 128)) rfl (fun c => ?_) (fun c => ?_))
  · have c : m ≥ 128 := of_decide_eq_true c
    obtain ⟨g, rfl, hq', e⟩ := pq_next (x := m % 128 + 128) hq c
    simp only [List.cons_append, List.nil_append]
    refine den_let (ev_rem (x := m) rfl hm) (den_let (ev_toY (x := m % 128) rfl (by omega) (by omega)) ?_)
    simp only [List.cons_append, List.nil_append]
    refine den_let (ev_add8 (x := m % 128) rfl (by omega) (by omega)) (den_let (ev_lst8 (x := m % 128 + 128) rfl) ?_)
    simp only [List.cons_append, List.nil_append]
    refine den_app (e := .int .u8) (l := b) (m := [m % 128 + 128]) rfl rfl (by simp; omega) (den_let (ev_quo (x := m) rfl hm (by omega)) (den_jump rfl rfl ?_))
    rw [e, show b ++ (m % 128 + 128) :: putF g (m / 128) = (b ++ [m % 128 + 128]) ++ putF g (m / 128) by simp]
    exact hJ (b ++ [m % 128 + 128], m / 128, g) hq' (by show g < g + 1; omega)
  · have c : ¬ m ≥ 128 := of_decide_eq_false c
    rw [pq_end hq (by omega)]
    simp only [List.cons_append, List.nil_append]
    refine den_let (ev_toY (x := m) rfl (by omega) (by omega)) (den_let (ev_lst8 (x := m) rfl) ?_)
    simp only [List.cons_append, List.nil_append]
    exact den_app (e := .int .u8) (l := b) (m := [m]) rfl rfl (by simp; omega) (den_ret rfl rfl)
set_option maxHeartbeats 1000000 in
theorem putS (N k : Nat) (b : List Int) (m : Int) (h0 : 0 ≤ m) (h1 : m ≤ maxN) (hb : b.length + 4 < big) (hN : big ≤ N) : Lv N (k + 1) 124 [Bs b, I m] = some [Bs (b ++ put m)] := by
  have hr := big_row
  have hN' : 1048577 ≤ N := hN
  unfold maxN at h1
  refine level_den rfl rfl ?_ rfl
  unfold ir124
  refine den_let rfl (den_app (e := .int .u8) (l := []) (m := b) rfl rfl (by simp; omega) ?_)
  simp only [List.cons_append, List.nil_append]
  refine den_let rfl (den_ite (b := decide (m < 0)) rfl (fun c => absurd (of_decide_eq_true c) (by omega)) (fun _ => ?_))
  refine den_let rfl (den_ite (b := decide (m > 2147483647)) rfl (fun c => absurd (of_decide_eq_true c) (by omega)) (fun _ => ?_))
  simp only [List.cons_append, List.nil_append]
  refine den_loop (den_jump rfl rfl ?_)
  refine rounds_ind (α := List Int × Int × Nat) (enc := fun s => [Bs s.1, I s.2.1, Bs []]) (ans := fun s => some [Bs (s.1 ++ putF s.2.2 s.2.1)]) (meas := fun s => s.2.2) (Q := PQ) ?_ N (b, m, 4) ⟨by show 4 ≤ 4; omega, h0, by show m < 128 ^ 5; omega, hb⟩ (by show 4 < N; omega)
  clear h0 h1 hb
  rintro J ⟨b, m, f⟩ hq hJ
  have hle := pq_le hq
  have hl : b.length + f < big := hq.2.2.2
  have hm : 0 ≤ m := hq.2.1
  dsimp only
  simp only [List.cons_append, List.nil_append]
  refine den_let rfl (den_ite (b := decide (m > 127)) rfl (fun c => ?_) (fun c => ?_))
  · have c : m > 127 := of_decide_eq_true c
    obtain ⟨g, rfl, hq', e⟩ := pq_next (x := m % 128 + 128) hq (by omega)
    simp only [List.cons_append, List.nil_append]
    refine den_let (ev_rem (x := m) rfl hm) (den_let (ev_add (x := m % 128) (y := 128) rfl rfl (by omega) (by omega)) ?_)
    simp only [List.cons_append, List.nil_append]
    refine den_let (ev_toY (x := m % 128 + 128) rfl (by omega) (by omega)) (den_let (ev_lst8 (x := m % 128 + 128) rfl) ?_)
    simp only [List.cons_append, List.nil_append]
    refine den_app (e := .int .u8) (l := b) (m := [m % 128 + 128]) rfl rfl (by simp; omega) (den_let (ev_quo (x := m) rfl hm (by omega)) (den_jump rfl rfl ?_))
    rw [e, show b ++ (m % 128 + 128) :: putF g (m / 128) = (b ++ [m % 128 + 128]) ++ putF g (m / 128) by simp]
    exact hJ (b ++ [m % 128 + 128], m / 128, g) hq' (by show g < g + 1; omega)
  · have c : ¬ m > 127 := of_decide_eq_false c
    rw [pq_end hq (by omega)]
    simp only [List.cons_append, List.nil_append]
    refine den_let (ev_toY (x := m) rfl (by omega) (by omega)) (den_let (ev_lst8 (x := m) rfl) ?_)
    simp only [List.cons_append, List.nil_append]
    exact den_app (e := .int .u8) (l := b) (m := [m]) rfl rfl (by simp; omega) (den_ret rfl rfl)
def bit (d : Bool) : Int := if d then 1 else 0
theorem truthI (N k : Nat) (d : Bool) : Lv N (k + 1) 114 [B d] = some [I (bit d)] := by
  refine level_den rfl rfl ?_ rfl
  unfold ir114
  exact den_ite (b := d) rfl (fun h => den_ret rfl (by rw [h]; rfl)) (fun h => den_ret rfl (by rw [h]; rfl))
theorem flagS (N k : Nat) (b : List Int) (d : Bool) (hb : b.length + 4 < big) (hN : big ≤ N) : Lv N (k + 2) 126 [Bs b, B d] = some [Bs (b ++ put (bit d))] := by
  refine level_den rfl rfl ?_ rfl
  unfold ir126
  refine den_ite (b := d) rfl (fun h => ?_) (fun h => ?_)
  · rw [h]
    exact den_call rfl (putS N k b 1 (by decide) (by decide) hb hN) rfl (den_ret rfl rfl)
  · rw [h]
    exact den_call rfl (putS N k b 0 (by decide) (by decide) hb hN) rfl (den_ret rfl rfl)
theorem putTI (N k : Nat) (b t : List Int) (ht : t.length ≤ 20) (hb : b.length + 30 < big) (hN : big ≤ N) : Lv N (k + 2) 113 [Bs t, Bs b] = some [Bs (b ++ (put t.length ++ t))] := by
  have hr := big_row
  have hp := put_len (t.length : Int)
  refine level_den rfl rfl ?_ rfl
  unfold ir113
  refine den_let rfl (den_call rfl (putI N k b t.length (by omega) (by unfold maxN; omega) (by omega) hN) rfl ?_)
  simp only [List.cons_append, List.nil_append]
  refine den_app (e := .int .u8) (l := b ++ put t.length) (m := t) rfl rfl (by rw [List.length_append]; omega) (den_ret rfl ?_)
  simp
theorem putTS (N k : Nat) (b t : List Int) (ht : t.length ≤ 20) (hb : b.length + 30 < big) (hN : big ≤ N) : Lv N (k + 2) 125 [Bs b, Bs t] = some [Bs (b ++ (put t.length ++ t))] := by
  have hr := big_row
  have hp := put_len (t.length : Int)
  refine level_den rfl rfl ?_ rfl
  unfold ir125
  refine den_let rfl (den_let rfl (den_ite (b := decide ((t.length : Int) > 20)) rfl (fun c => absurd (of_decide_eq_true c) (by omega)) (fun _ => ?_)))
  simp only [List.cons_append, List.nil_append]
  refine den_let rfl (den_call rfl (putS N k b t.length (by omega) (by unfold maxN; omega) (by omega) hN) rfl ?_)
  simp only [List.cons_append, List.nil_append]
  refine den_app (e := .int .u8) (l := b ++ put t.length) (m := t) rfl rfl (by rw [List.length_append]; omega) (den_ret rfl ?_)
  simp
def puts (l : List Int) : List Int := l.flatMap put
theorem puts_len : ∀ l : List Int, (puts l).length ≤ 5 * l.length
  | [] => by simp [puts]
  | x :: l => by
    have h1 := put_len x
    have h2 := puts_len l
    simp only [puts, List.flatMap_cons, List.length_append, List.length_cons] at h2 ⊢
    omega
theorem putL (N k : Nat) (b l : List Int) (hl : ∀ x ∈ l, 0 ≤ x ∧ x ≤ maxN) (hb : b.length + 5 * l.length < big) (hN : big ≤ N) : Lv N (k + 2) 111 [S (.int .i64) l, Bs b] = some [Bs (b ++ puts l)] := by
  have hN' : 1048577 ≤ N := hN
  have hbig : big = 1048577 := rfl
  refine level_den rfl rfl ?_ rfl
  unfold ir111
  refine den_let rfl (den_loop (den_jump rfl rfl ?_))
  refine rounds_ind (α := Int × List Int) (enc := fun s => [I s.1, Bs s.2]) (ans := fun s => some [Bs (s.2 ++ puts (l.drop s.1.toNat))]) (meas := fun s => l.length - s.1.toNat) (Q := fun s => 0 ≤ s.1 ∧ s.1 ≤ l.length ∧ s.2.length ≤ b.length + 5 * s.1.toNat) ?_ N (0, b) ⟨by show (0 : Int) ≤ 0; omega, by show (0 : Int) ≤ l.length; omega, by simp⟩ (by show l.length - (0 : Int).toNat < N; omega)
  rintro J ⟨i, c⟩ ⟨i0, i1, hc⟩ hJ
  dsimp only at i0 i1 hc
  dsimp only
  simp only [List.cons_append, List.nil_append]
  refine den_let rfl (den_ite (b := decide (i < l.length)) rfl (fun g => ?_) (fun g => ?_))
  · have g : i < l.length := of_decide_eq_true g
    have hlt : i.toNat < l.length := by omega
    have hx := hl _ (List.getElem_mem hlt)
    have hp := put_len l[i.toNat]
    simp only [List.cons_append, List.nil_append]
    refine den_idx rfl rfl rfl i0 (List.getElem?_eq_getElem hlt) (den_let rfl (den_let rfl (den_call rfl (putI N k c l[i.toNat] hx.1 hx.2 (by omega) hN) rfl ?_)))
    simp only [List.cons_append, List.nil_append]
    refine den_let rfl (den_let (ev_add (x := i) (y := 1) rfl rfl (by omega) (by omega)) (den_jump rfl rfl ?_))
    rw [List.drop_eq_getElem_cons hlt, show c ++ puts (l[i.toNat] :: l.drop (i.toNat + 1)) = (c ++ put l[i.toNat]) ++ puts (l.drop (i + 1).toNat) by rw [show (i + 1).toNat = i.toNat + 1 by omega]; unfold puts; rw [List.flatMap_cons, List.append_assoc]]
    exact hJ (i + 1, c ++ put l[i.toNat]) ⟨by show 0 ≤ i + 1; omega, by show i + 1 ≤ (l.length : Int); omega, by show (c ++ put l[i.toNat]).length ≤ _; rw [List.length_append]; dsimp only; omega⟩ (by show l.length - (i + 1).toNat < l.length - i.toNat; omega)
  · have g : ¬ i < l.length := of_decide_eq_false g
    rw [List.drop_of_length_le (by omega)]
    exact den_ret rfl (by simp [puts])
end Go.Proofs.Ytecleaangfcloab.VtFnExactStateRead
