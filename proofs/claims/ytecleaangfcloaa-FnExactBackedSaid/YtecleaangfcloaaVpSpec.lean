/- The reference's NodeOk says the same. Lemmas alone, no statement. -/
import Derived.Test.YtecleaangfcloaaVpImpl
namespace Go.Proofs.Ytecleaangfcloaa.Vp
set_option linter.unusedVariables false
set_option linter.unusedSimpArgs false
open Go Go.Vm Go.Proofs.Ytecleaangfcloaa.VtFnExactBacked
/-- The term ahead of place i. -/
def tp (l : List (D ITy)) (i : Nat) : Int :=
  match i with
  | 0 => 1
  | j + 1 => match l[j]? with
    | some x => x.1
    | none => 1
def vAt (i5 : Int) (v : List Bool) (i : Nat) : Bool := !(decide (i5 = 0) && (v[i]?).getD false)
def roleA (i0 i1 i2 i5 : Int) : Bool := !((!decide (i5 = 0)) && (decide (i1 < 1) || !decide (i2 = i0)))
def leadA (i0 i5 i6 : Int) : Bool := !decide (i5 = 2) || decide (i6 = i0)
theorem upAll_and (f g : Nat → Bool) : ∀ (d i : Nat), upAll (fun i => f i && g i) i d = (upAll f i d && upAll g i d)
  | 0, _ => rfl
  | d + 1, i => by
    show (f i && g i && upAll (fun i => f i && g i) (i + 1) d) = _
    rw [upAll_and f g d (i + 1)]
    show _ = ((f i && upAll f (i + 1) d) && (g i && upAll g (i + 1) d))
    cases f i <;> cases g i <;> cases upAll f (i + 1) d <;> rfl
theorem upAll_v (i5 : Int) (v : List Bool) : ∀ (d i : Nat), i + d = v.length → upAll (vAt i5 v) i d = !(decide (i5 = 0) && anyB (v.drop i))
  | 0, i, h => by
    unfold anyB
    rw [List.drop_of_length_le (by omega)]
    simp [upAll]
  | d + 1, i, h => by
    have hlt : i < v.length := by omega
    show (vAt i5 v i && upAll (vAt i5 v) (i + 1) d) = _
    rw [upAll_v i5 v d (i + 1) (by omega)]
    unfold vAt anyB
    rw [List.getElem?_eq_getElem hlt, List.drop_eq_getElem_cons hlt, List.all_cons]
    cases decide (i5 = 0) <;> cases v[i] <;> simp
theorem logOk_one {i1 : Int} {l : List (D ITy)} {t : Int} (h : t ≤ 1) : logOk i1 t l = logOk i1 1 l := by
  cases l with
  | nil => rfl
  | cons x l =>
    unfold logOk itemOk
    by_cases h1 : 1 ≤ x.1
    · have h1' : (1 : Int) ≤ x.1 := h1
      rw [decide_eq_true h1, decide_eq_true (show t ≤ x.1 by omega)]
    · rw [decide_eq_false h1]; simp
theorem tp_next {l : List (D ITy)} {i : Int} (h0 : 0 ≤ i) (h : i.toNat < l.length) : tp l (i + 1).toNat = l[i.toNat].1 := by
  rw [show (i + 1).toNat = i.toNat + 1 by omega]
  unfold tp
  dsimp only
  rw [List.getElem?_eq_getElem h]
def perS (i5 len : Int) (n m : List Int) (v : List Bool) (i : Nat) : Bool := perAt i5 len n m i && vAt i5 v i
set_option maxHeartbeats 8000000 in
theorem node13' (N q : Nat) (i0 i1 i2 : Int) (l : List (D ITy)) (i4 i5 i6 i7 : Int) (v : List Bool) (n m : List Int) (s : Int) (hN : big ≤ N) (hl : l.length < big) (hx : ∀ y ∈ l, okI y) (hv : v.length < big) :
    level T N (q + 6) 13 [⟨NTy, (i0, i1, i2, l, i4, i5, i6, i7, v, n, m, ())⟩, I s] =
      some [B ((rng1 i0 i1 i2 i6 s l.length && rng2 i4 i5 i7 s l.length v.length n.length m.length) && (logOk i1 1 l && (roleA i0 i1 i2 i5 && (upAll (perS i5 l.length n m v) 0 s.toNat && leadA i0 i5 i6))))] := by
  refine level_den rfl rfl ?_ rfl
  unfold ir13
  refine den_let rfl ?_
  simp only [List.cons_append, List.nil_append]
  obtain ⟨R, hR⟩ : ∃ R, R = (roleA i0 i1 i2 i5 && (upAll (perS i5 l.length n m v) 0 s.toNat && leadA i0 i5 i6)) := ⟨_, rfl⟩
  rw [← hR]
  refine den_joinP (fun b => b = false → (rng1 i0 i1 i2 i6 s l.length && rng2 i4 i5 i7 s l.length v.length n.length m.length) = true) (fun b => some [B (if b then false else logOk i1 1 l && R)]) (fun b hb => ?_) (fun J hJ => ?_)
  · simp only [List.cons_append, List.nil_append]
    refine den_ite rfl (fun h => den_ret rfl (someB (by rw [h]; rfl))) (fun h => ?_)
    have hr := hb h
    unfold rng1 rng2 at hr
    rw [Bool.and_eq_true, decide_eq_true_eq, decide_eq_true_eq] at hr
    clear hb
    subst h
    simp only [Bool.false_eq_true, if_false]
    refine den_loop (den_jump rfl rfl ?_)
    rw [show logOk i1 1 l = logOk i1 (tp l (0 : Int).toNat) (l.drop (0 : Int).toNat) from rfl]
    refine rounds_ind (α := Int) (enc := fun i => [B false, I i]) (ans := fun i => some [B (logOk i1 (tp l i.toNat) (l.drop i.toNat) && R)]) (meas := fun i => l.length - i.toNat) (Q := fun i => 0 ≤ i ∧ i ≤ l.length) ?_ N 0 ⟨Int.le_refl _, by omega⟩ (by show l.length - 0 < N; omega)
    rintro J i ⟨hi0, hi1⟩ hJ1
    simp only [List.cons_append, List.nil_append]
    refine den_let rfl (den_let rfl (den_ite rfl (fun h2 => ?_) (fun h2 => ?_)))
    · have h2 : i < l.length := by simpa using h2
      have hlt : i.toNat < l.length := by omega
      simp only [List.cons_append, List.nil_append]
      refine den_joinB (fun g => some [B (if g then false else logOk i1 l[i.toNat].1 (l.drop (i + 1).toNat) && R)]) (fun g => ?_) (fun J2 hJ2 => ?_)
      · simp only [List.cons_append, List.nil_append]
        refine den_ite rfl (fun h => den_ret rfl (someB (by rw [h]; rfl))) (fun h => ?_)
        subst h
        simp only [Bool.false_eq_true, if_false]
        refine den_let rfl (den_jump rfl rfl ?_)
        rw [up hi0 hi1 hl, ← tp_next hi0 hlt]
        exact hJ1 (i + 1) ⟨by omega, by omega⟩ (by omega)
      · have hn : ∀ (g : Bool), g = (!(itemOk l[i.toNat] && (decide (tp l i.toNat ≤ l[i.toNat].1) && decide (l[i.toNat].1 ≤ i1)))) → J2 [⟨.bool, g⟩] = some [B (logOk i1 (tp l i.toNat) (l.drop i.toNat) && R)] := by
          intro g hg
          rw [hJ2, hg, log_drop hi0 hlt]
          cases itemOk l[i.toNat] <;> cases decide (tp l i.toNat ≤ l[i.toNat].1) <;> cases decide (l[i.toNat].1 ≤ i1) <;> simp
        refine den_idx rfl rfl rfl hi0 (List.getElem?_eq_getElem hlt) (den_let rfl (den_call rfl (item58 N (q + 1) l[i.toNat] hN (hx _ (List.getElem_mem hlt))) rfl (den_let rfl (den_ite rfl (fun h => den_jump rfl rfl (hn _ ?_)) (fun h => ?_)))))
        · have h : itemOk l[i.toNat] = false := by simpa using h
          rw [h]; rfl
        have h : itemOk l[i.toNat] = true := by simpa using h
        rw [h, Bool.true_and] at hn
        simp only [List.cons_append, List.nil_append]
        refine den_idx rfl rfl rfl hi0 (List.getElem?_eq_getElem hlt) (den_let rfl (den_let rfl (den_ite rfl (fun h3 => den_jump rfl rfl (hn _ ?_)) (fun h3 => ?_))))
        · have h3 : l[i.toNat].1 > i1 := of_decide_eq_true h3
          rw [decide_eq_false (show ¬ l[i.toNat].1 ≤ i1 from Int.not_le.2 h3), Bool.and_false]; rfl
        have h3 : ¬ l[i.toNat].1 > i1 := of_decide_eq_false h3
        rw [decide_eq_true (show l[i.toNat].1 ≤ i1 from Int.not_lt.1 h3), Bool.and_true] at hn
        simp only [List.cons_append, List.nil_append]
        refine den_let rfl (den_ite rfl (fun h4 => ?_) (fun h4 => den_jump rfl rfl (hn _ ?_)))
        · have h4 : i > 0 := of_decide_eq_true h4
          have hw : IntKind.i64.wrap (i - 1) = i - 1 := by unfold big at hl; exact wrap_id (by omega) (by omega)
          have hlp : (IntKind.i64.wrap (i - 1)).toNat < l.length := by rw [hw]; omega
          have ht : tp l i.toNat = l[(IntKind.i64.wrap (i - 1)).toNat].1 := by
            have := tp_next (l := l) (i := i - 1) (by omega) (by omega)
            rw [show i - 1 + 1 = i by omega] at this
            rw [this]
            simp only [hw]
          simp only [List.cons_append, List.nil_append]
          refine den_let rfl (den_idx (n := IntKind.i64.wrap (i - 1)) rfl rfl rfl (by rw [hw]; omega) (List.getElem?_eq_getElem hlp) (den_let rfl ?_))
          simp only [List.cons_append, List.nil_append]
          refine den_idx rfl rfl rfl hi0 (List.getElem?_eq_getElem hlt) (den_let rfl (den_let rfl (den_jump rfl rfl (hn _ ?_))))
          rw [ht]
          show decide (l[(IntKind.i64.wrap (i - 1)).toNat].1 > l[i.toNat].1) = _
          rw [← decide_not, decide_eq_decide]
          exact Int.not_le.symm
        · have h4 : ¬ i > 0 := of_decide_eq_false h4
          have h0 : i.toNat = 0 := by omega
          have ht1 : tp l i.toNat = 1 := by rw [h0]; rfl
          unfold itemOk at h
          simp only [Bool.and_eq_true, decide_eq_true_eq] at h
          rw [ht1, decide_eq_true (show (1 : Int) ≤ l[i.toNat].1 from h.1.1)]; rfl
    · have h2 : ¬ i < l.length := by simpa using h2
      show _ = some [B (logOk i1 (tp l i.toNat) (l.drop i.toNat) && R)]
      rw [show l.drop i.toNat = [] from List.drop_of_length_le (by omega), hR]
      simp only [logOk, Bool.true_and]
      refine den_joinB (fun b => some [B (if b then false else upAll (perS i5 l.length n m v) 0 s.toNat && leadA i0 i5 i6)]) (fun b => ?_) (fun J2 hJ2 => ?_)
      · simp only [List.cons_append, List.nil_append]
        refine den_ite rfl (fun h => den_ret rfl (someB (by rw [h]; rfl))) (fun h => ?_)
        subst h
        simp only [Bool.false_eq_true, if_false]
        rw [show upAll (perS i5 l.length n m v) 0 s.toNat = upAll (perS i5 l.length n m v) (0 : Int).toNat (s - 0).toNat by rw [Int.sub_zero]; rfl]
        refine den_loop (den_jump rfl rfl ?_)
        refine rounds_ind (α := Int) (enc := fun i => [B false, I i]) (ans := fun i => some [B (upAll (perS i5 l.length n m v) i.toNat (s - i).toNat && leadA i0 i5 i6)]) (meas := fun i => (s - i).toNat) (Q := fun i => 0 ≤ i ∧ i ≤ s) ?_ N 0 ⟨by omega, by omega⟩ (by unfold big at hN; omega)
        intro J4 k hk hJ4
        simp only [List.cons_append, List.nil_append]
        refine den_let rfl (den_ite rfl (fun h5 => ?_) (fun h5 => ?_))
        · have h5 : k < s := by simpa using h5
          have hkn : k.toNat < n.length := by omega
          have hkm : k.toNat < m.length := by omega
          have hkv : k.toNat < v.length := by omega
          have hwk : IntKind.i64.wrap (k + 1) = k + 1 := wrap_id (by omega) (by omega)
          have hwl : IntKind.i64.wrap ((l.length : Int) + 1) = l.length + 1 := wrap_id (by omega) (by omega)
          obtain ⟨p4, hp4⟩ : ∃ p4, p4 = (if i5 = 2 then (decide (1 ≤ n[k.toNat]) && decide (n[k.toNat] ≤ (l.length : Int) + 1)) && (decide (0 ≤ m[k.toNat]) && decide (m[k.toNat] ≤ (l.length : Int))) else true) := ⟨_, rfl⟩
          obtain ⟨p5, hp5⟩ : ∃ p5, p5 = (if i5 = 2 then true else decide (n[k.toNat] = 0) && decide (m[k.toNat] = 0)) := ⟨_, rfl⟩
          obtain ⟨p6, hp6⟩ : ∃ p6, p6 = !(decide (i5 = 0) && v[k.toNat]) := ⟨_, rfl⟩
          have hper : perS i5 l.length n m v k.toNat = (p4 && (p5 && p6)) := by
            unfold perS perAt vAt
            rw [List.getElem?_eq_getElem hkn, List.getElem?_eq_getElem hkm, List.getElem?_eq_getElem hkv, hp4, hp5, hp6]
            by_cases h2 : i5 = 2
            · simp only [if_pos h2, Bool.decide_and, Bool.true_and]; rfl
            · simp only [if_neg h2, Bool.true_and]; rfl
          rw [up_step hk.1 h5, hper]
          obtain ⟨E, hE⟩ : ∃ E, E = (upAll (perS i5 l.length n m v) (k + 1).toNat (s - (k + 1)).toNat && leadA i0 i5 i6) := ⟨_, rfl⟩
          rw [show (p4 && (p5 && p6) && upAll (perS i5 l.length n m v) (k + 1).toNat (s - (k + 1)).toNat && leadA i0 i5 i6) = (p4 && (p5 && (p6 && E))) by rw [hE]; cases p4 <;> cases p5 <;> cases p6 <;> simp]
          refine den_joinB (fun g => some [B (if g then false else p5 && (p6 && E))]) (fun g => ?_) (fun J5 hJ5 => ?_)
          · simp only [List.cons_append, List.nil_append]
            refine den_ite rfl (fun h => den_ret rfl (someB (by rw [h]; rfl))) (fun h => ?_)
            subst h
            simp only [Bool.false_eq_true, if_false]
            refine den_joinB (fun g => some [B (if g then false else p6 && E)]) (fun g => ?_) (fun J6 hJ6 => ?_)
            · simp only [List.cons_append, List.nil_append]
              refine den_ite rfl (fun h => den_ret rfl (someB (by rw [h]; rfl))) (fun h => ?_)
              subst h
              simp only [Bool.false_eq_true, if_false]
              refine den_joinB (fun g => some [B (if g then false else E)]) (fun g => ?_) (fun J7 hJ7 => ?_)
              · simp only [List.cons_append, List.nil_append]
                refine den_ite rfl (fun h => den_ret rfl (someB (by rw [h]; rfl))) (fun h => ?_)
                subst h
                simp only [Bool.false_eq_true, if_false]
                refine den_let rfl (den_jump rfl rfl ?_)
                rw [hwk, hE]
                exact hJ4 (k + 1) (by omega) (by omega)
              · refine den_let rfl (den_ite rfl (fun h6 => ?_) (fun h6 => den_jump rfl rfl ?_))
                · have h6 : i5 = 0 := by simpa using h6
                  refine den_idx rfl rfl rfl hk.1 (List.getElem?_eq_getElem hkv) (den_let rfl (den_jump rfl rfl ?_))
                  rw [hJ7, hp6, decide_eq_true h6]
                  cases v[k.toNat] <;> simp
                · have h6 : ¬ i5 = 0 := by simpa using h6
                  rw [hJ7, hp6, decide_eq_false h6]
                  simp
            · have hn : ∀ (g : Bool), g = (!p5) → J6 [⟨.bool, g⟩] = some [B (p5 && (p6 && E))] := by
                intro g hg
                rw [hJ6, hg]
                cases p5 <;> simp
              refine den_let rfl (den_ite rfl (fun h6 => ?_) (fun h6 => den_jump rfl rfl (hn _ ?_)))
              · have h6 : ¬ i5 = 2 := by simpa using h6
                rw [if_neg h6] at hp5
                simp only [List.cons_append, List.nil_append]
                refine den_idx rfl rfl rfl hk.1 (List.getElem?_eq_getElem hkn) (den_let rfl (den_let rfl (den_ite rfl (fun h7 => den_jump rfl rfl (hn _ ?_)) (fun h7 => ?_))))
                · have h7 : ¬ n[k.toNat] = 0 := by simpa using h7
                  rw [hp5, decide_eq_false h7]; rfl
                have h7 : n[k.toNat] = 0 := by simpa using h7
                simp only [List.cons_append, List.nil_append]
                refine den_idx rfl rfl rfl hk.1 (List.getElem?_eq_getElem hkm) (den_let rfl (den_let rfl (den_jump rfl rfl (hn _ ?_))))
                show (!(m[k.toNat] == 0)) = _
                rw [beq_dec, hp5, decide_eq_true h7, Bool.true_and]
              · have h6 : i5 = 2 := by simpa using h6
                rw [hp5, if_pos h6]; rfl
          · have hn : ∀ (g : Bool), g = (!p4) → J5 [⟨.bool, g⟩] = some [B (p4 && (p5 && (p6 && E)))] := by
              intro g hg
              rw [hJ5, hg]
              cases p4 <;> simp
            refine den_let rfl (den_ite rfl (fun h6 => ?_) (fun h6 => den_jump rfl rfl (hn _ ?_)))
            · have h6 : i5 = 2 := by simpa using h6
              rw [if_pos h6] at hp4
              simp only [List.cons_append, List.nil_append]
              refine den_idx rfl rfl rfl hk.1 (List.getElem?_eq_getElem hkn) (den_let rfl (den_let rfl (den_ite rfl (fun h7 => den_jump rfl rfl (hn _ ?_)) (fun h7 => ?_))))
              · have h7 : n[k.toNat] < 1 := of_decide_eq_true h7
                rw [hp4, decide_eq_false (show ¬ 1 ≤ n[k.toNat] by omega)]; rfl
              have h7 : ¬ n[k.toNat] < 1 := of_decide_eq_false h7
              simp only [List.cons_append, List.nil_append]
              refine den_idx rfl rfl rfl hk.1 (List.getElem?_eq_getElem hkn) (den_let rfl (den_let rfl (den_let rfl ?_)))
              simp only [List.cons_append, List.nil_append]
              refine den_let rfl (den_ite rfl (fun h8 => den_jump rfl rfl (hn _ ?_)) (fun h8 => ?_))
              · have h8 : n[k.toNat] > IntKind.i64.wrap ((l.length : Int) + 1) := of_decide_eq_true h8
                rw [hwl] at h8
                rw [hp4, decide_eq_false (show ¬ n[k.toNat] ≤ (l.length : Int) + 1 by omega), Bool.and_false]; rfl
              have h8 : ¬ n[k.toNat] > IntKind.i64.wrap ((l.length : Int) + 1) := of_decide_eq_false h8
              rw [hwl] at h8
              rw [decide_eq_true (show 1 ≤ n[k.toNat] by omega), decide_eq_true (show n[k.toNat] ≤ (l.length : Int) + 1 by omega)] at hp4
              simp only [List.cons_append, List.nil_append]
              refine den_idx rfl rfl rfl hk.1 (List.getElem?_eq_getElem hkm) (den_let rfl (den_let rfl (den_ite rfl (fun h9 => den_jump rfl rfl (hn _ ?_)) (fun h9 => ?_))))
              · have h9 : m[k.toNat] < 0 := of_decide_eq_true h9
                rw [hp4, decide_eq_false (show ¬ 0 ≤ m[k.toNat] by omega)]; rfl
              have h9 : ¬ m[k.toNat] < 0 := of_decide_eq_false h9
              simp only [List.cons_append, List.nil_append]
              refine den_idx rfl rfl rfl hk.1 (List.getElem?_eq_getElem hkm) (den_let rfl (den_let rfl ?_))
              simp only [List.cons_append, List.nil_append]
              refine den_let rfl (den_jump rfl rfl (hn _ ?_))
              show decide (m[k.toNat] > (l.length : Int)) = _
              rw [hp4, decide_eq_true (show 0 ≤ m[k.toNat] by omega), Bool.true_and, Bool.true_and, Bool.true_and, ← decide_not, decide_eq_decide]
              omega
            · have h6 : ¬ i5 = 2 := by simpa using h6
              rw [hp4, if_neg h6]; rfl
        · have h5 : ¬ k < s := by simpa using h5
          rw [show (s - k).toNat = 0 by omega]
          refine den_let rfl (den_ite rfl (fun h6 => den_ret rfl (someB ?_)) (fun h6 => den_let rfl (den_ret rfl (someB ?_))))
          · have h6 : ¬ i5 = 2 := by simpa using h6
            unfold leadA
            rw [decide_eq_false h6]; rfl
          · have h6 : i5 = 2 := by simpa using h6
            unfold leadA
            rw [decide_eq_true h6]
            show (true && (!true || decide (i6 = i0))) = (i6 == i0)
            rw [beq_dec]; rfl
      · have hn : ∀ (g : Bool), g = (!roleA i0 i1 i2 i5) → J2 [⟨.bool, g⟩] = some [B (roleA i0 i1 i2 i5 && (upAll (perS i5 l.length n m v) 0 s.toNat && leadA i0 i5 i6))] := by
          intro g hg
          rw [hJ2, hg]
          cases roleA i0 i1 i2 i5 <;> simp
        refine den_let rfl (den_ite rfl (fun h6 => ?_) (fun h6 => den_jump rfl rfl (hn _ ?_)))
        · have h6 : ¬ i5 = 0 := by simpa using h6
          refine den_let rfl (den_ite rfl (fun h7 => den_jump rfl rfl (hn _ ?_)) (fun h7 => den_let rfl (den_jump rfl rfl (hn _ ?_))))
          · have h7 : i1 < 1 := of_decide_eq_true h7
            unfold roleA
            rw [decide_eq_false h6, decide_eq_true h7]; rfl
          · have h7 : ¬ i1 < 1 := of_decide_eq_false h7
            unfold roleA
            rw [decide_eq_false h6, decide_eq_false h7]
            show (!(i2 == i0)) = _
            rw [beq_dec]
            simp
        · have h6 : i5 = 0 := by simpa using h6
          unfold roleA
          rw [decide_eq_true h6]; rfl
  · have hn : ∀ (g : Bool), g = (!(rng1 i0 i1 i2 i6 s l.length && rng2 i4 i5 i7 s l.length v.length n.length m.length)) → J [B g] = some [B ((rng1 i0 i1 i2 i6 s l.length && rng2 i4 i5 i7 s l.length v.length n.length m.length) && (logOk i1 1 l && R))] := by
      intro g hg
      rw [hJ g (fun h => by rw [h] at hg; simpa using hg.symm), hg]
      cases (rng1 i0 i1 i2 i6 s l.length && rng2 i4 i5 i7 s l.length v.length n.length m.length) <;> simp
    have hf : ¬ ((1 ≤ s ∧ s ≤ 5 ∧ 0 ≤ i0 ∧ i0 < s ∧ 0 ≤ i1 ∧ i1 ≤ 100000 ∧ -1 ≤ i2 ∧ i2 ≤ s - 1 ∧ -1 ≤ i6 ∧ i6 ≤ s - 1 ∧ (l.length : Int) ≤ 400) ∧ (0 ≤ i4 ∧ i4 ≤ (l.length : Int) ∧ 0 ≤ i5 ∧ i5 ≤ 2 ∧ 0 ≤ i7 ∧ i7 ≤ 20 ∧ (v.length : Int) = s ∧ (n.length : Int) = s ∧ (m.length : Int) = s)) →
        true = (!(rng1 i0 i1 i2 i6 s l.length && rng2 i4 i5 i7 s l.length v.length n.length m.length)) := by
      intro h
      unfold rng1 rng2
      rw [← Bool.decide_and, decide_eq_false h]; rfl
    refine den_call rfl (servers55 N (q + 4) s) rfl (den_let rfl (den_ite rfl (fun h => den_jump rfl rfl (hn _ (hf ?_))) (fun c0 => ?_)))
    · rw [Bool.not_eq_true', ← Bool.decide_and, decide_eq_false_iff_not] at h
      omega
    rw [Bool.not_eq_false', ← Bool.decide_and, decide_eq_true_eq] at c0
    simp only [List.cons_append, List.nil_append]
    refine den_let rfl ((den_ite rfl (fun h => den_jump rfl rfl (hn _ (hf ?_))) (fun c1 => ?_)))
    · have h : i0 < 0 := of_decide_eq_true h
      omega
    have c1 : ¬ (i0 < 0) := of_decide_eq_false c1
    simp only [List.cons_append, List.nil_append]
    refine den_let rfl ((den_ite rfl (fun h => den_jump rfl rfl (hn _ (hf ?_))) (fun c2 => ?_)))
    · have h : i0 ≥ s := of_decide_eq_true h
      omega
    have c2 : ¬ (i0 ≥ s) := of_decide_eq_false c2
    simp only [List.cons_append, List.nil_append]
    refine den_call rfl (term56 N (q + 4) i1) rfl (den_let rfl (den_ite rfl (fun h => den_jump rfl rfl (hn _ (hf ?_))) (fun c3 => ?_)))
    · rw [Bool.not_eq_true', ← Bool.decide_and, decide_eq_false_iff_not] at h
      omega
    rw [Bool.not_eq_false', ← Bool.decide_and, decide_eq_true_eq] at c3
    simp only [List.cons_append, List.nil_append]
    refine den_call rfl (who57 N (q + 4) i2 s) rfl (den_let rfl (den_ite rfl (fun h => den_jump rfl rfl (hn _ (hf ?_))) (fun c4 => ?_)))
    · rw [Bool.not_eq_true', ← Bool.decide_and, decide_eq_false_iff_not] at h
      omega
    rw [Bool.not_eq_false', ← Bool.decide_and, decide_eq_true_eq] at c4
    simp only [List.cons_append, List.nil_append]
    refine den_let rfl (den_let rfl (den_ite rfl (fun h => den_jump rfl rfl (hn _ (hf ?_))) (fun c5 => ?_)))
    · have h : (l.length : Int) > 400 := of_decide_eq_true h
      omega
    have c5 : ¬ ((l.length : Int) > 400) := of_decide_eq_false c5
    simp only [List.cons_append, List.nil_append]
    refine den_let rfl ((den_ite rfl (fun h => den_jump rfl rfl (hn _ (hf ?_))) (fun c6 => ?_)))
    · have h : i4 < 0 := of_decide_eq_true h
      omega
    have c6 : ¬ (i4 < 0) := of_decide_eq_false c6
    simp only [List.cons_append, List.nil_append]
    refine den_let rfl (den_let rfl (den_ite rfl (fun h => den_jump rfl rfl (hn _ (hf ?_))) (fun c7 => ?_)))
    · have h : i4 > (l.length : Int) := of_decide_eq_true h
      omega
    have c7 : ¬ (i4 > (l.length : Int)) := of_decide_eq_false c7
    simp only [List.cons_append, List.nil_append]
    refine den_let rfl ((den_ite rfl (fun h => den_jump rfl rfl (hn _ (hf ?_))) (fun c8 => ?_)))
    · have h : i5 < 0 := of_decide_eq_true h
      omega
    have c8 : ¬ (i5 < 0) := of_decide_eq_false c8
    simp only [List.cons_append, List.nil_append]
    refine den_let rfl ((den_ite rfl (fun h => den_jump rfl rfl (hn _ (hf ?_))) (fun c9 => ?_)))
    · have h : i5 > 2 := of_decide_eq_true h
      omega
    have c9 : ¬ (i5 > 2) := of_decide_eq_false c9
    simp only [List.cons_append, List.nil_append]
    refine den_call rfl (who57 N (q + 4) i6 s) rfl (den_let rfl (den_ite rfl (fun h => den_jump rfl rfl (hn _ (hf ?_))) (fun c10 => ?_)))
    · rw [Bool.not_eq_true', ← Bool.decide_and, decide_eq_false_iff_not] at h
      omega
    rw [Bool.not_eq_false', ← Bool.decide_and, decide_eq_true_eq] at c10
    simp only [List.cons_append, List.nil_append]
    refine den_let rfl ((den_ite rfl (fun h => den_jump rfl rfl (hn _ (hf ?_))) (fun c11 => ?_)))
    · have h : i7 < 0 := of_decide_eq_true h
      omega
    have c11 : ¬ (i7 < 0) := of_decide_eq_false c11
    simp only [List.cons_append, List.nil_append]
    refine den_let rfl ((den_ite rfl (fun h => den_jump rfl rfl (hn _ (hf ?_))) (fun c12 => ?_)))
    · have h : i7 > 20 := of_decide_eq_true h
      omega
    have c12 : ¬ (i7 > 20) := of_decide_eq_false c12
    simp only [List.cons_append, List.nil_append]
    refine den_let rfl (den_let rfl (den_ite rfl (fun h => den_jump rfl rfl (hn _ (hf ?_))) (fun c13 => ?_)))
    · have h : ¬ ((v.length : Int) = s) := by simpa using h
      omega
    have c13 : (v.length : Int) = s := by simpa using c13
    simp only [List.cons_append, List.nil_append]
    refine den_let rfl (den_let rfl (den_ite rfl (fun h => den_jump rfl rfl (hn _ (hf ?_))) (fun c14 => ?_)))
    · have h : ¬ ((n.length : Int) = s) := by simpa using h
      omega
    have c14 : (n.length : Int) = s := by simpa using c14
    simp only [List.cons_append, List.nil_append]
    refine den_let rfl (den_let rfl (den_jump rfl rfl (hn _ ?_)))
    show (!((m.length : Int) == s)) = _
    unfold rng1 rng2
    rw [← Bool.decide_and, beq_dec, Bool.not_inj_iff, decide_eq_decide]
    omega

end Go.Proofs.Ytecleaangfcloaa.Vp
