/- The program's NodeOk says what it should. Lemmas alone, no statement. -/
import Derived.Test.YtecleaangfcloaaVpAll
namespace Go.Proofs.Ytecleaangfcloaa.Vp
set_option linter.unusedVariables false
set_option linter.unusedSimpArgs false
open Go Go.Vm Go.Proofs.Ytecleaangfcloaa.VtFnExactBacked
/-- The log's items are good, their terms rise from t on. -/
def logOk (i1 : Int) : Int → List (D ITy) → Bool
  | _, [] => true
  | t, x :: xs => itemOk x && (decide (t ≤ x.1) && (decide (x.1 ≤ i1) && logOk i1 x.1 xs))
def perAt (i5 len : Int) (n m : List Int) (i : Nat) : Bool :=
  match n[i]?, m[i]? with
  | some a, some b => if i5 = 2 then decide (1 ≤ a ∧ a ≤ len + 1) && decide (0 ≤ b ∧ b ≤ len) else decide (a = 0) && decide (b = 0)
  | _, _ => true
def upAll (f : Nat → Bool) : Nat → Nat → Bool
  | _, 0 => true
  | i, d + 1 => f i && upAll f (i + 1) d
def rng1 (i0 i1 i2 i6 s len : Int) : Bool := decide (1 ≤ s ∧ s ≤ 5 ∧ 0 ≤ i0 ∧ i0 < s ∧ 0 ≤ i1 ∧ i1 ≤ 100000 ∧ -1 ≤ i2 ∧ i2 ≤ s - 1 ∧ -1 ≤ i6 ∧ i6 ≤ s - 1 ∧ len ≤ 400)
def rng2 (i4 i5 i7 s len v n m : Int) : Bool := decide (0 ≤ i4 ∧ i4 ≤ len ∧ 0 ≤ i5 ∧ i5 ≤ 2 ∧ 0 ≤ i7 ∧ i7 ≤ 20 ∧ v = s ∧ n = s ∧ m = s)
def roleB (i0 i1 i2 i5 i6 : Int) (v : List Bool) : Bool := !((decide (i5 = 0) && anyB v) || ((!decide (i5 = 0)) && (decide (i1 < 1) || !decide (i2 = i0))) || (decide (i5 = 2) && !decide (i6 = i0)))
def nodeOk (i0 i1 i2 : Int) (l : List (D ITy)) (i4 i5 i6 i7 : Int) (v : List Bool) (n m : List Int) (s : Int) : Bool :=
  rng1 i0 i1 i2 i6 s l.length && (logOk i1 1 l && (rng2 i4 i5 i7 s l.length v.length n.length m.length && (roleB i0 i1 i2 i5 i6 v && upAll (perAt i5 l.length n m) 0 s.toNat)))
theorem log_drop {i1 t : Int} {l : List (D ITy)} {i : Int} (h0 : 0 ≤ i) (h : i.toNat < l.length) : logOk i1 t (l.drop i.toNat) = (itemOk l[i.toNat] && (decide (t ≤ l[i.toNat].1) && (decide (l[i.toNat].1 ≤ i1) && logOk i1 l[i.toNat].1 (l.drop (i + 1).toNat)))) := by
  rw [show (i + 1).toNat = i.toNat + 1 by omega, List.drop_eq_getElem_cons h]
  rfl
theorem up_step {f : Nat → Bool} {i s : Int} (h0 : 0 ≤ i) (h : i < s) : upAll f i.toNat (s - i).toNat = (f i.toNat && upAll f (i + 1).toNat (s - (i + 1)).toNat) := by
  rw [show (s - i).toNat = (s - (i + 1)).toNat + 1 by omega, show (i + 1).toNat = i.toNat + 1 by omega]
  rfl
set_option maxHeartbeats 8000000 in
theorem node15 (N q : Nat) (i0 i1 i2 : Int) (l : List (D ITy)) (i4 i5 i6 i7 : Int) (v : List Bool) (n m : List Int) (s : Int) (hN : big ≤ N) (hl : l.length < big) (hx : ∀ y ∈ l, okI y) (hv : v.length < big) :
    level T N (q + 6) 15 [⟨NTy, (i0, i1, i2, l, i4, i5, i6, i7, v, n, m, ())⟩, I s] = some [B (nodeOk i0 i1 i2 l i4 i5 i6 i7 v n m s)] := by
  refine level_den rfl rfl ?_ rfl
  unfold ir15
  refine den_let rfl ?_
  simp only [List.cons_append, List.nil_append]
  refine den_joinP (fun b => b = false → rng1 i0 i1 i2 i6 s l.length = true) (fun b => some [B (if b then false else logOk i1 1 l && (rng2 i4 i5 i7 s l.length v.length n.length m.length && (roleB i0 i1 i2 i5 i6 v && upAll (perAt i5 l.length n m) 0 s.toNat)))]) (fun b hb => ?_) (fun J hJ => ?_)
  · simp only [List.cons_append, List.nil_append]
    refine den_ite rfl (fun h => den_ret rfl (someB (by rw [h]; rfl))) (fun h => ?_)
    have hr := hb h
    unfold rng1 at hr
    rw [decide_eq_true_eq] at hr
    clear hb
    subst h
    simp only [Bool.false_eq_true, if_false]
    obtain ⟨R, hR⟩ : ∃ R, R = (rng2 i4 i5 i7 s l.length v.length n.length m.length && (roleB i0 i1 i2 i5 i6 v && upAll (perAt i5 l.length n m) 0 s.toNat)) := ⟨_, rfl⟩
    rw [← hR]
    refine den_let rfl (den_loop (den_jump rfl rfl ?_))
    simp only [List.cons_append, List.nil_append]
    refine rounds_ind (α := Int × Int) (enc := fun p => [B false, I p.1, I p.2]) (ans := fun p => some [B (logOk i1 p.1 (l.drop p.2.toNat) && R)]) (meas := fun p => l.length - p.2.toNat) (Q := fun p => 0 ≤ p.2 ∧ p.2 ≤ l.length) ?_ N (1, 0) ⟨Int.le_refl _, by show (0 : Int) ≤ l.length; omega⟩ (by show l.length - 0 < N; omega)
    rintro J ⟨t, i⟩ ⟨hi0, hi1⟩ hJ1
    dsimp only at hi0 hi1
    simp only [List.cons_append, List.nil_append]
    refine den_let rfl (den_ite rfl (fun h2 => ?_) (fun h2 => ?_))
    · have h2 : i < l.length := by simpa using h2
      have hlt : i.toNat < l.length := by omega
      refine den_idx rfl rfl rfl hi0 (List.getElem?_eq_getElem hlt) (den_let rfl (den_let rfl ?_))
      simp only [List.cons_append, List.nil_append]
      refine den_joinB (fun g => some [B (if g then false else logOk i1 l[i.toNat].1 (l.drop (i + 1).toNat) && R)]) (fun g => ?_) (fun J2 hJ2 => ?_)
      · simp only [List.cons_append, List.nil_append]
        refine den_ite rfl (fun h => den_ret rfl (someB (by rw [h]; rfl))) (fun h => ?_)
        subst h
        simp only [Bool.false_eq_true, if_false]
        refine den_let rfl (den_jump rfl rfl ?_)
        rw [up hi0 hi1 hl]
        exact hJ1 (l[i.toNat].1, i + 1) ⟨by show 0 ≤ i + 1; omega, by show i + 1 ≤ l.length; omega⟩ (by show l.length - (i + 1).toNat < l.length - i.toNat; omega)
      · have hn : ∀ (g : Bool), g = (!(itemOk l[i.toNat] && (decide (t ≤ l[i.toNat].1) && decide (l[i.toNat].1 ≤ i1)))) → J2 [⟨.bool, g⟩] = some [B (logOk i1 t (l.drop i.toNat) && R)] := by
          intro g hg
          rw [hJ2, hg, log_drop hi0 hlt]
          cases itemOk l[i.toNat] <;> cases decide (t ≤ l[i.toNat].1) <;> cases decide (l[i.toNat].1 ≤ i1) <;> simp
        refine den_let rfl (den_call rfl (item61 N q l[i.toNat] hN (hx _ (List.getElem_mem hlt))) rfl (den_let rfl (den_ite rfl (fun h => den_jump rfl rfl (hn _ ?_)) (fun h => ?_))))
        · have h : itemOk l[i.toNat] = false := by simpa using h
          rw [h]; rfl
        · have h : itemOk l[i.toNat] = true := by simpa using h
          simp only [List.cons_append, List.nil_append]
          refine den_call rfl (within60 N (q + 4) _ t i1) rfl (den_let rfl (den_jump rfl rfl (hn _ ?_)))
          rw [h]; rfl
    · have h2 : ¬ i < l.length := by simpa using h2
      show _ = some [B (logOk i1 t (l.drop i.toNat) && R)]
      rw [show l.drop i.toNat = [] from List.drop_of_length_le (by omega), hR]
      simp only [logOk, Bool.true_and]
      refine den_joinP (fun b => b = false → rng2 i4 i5 i7 s l.length v.length n.length m.length = true) (fun b => some [B (if b then false else roleB i0 i1 i2 i5 i6 v && upAll (perAt i5 l.length n m) 0 s.toNat)]) (fun b hb => ?_) (fun J2 hJ2 => ?_)
      · simp only [List.cons_append, List.nil_append]
        refine den_ite rfl (fun h => den_ret rfl (someB (by rw [h]; rfl))) (fun h => ?_)
        have hr2 := hb h
        unfold rng2 at hr2
        rw [decide_eq_true_eq] at hr2
        clear hb
        subst h
        simp only [Bool.false_eq_true, if_false]
        refine den_joinB (fun b => some [B (if b then false else upAll (perAt i5 l.length n m) 0 s.toNat)]) (fun b => ?_) (fun J3 hJ3 => ?_)
        · simp only [List.cons_append, List.nil_append]
          refine den_ite rfl (fun h => den_ret rfl (someB (by rw [h]; rfl))) (fun h => ?_)
          subst h
          simp only [Bool.false_eq_true, if_false]
          rw [show upAll (perAt i5 l.length n m) 0 s.toNat = upAll (perAt i5 l.length n m) (0 : Int).toNat (s - 0).toNat by rw [Int.sub_zero]; rfl]
          refine den_loop (den_jump rfl rfl ?_)
          refine rounds_ind (α := Int) (enc := fun i => [B false, I i]) (ans := fun i => some [B (upAll (perAt i5 l.length n m) i.toNat (s - i).toNat)]) (meas := fun i => (s - i).toNat) (Q := fun i => 0 ≤ i ∧ i ≤ s) ?_ N 0 ⟨by omega, by omega⟩ (by unfold big at hN; omega)
          intro J4 k hk hJ4
          simp only [List.cons_append, List.nil_append]
          refine den_let rfl (den_ite rfl (fun h5 => ?_) (fun h5 => ?_))
          · have h5 : k < s := by simpa using h5
            have hkn : k.toNat < n.length := by omega
            have hkm : k.toNat < m.length := by omega
            have hwk : IntKind.i64.wrap (k + 1) = k + 1 := wrap_id (by omega) (by omega)
            have hwl : IntKind.i64.wrap ((l.length : Int) + 1) = l.length + 1 := wrap_id (by omega) (by omega)
            have hper : perAt i5 l.length n m k.toNat = if i5 = 2 then (decide (1 ≤ n[k.toNat]) && decide (n[k.toNat] ≤ (l.length : Int) + 1)) && (decide (0 ≤ m[k.toNat]) && decide (m[k.toNat] ≤ (l.length : Int))) else decide (n[k.toNat] = 0) && decide (m[k.toNat] = 0) := by
              unfold perAt
              rw [List.getElem?_eq_getElem hkn, List.getElem?_eq_getElem hkm]
              simp only [Bool.decide_and]
            rw [up_step hk.1 h5]
            refine den_joinB (fun g => some [B (if g then false else upAll (perAt i5 l.length n m) (k + 1).toNat (s - (k + 1)).toNat)]) (fun g => ?_) (fun J5 hJ5 => ?_)
            · simp only [List.cons_append, List.nil_append]
              refine den_ite rfl (fun h => den_ret rfl (someB (by rw [h]; rfl))) (fun h => ?_)
              subst h
              simp only [Bool.false_eq_true, if_false]
              refine den_let rfl (den_jump rfl rfl ?_)
              rw [hwk]
              exact hJ4 (k + 1) (by omega) (by omega)
            · have hn : ∀ (g : Bool), g = (!perAt i5 l.length n m k.toNat) → J5 [⟨.bool, g⟩] = some [B (perAt i5 l.length n m k.toNat && upAll (perAt i5 l.length n m) (k + 1).toNat (s - (k + 1)).toNat)] := by
                intro g hg
                rw [hJ5, hg]
                cases perAt i5 l.length n m k.toNat <;> simp
              rw [hper] at hn ⊢
              refine den_let rfl (den_ite rfl (fun h6 => ?_) (fun h6 => ?_))
              · have h6 : i5 = 2 := by simpa using h6
                subst h6
                simp only [if_true] at hn ⊢
                simp only [List.cons_append, List.nil_append]
                refine den_idx rfl rfl rfl hk.1 (List.getElem?_eq_getElem hkn) (den_let rfl (den_let rfl (den_let rfl ?_)))
                simp only [List.cons_append, List.nil_append]
                refine den_call rfl (within60 N (q + 4) n[k.toNat] 1 _) rfl (den_let rfl (den_ite rfl (fun h7 => den_jump rfl rfl (hn _ ?_)) (fun h7 => ?_)))
                · rw [show (IntKind.i64.wrap (_ + 1)) = (l.length : Int) + 1 from hwl, Bool.not_eq_true'] at h7
                  rw [h7]; rfl
                rw [show (IntKind.i64.wrap (_ + 1)) = (l.length : Int) + 1 from hwl, Bool.not_eq_false'] at h7
                rw [h7, Bool.true_and] at hn ⊢
                simp only [List.cons_append, List.nil_append]
                refine den_idx rfl rfl rfl hk.1 (List.getElem?_eq_getElem hkm) (den_let rfl (den_let rfl ?_))
                simp only [List.cons_append, List.nil_append]
                refine den_call rfl (within60 N (q + 4) m[k.toNat] 0 (l.length : Int)) rfl (den_let rfl (den_ite rfl (fun h8 => den_jump rfl rfl (hn _ ?_)) (fun h8 => ?_)))
                · rw [Bool.not_eq_true'] at h8
                  rw [h8]; rfl
                rw [Bool.not_eq_false'] at h8
                simp only [List.cons_append, List.nil_append]
                refine den_let rfl (den_ite rfl (fun h => absurd h (show ¬ ((2 : Int) != 2) = true by decide)) (fun _ => den_jump rfl rfl (hn _ ?_)))
                rw [h8]; rfl
              · have h6 : ¬ i5 = 2 := by simpa using h6
                rw [if_neg h6] at hn ⊢
                simp only [List.cons_append, List.nil_append]
                refine den_let rfl (den_ite rfl (fun _ => ?_) (fun h => absurd (show i5 = 2 by simpa using h) h6))
                simp only [List.cons_append, List.nil_append]
                refine den_idx rfl rfl rfl hk.1 (List.getElem?_eq_getElem hkn) (den_let rfl (den_let rfl (den_ite rfl (fun h7 => den_jump rfl rfl (hn _ ?_)) (fun h7 => ?_))))
                · have h7 : ¬ n[k.toNat] = 0 := by simpa using h7
                  rw [decide_eq_false h7]; rfl
                have h7 : n[k.toNat] = 0 := by simpa using h7
                rw [decide_eq_true h7, Bool.true_and] at hn ⊢
                simp only [List.cons_append, List.nil_append]
                refine den_idx rfl rfl rfl hk.1 (List.getElem?_eq_getElem hkm) (den_let rfl (den_let rfl (den_jump rfl rfl (hn _ ?_))))
                show (!(m[k.toNat] == 0)) = _
                rw [beq_dec]
          · have h5 : ¬ k < s := by simpa using h5
            refine den_ret rfl (someB ?_)
            rw [show (s - k).toNat = 0 by omega]; rfl
        · have hn : ∀ (g : Bool), g = (!roleB i0 i1 i2 i5 i6 v) → J3 [⟨.bool, g⟩] = some [B (roleB i0 i1 i2 i5 i6 v && upAll (perAt i5 l.length n m) 0 s.toNat)] := by
            intro g hg
            rw [hJ3, hg]
            cases roleB i0 i1 i2 i5 i6 v <;> simp
          refine den_let rfl (den_ite rfl (fun h1 => ?_) (fun h1 => ?_))
          · have h1 : i5 = 0 := by simpa using h1
            subst h1
            simp only [List.cons_append, List.nil_append]
            refine den_call rfl (contains62 N (q + 3) v hN hv) rfl (den_ite rfl (fun h2 => den_jump rfl rfl (hn _ ?_)) (fun h2 => den_let rfl (den_ite rfl (fun h => absurd h (show ¬ ((0 : Int) != 0) = true by decide)) (fun _ => den_let rfl (den_ite rfl (fun h => absurd h (show ¬ ((0 : Int) == 2) = true by decide)) (fun _ => den_jump rfl rfl (hn _ ?_)))))))
            · unfold roleB
              rw [h2]; simp
            · unfold roleB
              rw [h2]; simp
          · have h1 : ¬ i5 = 0 := by simpa using h1
            simp only [List.cons_append, List.nil_append]
            refine den_let rfl (den_ite rfl (fun _ => ?_) (fun h => absurd (show i5 = 0 by simpa using h) h1))
            simp only [List.cons_append, List.nil_append]
            refine den_let rfl (den_ite rfl (fun h2 => den_jump rfl rfl (hn _ ?_)) (fun h2 => den_let rfl (den_ite rfl (fun h3 => den_jump rfl rfl (hn _ ?_)) (fun h3 => ?_))))
            · have h2 : i1 < 1 := by simpa using h2
              unfold roleB
              simp [h1, h2]
            · have h3 : ¬ i2 = i0 := by simpa using h3
              unfold roleB
              simp [h1, h3]
            have h2 : ¬ i1 < 1 := by simpa using h2
            have h3 : i2 = i0 := by simpa using h3
            simp only [List.cons_append, List.nil_append]
            refine den_let rfl (den_ite rfl (fun h4 => den_let rfl (den_jump rfl rfl (hn _ ?_))) (fun h4 => den_jump rfl rfl (hn _ ?_)))
            · have h4 : i5 = 2 := by simpa using h4
              show (!(i6 == i0)) = _
              unfold roleB
              rw [beq_dec, decide_eq_false h1, decide_eq_false h2, decide_eq_true h3, decide_eq_true h4]
              simp
            · have h4 : ¬ i5 = 2 := by simpa using h4
              unfold roleB
              rw [decide_eq_false h1, decide_eq_false h2, decide_eq_true h3, decide_eq_false h4]
              rfl
      · have hn : ∀ (g : Bool), g = (!rng2 i4 i5 i7 s l.length v.length n.length m.length) → J2 [⟨.bool, g⟩] = some [B (rng2 i4 i5 i7 s l.length v.length n.length m.length && (roleB i0 i1 i2 i5 i6 v && upAll (perAt i5 l.length n m) 0 s.toNat))] := by
          intro g hg
          rw [hJ2 g (fun h => by rw [h] at hg; simpa using hg.symm), hg]
          cases rng2 i4 i5 i7 s l.length v.length n.length m.length <;> simp
        have hf : ¬ (0 ≤ i4 ∧ i4 ≤ (l.length : Int) ∧ 0 ≤ i5 ∧ i5 ≤ 2 ∧ 0 ≤ i7 ∧ i7 ≤ 20 ∧ (v.length : Int) = s ∧ (n.length : Int) = s ∧ (m.length : Int) = s) → true = (!rng2 i4 i5 i7 s l.length v.length n.length m.length) := by
          intro h
          unfold rng2
          rw [decide_eq_false h]; rfl
        refine den_let rfl (den_call rfl (within60 N (q + 4) i4 0 (l.length : Int)) rfl (den_let rfl (den_ite rfl (fun h => den_jump rfl rfl (hn _ (hf ?_))) (fun g1 => ?_))))
        · rw [Bool.not_eq_true', ← Bool.decide_and, decide_eq_false_iff_not] at h
          omega
        rw [Bool.not_eq_false', ← Bool.decide_and, decide_eq_true_eq] at g1
        simp only [List.cons_append, List.nil_append]
        refine den_call rfl (within60 N (q + 4) i5 0 2) rfl (den_let rfl (den_ite rfl (fun h => den_jump rfl rfl (hn _ (hf ?_))) (fun g2 => ?_)))
        · rw [Bool.not_eq_true', ← Bool.decide_and, decide_eq_false_iff_not] at h
          omega
        rw [Bool.not_eq_false', ← Bool.decide_and, decide_eq_true_eq] at g2
        simp only [List.cons_append, List.nil_append]
        refine den_call rfl (within60 N (q + 4) i7 0 20) rfl (den_let rfl (den_ite rfl (fun h => den_jump rfl rfl (hn _ (hf ?_))) (fun g3 => ?_)))
        · rw [Bool.not_eq_true', ← Bool.decide_and, decide_eq_false_iff_not] at h
          omega
        rw [Bool.not_eq_false', ← Bool.decide_and, decide_eq_true_eq] at g3
        simp only [List.cons_append, List.nil_append]
        refine den_let rfl (den_let rfl (den_ite rfl (fun h => den_jump rfl rfl (hn _ (hf ?_))) (fun g4 => ?_)))
        · have h : ¬ (v.length : Int) = s := by simpa using h
          omega
        have g4 : (v.length : Int) = s := by simpa using g4
        simp only [List.cons_append, List.nil_append]
        refine den_let rfl (den_let rfl (den_ite rfl (fun h => den_jump rfl rfl (hn _ (hf ?_))) (fun g5 => ?_)))
        · have h : ¬ (n.length : Int) = s := by simpa using h
          omega
        have g5 : (n.length : Int) = s := by simpa using g5
        simp only [List.cons_append, List.nil_append]
        refine den_let rfl (den_let rfl (den_jump rfl rfl (hn _ ?_)))
        show (!((m.length : Int) == s)) = _
        unfold rng2
        rw [beq_dec, Bool.not_inj_iff, decide_eq_decide]
        omega
  · have hn : ∀ (g : Bool), g = (!rng1 i0 i1 i2 i6 s l.length) → J [B g] = some [B (nodeOk i0 i1 i2 l i4 i5 i6 i7 v n m s)] := by
      intro g hg
      rw [hJ g (fun h => by rw [h] at hg; simpa using hg.symm), hg]
      unfold nodeOk
      cases rng1 i0 i1 i2 i6 s l.length <;> simp
    have hf : ¬ (1 ≤ s ∧ s ≤ 5 ∧ 0 ≤ i0 ∧ i0 < s ∧ 0 ≤ i1 ∧ i1 ≤ 100000 ∧ -1 ≤ i2 ∧ i2 ≤ s - 1 ∧ -1 ≤ i6 ∧ i6 ≤ s - 1 ∧ (l.length : Int) ≤ 400) → true = (!rng1 i0 i1 i2 i6 s l.length) := by
      intro h
      unfold rng1
      rw [decide_eq_false h]; rfl
    refine den_call rfl (server59 N (q + 3) i0 s) rfl (den_let rfl (den_ite rfl (fun h => den_jump rfl rfl (hn _ (hf ?_))) (fun h1 => ?_)))
    · simp only [Bool.not_eq_true', decide_eq_false_iff_not] at h
      omega
    simp only [Bool.not_eq_false', decide_eq_true_eq] at h1
    have hw : IntKind.i64.wrap (s - 1) = s - 1 := wrap_id (by omega) (by omega)
    simp only [List.cons_append, List.nil_append]
    refine den_call rfl (within60 N (q + 4) i1 0 100000) rfl (den_let rfl (den_ite rfl (fun h => den_jump rfl rfl (hn _ (hf ?_))) (fun h2 => ?_)))
    · rw [Bool.not_eq_true', ← Bool.decide_and, decide_eq_false_iff_not] at h
      omega
    rw [Bool.not_eq_false', ← Bool.decide_and, decide_eq_true_eq] at h2
    simp only [List.cons_append, List.nil_append]
    refine den_let rfl (den_call rfl (within60 N (q + 4) i2 (-1) _) rfl (den_let rfl (den_ite rfl (fun h => den_jump rfl rfl (hn _ (hf ?_))) (fun h3 => ?_))))
    · rw [hw, Bool.not_eq_true', ← Bool.decide_and, decide_eq_false_iff_not] at h
      omega
    rw [hw, Bool.not_eq_false', ← Bool.decide_and, decide_eq_true_eq] at h3
    simp only [List.cons_append, List.nil_append]
    refine den_let rfl (den_call rfl (within60 N (q + 4) i6 (-1) _) rfl (den_let rfl (den_ite rfl (fun h => den_jump rfl rfl (hn _ (hf ?_))) (fun h4 => ?_))))
    · rw [hw, Bool.not_eq_true', ← Bool.decide_and, decide_eq_false_iff_not] at h
      omega
    rw [hw, Bool.not_eq_false', ← Bool.decide_and, decide_eq_true_eq] at h4
    simp only [List.cons_append, List.nil_append]
    refine den_let rfl (den_let rfl (den_jump rfl rfl (hn _ ?_)))
    show decide ((l.length : Int) > 400) = _
    unfold rng1
    rw [← decide_not, decide_eq_decide]
    omega

end Go.Proofs.Ytecleaangfcloaa.Vp
