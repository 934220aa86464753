/- What is asked of keys, operations and commands, by the program and by the reference, is one. Lemmas alone, no statement. -/
import Derived.Test.YtecleaangfcloabVtFnExactSnapOk
import Derived.Test.YtecleaangfcloabVmTse
import Derived.Laws.Strings
namespace Go.Proofs.Ytecleaangfcloab.VtFnExactSnapOk
set_option linter.unusedVariables false
set_option linter.unusedSimpArgs false
open Go Go.Vm
abbrev OTy : Ty := .pair (.int .i64) (.pair (.sl (.int .u8)) (.pair (.sl (.int .u8)) (.pair (.int .i64) .unit)))
abbrev CTy : Ty := .pair (.int .i64) (.pair (.int .i64) OTy)
theorem within60 (N k : Nat) (a lo hi : Int) : Lv N (k + 1) 41 [I a, I lo, I hi] = some [B (decide (lo ≤ a) && decide (a ≤ hi))] := by
  refine level_den rfl rfl ?_ rfl
  unfold ir41
  refine den_let rfl (den_ite rfl (fun h1 => den_let rfl (den_ret rfl ?_)) (fun h1 => den_ret rfl ?_))
  · rw [h1]; rfl
  · rw [h1]; rfl
/-- A letter, or a stroke. -/
def good (c : Int) : Bool := if c < 97 then decide (c = 47) else if c > 122 then decide (c = 47) else true
def keyOk (l : List Int) : Bool := l.all good && (decide (1 ≤ (l.length : Int)) && decide ((l.length : Int) ≤ 20))
theorem drop_all {l : List Int} {i : Int} (h0 : 0 ≤ i) (h : i.toNat < l.length) : (l.drop i.toNat).all good = (good l[i.toNat] && (l.drop (i + 1).toNat).all good) := by
  rw [show (i + 1).toNat = i.toNat + 1 by omega, List.drop_eq_getElem_cons h, List.all_cons]
set_option maxHeartbeats 4000000 in
theorem key152 (N k : Nat) (l : List Int) (hN : big ≤ N) (hm : l.length < big) : Lv N (k + 2) 60 [S (.int .u8) l] = some [B (keyOk l)] := by
  refine level_den rfl rfl ?_ rfl
  unfold ir60
  refine den_let rfl (den_loop (den_jump rfl rfl ?_))
  refine rounds_ind (α := Int) (enc := fun i => [B false, I i]) (ans := fun i => some [B ((l.drop i.toNat).all good && (decide (1 ≤ (l.length : Int)) && decide ((l.length : Int) ≤ 20)))]) (meas := fun i => l.length - i.toNat) (Q := fun i => 0 ≤ i ∧ i ≤ l.length) (fun J i hi hJ => ?_) N 0 (by omega) (by simp; omega)
  refine den_let rfl (den_ite rfl (fun h => ?_) (fun h => ?_))
  · have h : i < l.length := by simpa using h
    have hlt : i.toNat < l.length := by omega
    have hnext : ∀ (b : Bool), good l[i.toNat] = true → J [B b, I (IntKind.i64.wrap (i + 1))] = some [B ((l.drop i.toNat).all good && (decide (1 ≤ (l.length : Int)) && decide ((l.length : Int) ≤ 20)))] ∨ b = true := by
      intro b hg
      cases b
      · refine .inl ?_
        rw [up hi.1 hi.2 hm, drop_all hi.1 hlt, hg, Bool.true_and]
        exact hJ (i + 1) (by omega) (by omega)
      · exact .inr rfl
    have hstop : good l[i.toNat] = false → some [B ((l.drop i.toNat).all good && (decide (1 ≤ (l.length : Int)) && decide ((l.length : Int) ≤ 20)))] = some [B false] := by
      intro hg
      rw [drop_all hi.1 hlt, hg]; rfl
    refine den_idx rfl rfl rfl hi.1 (List.getElem?_eq_getElem hlt) (den_let rfl (den_let rfl (den_ite rfl (fun h1 => ?_) (fun h1 => ?_))))
    · have h1 : l[i.toNat] < 97 := by simpa using h1
      refine den_let rfl (den_ite rfl (fun h2 => den_ret rfl ?_) (fun h2 => den_let rfl (den_jump rfl rfl ?_)))
      · exact hstop (by simp only [good, h1, if_true]; simpa using h2)
      · exact (hnext false (by simp only [good, h1, if_true]; simpa using h2)).resolve_right (by simp)
    · have h1 : ¬ l[i.toNat] < 97 := by simpa using h1
      refine den_let rfl (den_ite rfl (fun h2 => ?_) (fun h2 => ?_))
      · have h2 : l[i.toNat] > 122 := by simpa using h2
        refine den_let rfl (den_ite rfl (fun h3 => den_ret rfl ?_) (fun h3 => den_let rfl (den_jump rfl rfl ?_)))
        · exact hstop (by simp only [good, h1, h2, if_true, if_false]; simpa using h3)
        · exact (hnext false (by simp only [good, h1, h2, if_true, if_false]; simpa using h3)).resolve_right (by simp)
      · have h2 : ¬ l[i.toNat] > 122 := by simpa using h2
        exact den_let rfl (den_jump rfl rfl ((hnext false (by simp only [good, h1, h2, if_false])).resolve_right (by simp)))
  · have h : ¬ i < l.length := by simpa using h
    refine den_let rfl (den_call rfl (within60 N k _ 1 20) rfl (den_ret rfl ?_))
    rw [List.drop_of_length_le (by omega)]
    rfl
set_option maxHeartbeats 4000000 in
theorem key136 (N k : Nat) (l : List Int) (hN : big ≤ N) (hm : l.length < big) : Lv N (k + 1) 55 [S (.int .u8) l] = some [B (keyOk l)] := by
  refine level_den rfl rfl ?_ rfl
  unfold ir55
  refine den_let rfl (den_let rfl (den_ite rfl (fun h => den_ret rfl ?_) (fun ha => den_let rfl (den_let rfl (den_ite rfl (fun h => den_ret rfl ?_) (fun hb => ?_))))))
  · have h : (l.length : Int) < 1 := by simpa using h
    unfold keyOk
    rw [decide_eq_false (show ¬ (1 ≤ (l.length : Int)) by omega)]; simp
  · have h : (l.length : Int) > 20 := by simpa using h
    unfold keyOk
    rw [decide_eq_false (show ¬ ((l.length : Int) ≤ 20) by omega)]; simp
  have ha : ¬ (l.length : Int) < 1 := by simpa using ha
  have hb : ¬ (l.length : Int) > 20 := by simpa using hb
  have hk : keyOk l = l.all good := by
    unfold keyOk
    rw [decide_eq_true (show 1 ≤ (l.length : Int) by omega), decide_eq_true (show (l.length : Int) ≤ 20 by omega)]; simp
  rw [hk]
  refine den_loop (den_jump rfl rfl ?_)
  refine rounds_ind (α := Int) (enc := fun i => [B false, I i]) (ans := fun i => some [B ((l.drop i.toNat).all good)]) (meas := fun i => l.length - i.toNat) (Q := fun i => 0 ≤ i ∧ i ≤ l.length) (fun J i hi hJ => ?_) N 0 (by omega) (by simp; omega)
  simp only [List.cons_append, List.nil_append]
  refine den_let rfl (den_let rfl (den_ite rfl (fun h => ?_) (fun h => ?_)))
  · have h : i < l.length := by simpa using h
    have hlt : i.toNat < l.length := by omega
    have hnext : good l[i.toNat] = true → J [B false, I (IntKind.i64.wrap (i + 1))] = some [B ((l.drop i.toNat).all good)] := by
      intro hg
      rw [up hi.1 hi.2 hm, drop_all hi.1 hlt, hg, Bool.true_and]
      exact hJ (i + 1) (by omega) (by omega)
    have hstop : good l[i.toNat] = false → some [B ((l.drop i.toNat).all good)] = some [B false] := by
      intro hg
      rw [drop_all hi.1 hlt, hg]; rfl
    refine den_idx rfl rfl rfl hi.1 (List.getElem?_eq_getElem hlt) (den_let rfl (den_let rfl (den_ite rfl (fun h1 => ?_) (fun h1 => ?_))))
    · have h1 : l[i.toNat] < 97 := by simpa using h1
      refine den_idx rfl rfl rfl hi.1 (List.getElem?_eq_getElem hlt) (den_let rfl (den_let rfl (den_ite rfl (fun h2 => den_ret rfl ?_) (fun h2 => den_let rfl (den_jump rfl rfl ?_)))))
      · exact hstop (by simp only [good, h1, if_true]; simpa using h2)
      · exact hnext (by simp only [good, h1, if_true]; simpa using h2)
    · have h1 : ¬ l[i.toNat] < 97 := by simpa using h1
      simp only [List.cons_append, List.nil_append]
      refine den_idx rfl rfl rfl hi.1 (List.getElem?_eq_getElem hlt) (den_let rfl (den_let rfl (den_ite rfl (fun h2 => ?_) (fun h2 => ?_))))
      · have h2 : l[i.toNat] > 122 := by simpa using h2
        simp only [List.cons_append, List.nil_append]
        refine den_idx rfl rfl rfl hi.1 (List.getElem?_eq_getElem hlt) (den_let rfl (den_let rfl (den_ite rfl (fun h3 => den_ret rfl ?_) (fun h3 => den_let rfl (den_jump rfl rfl ?_)))))
        · exact hstop (by simp only [good, h1, h2, if_true, if_false]; simpa using h3)
        · exact hnext (by simp only [good, h1, h2, if_true, if_false]; simpa using h3)
      · have h2 : ¬ l[i.toNat] > 122 := by simpa using h2
        exact den_let rfl (den_jump rfl rfl (hnext (by simp only [good, h1, h2, if_false])))
  · have h : ¬ i < l.length := by simpa using h
    refine den_ret rfl ?_
    rw [List.drop_of_length_le (by omega)]
    rfl
theorem val134 (N k : Nat) (l : List Int) : Lv N (k + 1) 56 [S (.int .u8) l] = some [B (decide ((l.length : Int) ≤ 20))] := by
  refine level_den rfl rfl ?_ rfl
  unfold ir56
  exact den_let rfl (den_let rfl (den_ret rfl rfl))
theorem val181 (N k : Nat) (l : List Int) : Lv N (k + 1) 61 [S (.int .u8) l] = some [B (decide ((l.length : Int) ≤ 20))] := by
  refine level_den rfl rfl ?_ rfl
  unfold ir61
  exact den_let rfl (den_let rfl (den_ret rfl rfl))
theorem index135 (N k : Nat) (n : Int) : Lv N (k + 1) 54 [I n] = some [B (decide (n ≥ 0) && decide (n ≤ 1000000))] := by
  refine level_den rfl rfl ?_ rfl
  unfold ir54
  refine den_let rfl (den_ite rfl (fun h1 => den_let rfl (den_ret rfl ?_)) (fun h1 => den_ret rfl ?_))
  · rw [h1]; rfl
  · rw [h1]; rfl
/-- What an operation's number must be. -/
def numP (t n : Int) : Bool := if t = 0 ∨ t = 1 ∨ t = 3 then decide (n = 0) else if t = 4 then decide (n ≤ 1) else if t = 2 then true else decide (n ≥ 1)
def nkP (t : Int) : Bool := decide (t = 1 ∨ t = 2 ∨ t = 3 ∨ t = 6 ∨ t = 7)
def nvP (t : Int) : Bool := decide (t = 1 ∨ t = 2 ∨ t = 6)
def rngP (t n : Int) (v : List Int) : Bool := decide (0 ≤ t ∧ t ≤ 7 ∧ (v.length : Int) ≤ 20 ∧ 0 ≤ n ∧ n ≤ 1000000)
def opOk (t : Int) (k v : List Int) (n : Int) : Bool := rngP t n v && ((if nkP t then keyOk k else decide ((k.length : Int) = 0)) && ((nvP t || decide ((v.length : Int) = 0)) && numP t n))
theorem beq_dec (a b : Int) : (a == b) = decide (a = b) := by by_cases h : a = b <;> simp [h]
theorem someB {a b : Bool} (h : a = b) : (some [B a] : Option (List Dy)) = some [⟨.bool, b⟩] := by rw [h]
set_option maxHeartbeats 4000000 in
theorem op70 (N q : Nat) (t : Int) (k v : List Int) (n : Int) (hN : big ≤ N) (hk : k.length < big) : Lv N (q + 2) 135 [⟨OTy, (t, k, v, n, ())⟩] = some [B (opOk t k v n)] := by
  refine level_den rfl rfl ?_ rfl
  unfold ir135
  refine den_let rfl ?_
  simp only [List.cons_append, List.nil_append]
  refine den_joinB (fun b => some [B (if b then false else (if nkP t then keyOk k else decide ((k.length : Int) = 0)) && ((nvP t || decide ((v.length : Int) = 0)) && numP t n))]) (fun b => ?_) (fun J hJ => ?_)
  · simp only [List.cons_append, List.nil_append]
    refine den_ite rfl (fun h => den_ret rfl (by rw [h]; rfl)) (fun h => ?_)
    rw [h]
    simp only [Bool.false_eq_true, if_false]
    refine den_joinB (fun b => some [B ((if b then keyOk k else decide ((k.length : Int) = 0)) && ((nvP t || decide ((v.length : Int) = 0)) && numP t n))]) (fun b => ?_) (fun J hJ => ?_)
    · simp only [List.cons_append, List.nil_append]
      refine den_joinB (fun c => some [B (if c then false else (nvP t || decide ((v.length : Int) = 0)) && numP t n)]) (fun c => ?_) (fun J hJ => ?_)
      · simp only [List.cons_append, List.nil_append]
        refine den_ite rfl (fun h => den_ret rfl (by rw [h]; rfl)) (fun h => ?_)
        rw [h]
        simp only [Bool.false_eq_true, if_false]
        refine den_joinB (fun c => some [B ((c || decide ((v.length : Int) = 0)) && numP t n)]) (fun c => ?_) (fun J hJ => ?_)
        · simp only [List.cons_append, List.nil_append]
          refine den_joinB (fun e => some [B (if e then false else numP t n)]) (fun e => ?_) (fun J hJ => ?_)
          · simp only [List.cons_append, List.nil_append]
            refine den_ite rfl (fun h => den_ret rfl (by rw [h]; rfl)) (fun h => ?_)
            rw [h]
            simp only [Bool.false_eq_true, if_false]
            refine den_joinB (fun g => some [B (if g then decide (n = 0) else if t = 4 then decide (n ≤ 1) else if t = 2 then true else decide (n ≥ 1))]) (fun g => ?_) (fun J hJ => ?_)
            · simp only [List.cons_append, List.nil_append]
              refine den_ite rfl (fun h => den_let rfl (den_ret rfl (by rw [h]; rfl))) (fun h => ?_)
              rw [h]
              simp only [Bool.false_eq_true, if_false]
              refine den_let rfl (den_ite rfl (fun h => den_let rfl (den_ret rfl ?_)) (fun h => den_let rfl (den_ite rfl (fun h2 => den_ret rfl ?_) (fun h2 => den_let rfl (den_ret rfl ?_)))))
              · rw [if_pos (by simpa using h)]
              · rw [if_neg (by simpa using h), if_pos (by simpa using h2)]
              · rw [if_neg (by simpa using h), if_neg (by simpa using h2)]
            · have hn : ∀ (g : Bool), g = decide (t = 0 ∨ t = 1 ∨ t = 3) → J [⟨.bool, g⟩] = some [B (numP t n)] := by
                intro g hg
                rw [hJ, hg]
                unfold numP
                by_cases hd : t = 0 ∨ t = 1 ∨ t = 3 <;> simp [hd]
              refine den_let rfl (den_ite rfl (fun h => den_jump rfl rfl (hn _ ?_)) (fun h => den_let rfl (den_ite rfl (fun h2 => den_jump rfl rfl (hn _ ?_)) (fun h2 => den_let rfl (den_jump rfl rfl (hn _ ?_))))))
              · have h' : t = 0 := by simpa using h
                simp [h']
              · have h' : t = 1 := by simpa using h2
                simp [h']
              · have h' : ¬ t = 0 := by simpa using h
                have h2' : ¬ t = 1 := by simpa using h2
                show decide (t = 3) = _
                simp [h', h2']
          · refine den_let rfl (den_ite rfl (fun h => ?_) (fun h => ?_))
            · have hc : c = false := by cases c <;> simp_all
              subst hc
              refine den_let rfl (den_let rfl (den_jump rfl rfl ?_))
              rw [hJ]
              by_cases hv : (v.length : Int) = 0
              · have : ¬ (v.length : Int) > 0 := by omega
                simp [hv]
              · have : (v.length : Int) > 0 := by omega
                simp only [decide_eq_true this, if_true, Bool.false_or, decide_eq_false hv, Bool.false_and]
            · have hc : c = true := by cases c <;> simp_all
              subst hc
              refine den_jump rfl rfl ?_
              rw [hJ]; simp
        · have hn : ∀ (g : Bool), g = nvP t → J [⟨.bool, g⟩] = some [B ((nvP t || decide ((v.length : Int) = 0)) && numP t n)] := by
            intro g hg
            rw [hJ, hg]
          refine den_let rfl (den_ite rfl (fun h => den_jump rfl rfl (hn _ ?_)) (fun h => den_let rfl (den_ite rfl (fun h2 => den_jump rfl rfl (hn _ ?_)) (fun h2 => den_let rfl (den_jump rfl rfl (hn _ ?_))))))
          · have h' : t = 1 := by simpa using h
            simp [nvP, h']
          · have h' : t = 2 := by simpa using h2
            simp [nvP, h']
          · have h' : ¬ t = 1 := by simpa using h
            have h2' : ¬ t = 2 := by simpa using h2
            show decide (t = 6) = _
            simp [nvP, h', h2']
      · refine den_ite rfl (fun h => ?_) (fun h => ?_)
        · rw [h]
          refine den_call rfl (key136 N q k hN hk) rfl (den_let rfl (den_ite rfl (fun h2 => den_jump rfl rfl ?_) (fun h2 => ?_)))
          · have h2 : keyOk k = false := by simpa using h2
            rw [hJ]; simp [h2]
          · have h2 : keyOk k = true := by simpa using h2
            refine den_let rfl (den_ite rfl (fun h3 => ?_) (fun h3 => den_jump rfl rfl ?_))
            · simp at h3
            · rw [hJ]; simp [h2]
        · rw [h]
          refine den_let rfl (den_ite rfl (fun h2 => ?_) (fun h2 => ?_))
          · refine den_let rfl (den_let rfl (den_jump rfl rfl ?_))
            rw [hJ]
            by_cases hv : (k.length : Int) = 0
            · simp [hv]
            · have : (k.length : Int) > 0 := by omega
              simp only [decide_eq_true this, if_true, Bool.false_eq_true, if_false, decide_eq_false hv, Bool.false_and]
          · simp at h2
    · have hn : ∀ (g : Bool), g = nkP t → J [⟨.bool, g⟩] = some [B ((if nkP t then keyOk k else decide ((k.length : Int) = 0)) && ((nvP t || decide ((v.length : Int) = 0)) && numP t n))] := by
        intro g hg
        rw [hJ, hg]
      refine den_let rfl (den_ite rfl (fun h => den_jump rfl rfl (hn _ ?_)) (fun h => den_let rfl (den_ite rfl (fun h2 => den_jump rfl rfl (hn _ ?_)) (fun h2 => ?_))))
      · have h' : t = 1 := by simpa using h
        simp [nkP, h']
      · have h' : t = 2 := by simpa using h2
        simp [nkP, h']
      have h1' : ¬ t = 1 := by simpa using h
      have h2' : ¬ t = 2 := by simpa using h2
      refine den_let rfl (den_ite rfl (fun h => den_jump rfl rfl (hn _ ?_)) (fun h => den_let rfl (den_ite rfl (fun h2 => den_jump rfl rfl (hn _ ?_)) (fun h2 => den_let rfl (den_jump rfl rfl (hn _ ?_))))))
      · have h' : t = 3 := by simpa using h
        simp [nkP, h']
      · have h' : t = 6 := by simpa using h2
        simp [nkP, h']
      · have h3' : ¬ t = 3 := by simpa using h
        have h4' : ¬ t = 6 := by simpa using h2
        show decide (t = 7) = _
        simp [nkP, h1', h2', h3', h4']
  · have hn : ∀ (g : Bool), g = (!rngP t n v) → J [⟨.bool, g⟩] = some [B (opOk t k v n)] := by
      intro g hg
      rw [hJ, hg]
      unfold opOk
      cases rngP t n v <;> simp
    refine den_let rfl (den_ite rfl (fun h => den_jump rfl rfl (hn _ ?_)) (fun h => den_let rfl (den_ite rfl (fun h2 => den_jump rfl rfl (hn _ ?_)) (fun h2 => ?_))))
    · have h' : t < 0 := by simpa using h
      have : ¬ 0 ≤ t := by omega
      simp [rngP, this]
    · have h' : t > 7 := by simpa using h2
      have : ¬ t ≤ 7 := by omega
      simp [rngP, this]
    have h1' : 0 ≤ t := by simpa using h
    have h2' : t ≤ 7 := by simpa using h2
    refine den_call rfl (val134 N q v) rfl (den_let rfl (den_ite rfl (fun h => den_jump rfl rfl (hn _ ?_)) (fun h => ?_)))
    · have h' : ¬ (v.length : Int) ≤ 20 := by simpa using h
      simp [rngP, h']
    have h3' : (v.length : Int) ≤ 20 := by simpa using h
    refine den_call rfl (index135 N q n) rfl (den_let rfl (den_jump rfl rfl (hn _ ?_)))
    show (!(decide (n ≥ 0) && decide (n ≤ 1000000))) = _
    simp [rngP, h1', h2', h3']
set_option maxHeartbeats 4000000 in
theorem op129 (N q : Nat) (t : Int) (k v : List Int) (n : Int) (hN : big ≤ N) (hk : k.length < big) : Lv N (q + 3) 144 [⟨OTy, (t, k, v, n, ())⟩] = some [B (opOk t k v n)] := by
  refine level_den rfl rfl ?_ rfl
  unfold ir144
  refine den_let rfl ?_
  simp only [List.cons_append, List.nil_append]
  refine den_joinA (α := Bool × Bool × Int × Int) (fun p => [B false, B p.1, B p.2.1, I p.2.2.1, I p.2.2.2])
    (fun p => some [B ((decide (p.2.2.1 ≤ n) && decide (n ≤ p.2.2.2)) && ((if p.1 then keyOk k else decide ((k.length : Int) = 0)) && (if p.2.1 then decide ((v.length : Int) ≤ 20) else decide ((v.length : Int) = 0))))]) ?_ (fun J hJ => ?_)
  · rintro ⟨nk, nv, lo, hi⟩
    simp only [List.cons_append, List.nil_append]
    refine den_call rfl (within60 N (q + 1) n lo hi) rfl (den_ite rfl (fun h1 => ?_) (fun h1 => den_ret rfl (someB (by rw [h1]; rfl))))
    rw [h1, Bool.true_and]
    simp only [List.cons_append, List.nil_append]
    cases nk <;> cases nv
    · refine den_ite rfl (fun h => by cases h) (fun _ => den_let rfl (den_ite rfl (fun _ => den_let rfl (den_let rfl (den_ite rfl (fun h => ?_) (fun h => den_ret rfl (someB ?_))))) (fun h => by cases h)))
      · refine den_ite rfl (fun h => by cases h) (fun _ => den_let rfl (den_ite rfl (fun _ => den_let rfl (den_let rfl (den_ret rfl (someB ?_)))) (fun h => by cases h)))
        have h : (k.length : Int) = 0 := by simpa using h
        simp only [Bool.false_eq_true, if_false, decide_eq_true h, Bool.true_and]
        exact (beq_dec _ _).symm
      · have h : ¬ (k.length : Int) = 0 := by simpa using h
        simp only [Bool.false_eq_true, if_false, decide_eq_false h, Bool.false_and]
    · refine den_ite rfl (fun h => by cases h) (fun _ => den_let rfl (den_ite rfl (fun _ => den_let rfl (den_let rfl (den_ite rfl (fun h => ?_) (fun h => den_ret rfl (someB ?_))))) (fun h => by cases h)))
      · refine den_ite rfl (fun _ => den_call rfl (val181 N (q + 1) v) rfl (den_ite rfl (fun h2 => den_ret rfl (someB ?_)) (fun h2 => den_let rfl (den_ite rfl (fun h => by cases h) (fun _ => den_ret rfl (someB ?_)))))) (fun h => by cases h)
        · have h : (k.length : Int) = 0 := by simpa using h
          simp [h, h2]
        · simp only [if_true, h2, Bool.and_false]
      · have h : ¬ (k.length : Int) = 0 := by simpa using h
        simp only [Bool.false_eq_true, if_false, decide_eq_false h, Bool.false_and]
    · refine den_ite rfl (fun _ => den_call rfl (key152 N q k hN hk) rfl (den_ite rfl (fun h => ?_) (fun h => den_let rfl (den_ite rfl (fun h => by cases h) (fun _ => den_ret rfl (someB ?_)))))) (fun h => by cases h)
      · refine den_ite rfl (fun h => by cases h) (fun _ => den_let rfl (den_ite rfl (fun _ => den_let rfl (den_let rfl (den_ret rfl (someB ?_)))) (fun h => by cases h)))
        simp only [if_true, h, Bool.true_and, Bool.false_eq_true, if_false]
        exact (beq_dec _ _).symm
      · simp only [if_true, h, Bool.false_and]
    · refine den_ite rfl (fun _ => den_call rfl (key152 N q k hN hk) rfl (den_ite rfl (fun h => ?_) (fun h => den_let rfl (den_ite rfl (fun h => by cases h) (fun _ => den_ret rfl (someB ?_)))))) (fun h => by cases h)
      · refine den_ite rfl (fun _ => den_call rfl (val181 N (q + 1) v) rfl (den_ite rfl (fun h2 => den_ret rfl (someB ?_)) (fun h2 => den_let rfl (den_ite rfl (fun h => by cases h) (fun _ => den_ret rfl (someB ?_)))))) (fun h => by cases h)
        · simp only [if_true, h, h2, Bool.true_and]
        · simp only [if_true, h2, Bool.and_false]
      · simp only [if_true, h, Bool.false_and]
  · have hj : ∀ (nk nv : Bool) (lo hi : Int), ((decide (lo ≤ n) && decide (n ≤ hi)) && ((if nk then keyOk k else decide ((k.length : Int) = 0)) && (if nv then decide ((v.length : Int) ≤ 20) else decide ((v.length : Int) = 0)))) = opOk t k v n →
        J [B false, B nk, B nv, I lo, I hi] = some [B (opOk t k v n)] := fun nk nv lo hi h => by rw [hJ (nk, nv, lo, hi), h]
    have hE : ∀ (nk nv : Bool) (lo hi : Int), nkP t = nk → nvP t = nv → (decide (lo ≤ n) && decide (n ≤ hi)) = (decide (0 ≤ n ∧ n ≤ 1000000) && numP t n) → 0 ≤ t → t ≤ 7 →
        ((decide (lo ≤ n) && decide (n ≤ hi)) && ((if nk then keyOk k else decide ((k.length : Int) = 0)) && (if nv then decide ((v.length : Int) ≤ 20) else decide ((v.length : Int) = 0)))) = opOk t k v n := by
      rintro nk nv lo hi rfl rfl h3 h4 h5
      rw [h3]
      have hr : rngP t n v = (decide ((v.length : Int) ≤ 20) && decide (0 ≤ n ∧ n ≤ 1000000)) := by
        unfold rngP
        simp only [h4, h5, true_and, Bool.decide_and]
      have hz : decide ((v.length : Int) = 0) = true → decide ((v.length : Int) ≤ 20) = true := by
        intro h
        have := of_decide_eq_true h
        exact decide_eq_true (by omega)
      unfold opOk
      rw [hr]
      generalize (if nkP t = true then keyOk k else decide ((k.length : Int) = 0)) = K
      generalize nvP t = nv
      generalize numP t n = M
      generalize decide ((v.length : Int) = 0) = z at *
      generalize decide ((v.length : Int) ≤ 20) = y at *
      generalize decide (0 ≤ n ∧ n ≤ 1000000) = w
      cases K <;> cases nv <;> cases M <;> cases z <;> cases y <;> cases w <;> simp_all
    refine den_let rfl (den_ite rfl (fun h => den_jump rfl rfl (hj false false 0 0 (hE false false 0 0 ?_ ?_ ?_ ?_ ?_))) (fun h0 => ?_))
    · have h : t = 0 := by simpa using h
      subst h; rfl
    · have h : t = 0 := by simpa using h
      subst h; rfl
    · have h : t = 0 := by simpa using h
      subst h
      rw [Bool.eq_iff_iff]
      simp [numP]
      try omega
    · have h : t = 0 := by simpa using h
      omega
    · have h : t = 0 := by simpa using h
      omega
    have h0 : ¬ t = 0 := by simpa using h0
    simp only [List.cons_append, List.nil_append]
    refine den_let rfl (den_ite rfl (fun h => den_jump rfl rfl (hj true true 0 0 (hE true true 0 0 ?_ ?_ ?_ ?_ ?_))) (fun h1 => ?_))
    · have h : t = 1 := by simpa using h
      subst h; rfl
    · have h : t = 1 := by simpa using h
      subst h; rfl
    · have h : t = 1 := by simpa using h
      subst h
      rw [Bool.eq_iff_iff]
      simp [numP]
      try omega
    · have h : t = 1 := by simpa using h
      omega
    · have h : t = 1 := by simpa using h
      omega
    have h1 : ¬ t = 1 := by simpa using h1
    simp only [List.cons_append, List.nil_append]
    refine den_let rfl (den_ite rfl (fun h => den_jump rfl rfl (hj true true 0 1000000 (hE true true 0 1000000 ?_ ?_ ?_ ?_ ?_))) (fun h2 => ?_))
    · have h : t = 2 := by simpa using h
      subst h; rfl
    · have h : t = 2 := by simpa using h
      subst h; rfl
    · have h : t = 2 := by simpa using h
      subst h
      rw [Bool.eq_iff_iff]
      simp [numP]
      try omega
    · have h : t = 2 := by simpa using h
      omega
    · have h : t = 2 := by simpa using h
      omega
    have h2 : ¬ t = 2 := by simpa using h2
    simp only [List.cons_append, List.nil_append]
    refine den_let rfl (den_ite rfl (fun h => den_jump rfl rfl (hj true false 0 0 (hE true false 0 0 ?_ ?_ ?_ ?_ ?_))) (fun h3 => ?_))
    · have h : t = 3 := by simpa using h
      subst h; rfl
    · have h : t = 3 := by simpa using h
      subst h; rfl
    · have h : t = 3 := by simpa using h
      subst h
      rw [Bool.eq_iff_iff]
      simp [numP]
      try omega
    · have h : t = 3 := by simpa using h
      omega
    · have h : t = 3 := by simpa using h
      omega
    have h3 : ¬ t = 3 := by simpa using h3
    simp only [List.cons_append, List.nil_append]
    refine den_let rfl (den_ite rfl (fun h => den_jump rfl rfl (hj false false 0 1 (hE false false 0 1 ?_ ?_ ?_ ?_ ?_))) (fun h4 => ?_))
    · have h : t = 4 := by simpa using h
      subst h; rfl
    · have h : t = 4 := by simpa using h
      subst h; rfl
    · have h : t = 4 := by simpa using h
      subst h
      rw [Bool.eq_iff_iff]
      simp [numP]
      try omega
    · have h : t = 4 := by simpa using h
      omega
    · have h : t = 4 := by simpa using h
      omega
    have h4 : ¬ t = 4 := by simpa using h4
    simp only [List.cons_append, List.nil_append]
    refine den_let rfl (den_ite rfl (fun h => den_jump rfl rfl (hj false false 1 1000000 (hE false false 1 1000000 ?_ ?_ ?_ ?_ ?_))) (fun h5 => ?_))
    · have h : t = 5 := by simpa using h
      subst h; rfl
    · have h : t = 5 := by simpa using h
      subst h; rfl
    · have h : t = 5 := by simpa using h
      subst h
      rw [Bool.eq_iff_iff]
      simp [numP]
      try omega
    · have h : t = 5 := by simpa using h
      omega
    · have h : t = 5 := by simpa using h
      omega
    have h5 : ¬ t = 5 := by simpa using h5
    simp only [List.cons_append, List.nil_append]
    refine den_let rfl (den_ite rfl (fun h => den_jump rfl rfl (hj true true 1 1000000 (hE true true 1 1000000 ?_ ?_ ?_ ?_ ?_))) (fun h6 => ?_))
    · have h : t = 6 := by simpa using h
      subst h; rfl
    · have h : t = 6 := by simpa using h
      subst h; rfl
    · have h : t = 6 := by simpa using h
      subst h
      rw [Bool.eq_iff_iff]
      simp [numP]
      try omega
    · have h : t = 6 := by simpa using h
      omega
    · have h : t = 6 := by simpa using h
      omega
    have h6 : ¬ t = 6 := by simpa using h6
    simp only [List.cons_append, List.nil_append]
    refine den_let rfl (den_ite rfl (fun h => den_jump rfl rfl (hj true false 1 1000000 (hE true false 1 1000000 ?_ ?_ ?_ ?_ ?_))) (fun h7 => ?_))
    · have h : t = 7 := by simpa using h
      subst h; rfl
    · have h : t = 7 := by simpa using h
      subst h; rfl
    · have h : t = 7 := by simpa using h
      subst h
      rw [Bool.eq_iff_iff]
      simp [numP]
      try omega
    · have h : t = 7 := by simpa using h
      omega
    · have h : t = 7 := by simpa using h
      omega
    have h7 : ¬ t = 7 := by simpa using h7
    simp only [List.cons_append, List.nil_append]
    refine den_ret rfl (someB ?_)
    have hr : rngP t n v = false := by
      unfold rngP
      rw [decide_eq_false_iff_not]
      omega
    unfold opOk
    rw [hr, Bool.false_and]

theorem equal199 (N k : Nat) (l : List Int) : Lv N (k + 1) 69 [S (.int .u8) l, S (.int .u8) []] = some [B (decide ((l.length : Int) = 0))] := by
  refine level_den rfl rfl ?_ rfl
  unfold ir69
  refine den_let rfl (den_let rfl (den_let rfl (den_ret rfl (someB ?_))))
  cases l with
  | nil => simp
  | cons x l =>
    rw [decide_eq_false (by simp; omega)]
    symm
    rw [beq_eq_false_iff_ne]
    intro h
    rw [ByteArray.toList_eq, ByteArray.toList_eq] at h
    simp at h
def cmdOk (c r t : Int) (k v : List Int) (n : Int) : Bool := if c = -1 then decide (r = 0) && (decide (t = 0) && opOk t k v n) else (decide (0 ≤ c) && decide (c ≤ 3)) && ((decide (1 ≤ r) && decide (r ≤ 1000000)) && opOk t k v n)
theorem cmd18 (N q : Nat) (c r t : Int) (k v : List Int) (n : Int) (hN : big ≤ N) (hk : k.length < big) : Lv N (q + 3) 76 [⟨CTy, (c, r, t, k, v, n, ())⟩] = some [B (cmdOk c r t k v n)] := by
  refine level_den rfl rfl ?_ rfl
  unfold ir76 cmdOk
  refine den_let rfl (den_let rfl (den_ite rfl (fun h => ?_) (fun h => ?_)))
  · have h : c = -1 := by simpa using h
    rw [if_pos h]
    simp only [List.cons_append, List.nil_append]
    refine den_let rfl (den_ite rfl (fun h1 => den_let rfl (den_ite rfl (fun h2 => ?_) (fun h2 => den_ret rfl (someB ?_)))) (fun h1 => den_ret rfl (someB ?_)))
    · have h1 : r = 0 := by simpa using h1
      have h2 : t = 0 := by simpa using h2
      refine den_let rfl (den_call rfl (op70 N q t k v n hN hk) rfl (den_ret rfl (someB ?_)))
      simp [h1, h2]
    · have h2 : ¬ t = 0 := by simpa using h2
      simp [h2]
    · have h1 : ¬ r = 0 := by simpa using h1
      simp [h1]
  · have h : ¬ c = -1 := by simpa using h
    rw [if_neg h]
    simp only [List.cons_append, List.nil_append]
    refine den_let rfl (den_ite rfl (fun h1 => den_let rfl (den_ite rfl (fun h2 => ?_) (fun h2 => den_ret rfl (someB ?_)))) (fun h1 => den_ret rfl (someB ?_)))
    · have h1 : 0 ≤ c := by simpa using h1
      have h2 : c < 4 := by simpa using h2
      simp only [List.cons_append, List.nil_append]
      refine den_let rfl (den_ite rfl (fun h3 => den_let rfl (den_ite rfl (fun h4 => ?_) (fun h4 => den_ret rfl (someB ?_)))) (fun h3 => den_ret rfl (someB ?_)))
      · have h3 : 1 ≤ r := by simpa using h3
        have h4 : r ≤ 1000000 := by simpa using h4
        refine den_let rfl (den_call rfl (op70 N q t k v n hN hk) rfl (den_ret rfl (someB ?_)))
        rw [decide_eq_true h1, decide_eq_true (show c ≤ 3 by omega), decide_eq_true h3, decide_eq_true h4]; rfl
      · have h4 : ¬ r ≤ 1000000 := by simpa using h4
        rw [decide_eq_false h4]; simp
      · have h3 : ¬ 1 ≤ r := by simpa using h3
        rw [decide_eq_false h3]; simp
    · have h2 : ¬ c < 4 := by simpa using h2
      rw [decide_eq_false (show ¬ c ≤ 3 by omega)]; simp
    · have h1 : ¬ 0 ≤ c := by simpa using h1
      rw [decide_eq_false h1]; simp
theorem no128 (N k : Nat) : Lv N (k + 1) 143 [] = some [⟨CTy, ((-1 : Int), (0 : Int), (0 : Int), ([] : List Int), ([] : List Int), (0 : Int), ())⟩] := by
  refine level_den rfl rfl ?_ rfl
  unfold ir143
  exact den_let rfl (den_let rfl (den_let rfl (den_let rfl (den_ret rfl rfl))))
theorem same180 (N q : Nat) (t : Int) (k v : List Int) (n : Int) : Lv N (q + 2) 165 [⟨OTy, (t, k, v, n, ())⟩, ⟨OTy, ((0 : Int), ([] : List Int), ([] : List Int), (0 : Int), ())⟩] =
    some [B (decide (t = 0) && (decide ((k.length : Int) = 0) && (decide ((v.length : Int) = 0) && decide (n = 0))))] := by
  refine level_den rfl rfl ?_ rfl
  unfold ir165
  refine den_let rfl (den_let rfl (den_let rfl (den_ite rfl (fun h1 => den_call rfl (equal199 N q k) rfl (den_ite rfl (fun h2 => den_call rfl (equal199 N q v) rfl (den_ite rfl (fun h3 => den_let rfl (den_ret rfl (someB ?_))) (fun h3 => den_ret rfl (someB ?_)))) (fun h2 => den_ret rfl (someB ?_)))) (fun h1 => den_ret rfl (someB ?_)))))
  · have h1 : t = 0 := by simpa using h1
    rw [decide_eq_true h1, h2, h3, Bool.true_and, Bool.true_and, Bool.true_and]
    exact (beq_dec _ _).symm
  · rw [h3]; simp
  · rw [h2]; simp
  · have h1 : ¬ t = 0 := by simpa using h1
    rw [decide_eq_false h1]; simp
theorem same127 (N q : Nat) (c r t : Int) (k v : List Int) (n : Int) : Lv N (q + 3) 142 [⟨CTy, (c, r, t, k, v, n, ())⟩, ⟨CTy, ((-1 : Int), (0 : Int), (0 : Int), ([] : List Int), ([] : List Int), (0 : Int), ())⟩] =
    some [B (decide (c = -1) && (decide (r = 0) && (decide (t = 0) && (decide ((k.length : Int) = 0) && (decide ((v.length : Int) = 0) && decide (n = 0))))))] := by
  refine level_den rfl rfl ?_ rfl
  unfold ir142
  refine den_let rfl (den_let rfl (den_let rfl (den_ite rfl (fun h1 => den_let rfl (den_ite rfl (fun h2 => ?_) (fun h2 => den_ret rfl (someB ?_)))) (fun h1 => den_ret rfl (someB ?_)))))
  · have h1 : c = -1 := by simpa using h1
    have h2 : r = 0 := by simpa using h2
    refine den_let rfl (den_let rfl (den_call rfl (same180 N q t k v n) rfl (den_ret rfl (someB ?_))))
    rw [decide_eq_true h1, decide_eq_true h2]; rfl
  · have h2 : ¬ r = 0 := by simpa using h2
    rw [decide_eq_false h2]; simp
  · have h1 : ¬ c = -1 := by simpa using h1
    rw [decide_eq_false h1]; simp
theorem cmd67 (N q : Nat) (c r t : Int) (k v : List Int) (n : Int) (hN : big ≤ N) (hk : k.length < big) : Lv N (q + 4) 81 [⟨CTy, (c, r, t, k, v, n, ())⟩] = some [B (cmdOk c r t k v n)] := by
  refine level_den rfl rfl ?_ rfl
  unfold ir81
  refine den_let rfl (den_let rfl (den_call rfl (no128 N (q + 2)) rfl (den_call rfl (same127 N q c r t k v n) rfl (den_ite rfl (fun h => den_ret rfl (someB ?_)) (fun h => ?_)))))
  · simp only [Bool.and_eq_true, decide_eq_true_eq] at h
    obtain ⟨h1, h2, h3, h4, h5, h6⟩ := h
    unfold cmdOk opOk rngP nkP nvP numP
    subst h3
    have e1 : decide ((0 : Int) = 1 ∨ (0 : Int) = 2 ∨ (0 : Int) = 3 ∨ (0 : Int) = 6 ∨ (0 : Int) = 7) = false := rfl
    have e2 : decide ((0 : Int) = 1 ∨ (0 : Int) = 2 ∨ (0 : Int) = 6) = false := rfl
    rw [if_pos h1, decide_eq_true h2, e1, e2, decide_eq_true h4, decide_eq_true h5]
    subst h6
    have e3 : decide ((0 : Int) ≤ 0 ∧ (0 : Int) ≤ 7 ∧ (v.length : Int) ≤ 20 ∧ (0 : Int) ≤ 0 ∧ (0 : Int) ≤ 1000000) = true := by
      rw [decide_eq_true_eq]; omega
    rw [e3]; rfl
  · simp only [List.cons_append, List.nil_append]
    refine den_call rfl (within60 N (q + 2) c 0 3) rfl (den_ite rfl (fun h1 => den_call rfl (within60 N (q + 2) r 1 1000000) rfl (den_ite rfl (fun h2 => den_let rfl (den_call rfl (op129 N q t k v n hN hk) rfl (den_ret rfl (someB ?_)))) (fun h2 => den_ret rfl (someB ?_)))) (fun h1 => den_ret rfl (someB ?_)))
    · unfold cmdOk
      have hc : ¬ c = -1 := by
        simp only [Bool.and_eq_true, decide_eq_true_eq] at h1
        omega
      rw [if_neg hc, h1, h2]; rfl
    · unfold cmdOk
      have hc : ¬ c = -1 := by
        simp only [Bool.and_eq_true, decide_eq_true_eq] at h1
        omega
      rw [if_neg hc, h1, h2]; rfl
    · unfold cmdOk
      by_cases hc : c = -1
      · rw [if_pos hc]
        by_cases hr : r = 0
        · by_cases ht : t = 0
          · subst ht
            unfold opOk rngP nkP nvP numP
            have e1 : decide ((0 : Int) = 1 ∨ (0 : Int) = 2 ∨ (0 : Int) = 3 ∨ (0 : Int) = 6 ∨ (0 : Int) = 7) = false := rfl
            have e2 : decide ((0 : Int) = 1 ∨ (0 : Int) = 2 ∨ (0 : Int) = 6) = false := rfl
            rw [e1, e2]
            rw [decide_eq_true hc, decide_eq_true hr, decide_eq_true (show (0 : Int) = 0 from rfl), Bool.true_and, Bool.true_and, Bool.true_and] at h
            simp only [Bool.false_eq_true, if_false, Bool.false_or, true_or, if_true]
            rw [h, Bool.and_false, Bool.and_false]
            simp
          · rw [decide_eq_false ht]; simp
        · rw [decide_eq_false hr]; simp
      · rw [if_neg hc, h1]; rfl
end Go.Proofs.Ytecleaangfcloab.VtFnExactSnapOk
