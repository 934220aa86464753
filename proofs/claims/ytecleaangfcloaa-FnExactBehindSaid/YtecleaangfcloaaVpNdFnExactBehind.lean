/- What is asked of a Node, by the program and by the reference, is one. Lemmas alone, no statement. -/
import Derived.Test.YtecleaangfcloaaVtFnExactBehind
import Derived.Test.YtecleaangfcloaaVmTse
import Derived.Laws.Strings
namespace Go.Proofs.Ytecleaangfcloaa.VtFnExactBehind
set_option linter.unusedVariables false
set_option linter.unusedSimpArgs false
open Go Go.Vm
abbrev OTy : Ty := .pair (.int .i64) (.pair (.sl (.int .u8)) (.pair (.sl (.int .u8)) (.pair (.int .i64) .unit)))
abbrev CTy : Ty := .pair (.int .i64) (.pair (.int .i64) OTy)
abbrev ITy : Ty := .pair (.int .i64) CTy
abbrev NTy : Ty := .pair (.int .i64) (.pair (.int .i64) (.pair (.int .i64) (.pair (.sl ITy) (.pair (.int .i64) (.pair (.int .i64) (.pair (.int .i64) (.pair (.int .i64) (.pair (.sl .bool) (.pair (.sl (.int .i64)) (.pair (.sl (.int .i64)) .unit))))))))))
/-- How long a list may be. -/
def big : Nat := 1048577
/-- An item's rows are short. -/
def okI (x : D ITy) : Prop := List.length x.2.2.2.2.1 < big ∧ List.length x.2.2.2.2.2.1 < big
def okN (x : D NTy) : Prop := List.length x.2.2.2.1 < big ∧ (∀ y ∈ (show List (D ITy) from x.2.2.2.1), okI y) ∧ List.length x.2.2.2.2.2.2.2.2.1 < big ∧ List.length x.2.2.2.2.2.2.2.2.2.1 < big ∧ List.length x.2.2.2.2.2.2.2.2.2.2.1 < big
theorem up {i : Int} {n : Nat} (h0 : 0 ≤ i) (h : i ≤ n) (hn : n < big) : IntKind.i64.wrap (i + 1) = i + 1 := by
  unfold big at hn
  exact wrap_id (by omega) (by omega)
theorem within60 (N k : Nat) (a lo hi : Int) : Lv N (k + 1) 60 [I a, I lo, I hi] = some [B (decide (lo ≤ a) && decide (a ≤ hi))] := by
  refine level_den rfl rfl ?_ rfl
  unfold ir60
  refine den_let rfl (den_ite rfl (fun h1 => den_let rfl (den_ret rfl ?_)) (fun h1 => den_ret rfl ?_))
  · rw [h1]; rfl
  · rw [h1]; rfl
/-- A letter, or a stroke. -/
def good (c : Int) : Bool := if c < 97 then decide (c = 47) else if c > 122 then decide (c = 47) else true
def keyOk (l : List Int) : Bool := l.all good && (decide (1 ≤ (l.length : Int)) && decide ((l.length : Int) ≤ 20))
theorem drop_all {l : List Int} {i : Int} (h0 : 0 ≤ i) (h : i.toNat < l.length) : (l.drop i.toNat).all good = (good l[i.toNat] && (l.drop (i + 1).toNat).all good) := by
  rw [show (i + 1).toNat = i.toNat + 1 by omega, List.drop_eq_getElem_cons h, List.all_cons]
set_option maxHeartbeats 4000000 in
theorem key152 (N k : Nat) (l : List Int) (hN : big ≤ N) (hm : l.length < big) : Lv N (k + 2) 152 [S (.int .u8) l] = some [B (keyOk l)] := by
  refine level_den rfl rfl ?_ rfl
  unfold ir152
  refine den_let rfl (den_loop (den_jump rfl rfl ?_))
  refine rounds_ind (α := Int) (enc := fun i => [B false, I i]) (ans := fun i => some [B ((l.drop i.toNat).all good && (decide (1 ≤ (l.length : Int)) && decide ((l.length : Int) ≤ 20)))]) (meas := fun i => l.length - i.toNat) (Q := fun i => 0 ≤ i ∧ i ≤ l.length) (fun J i hi hJ => ?_) N 0 (by omega) (by simp; omega)
  refine den_let rfl (den_ite rfl (fun h => ?_) (fun h => ?_))
  · have h : i < l.length := by simpa using h
    have hlt : i.toNat < l.length := by omega
    have hnext : ∀ (b : Bool), good l[i.toNat] = true → J [B b, I (IntKind.i64.wrap (i + 1))] = some [B ((l.drop i.toNat).all good && (decide (1 ≤ (l.length : Int)) && decide ((l.length : Int) ≤ 20)))] ∨ b = true := by
      intro b hg
      cases b
      · refine .inl ?_
        rw [up hi.1 hi.2 hm, drop_all hi.1 hlt, hg, Bool.true_and]
        exact hJ (i + 1) (by omega) (by omega)
      · exact .inr rfl
    have hstop : good l[i.toNat] = false → some [B ((l.drop i.toNat).all good && (decide (1 ≤ (l.length : Int)) && decide ((l.length : Int) ≤ 20)))] = some [B false] := by
      intro hg
      rw [drop_all hi.1 hlt, hg]; rfl
    refine den_idx rfl rfl rfl hi.1 (List.getElem?_eq_getElem hlt) (den_let rfl (den_let rfl (den_ite rfl (fun h1 => ?_) (fun h1 => ?_))))
    · have h1 : l[i.toNat] < 97 := by simpa using h1
      refine den_let rfl (den_ite rfl (fun h2 => den_ret rfl ?_) (fun h2 => den_let rfl (den_jump rfl rfl ?_)))
      · exact hstop (by simp only [good, h1, if_true]; simpa using h2)
      · exact (hnext false (by simp only [good, h1, if_true]; simpa using h2)).resolve_right (by simp)
    · have h1 : ¬ l[i.toNat] < 97 := by simpa using h1
      refine den_let rfl (den_ite rfl (fun h2 => ?_) (fun h2 => ?_))
      · have h2 : l[i.toNat] > 122 := by simpa using h2
        refine den_let rfl (den_ite rfl (fun h3 => den_ret rfl ?_) (fun h3 => den_let rfl (den_jump rfl rfl ?_)))
        · exact hstop (by simp only [good, h1, h2, if_true, if_false]; simpa using h3)
        · exact (hnext false (by simp only [good, h1, h2, if_true, if_false]; simpa using h3)).resolve_right (by simp)
      · have h2 : ¬ l[i.toNat] > 122 := by simpa using h2
        exact den_let rfl (den_jump rfl rfl ((hnext false (by simp only [good, h1, h2, if_false])).resolve_right (by simp)))
  · have h : ¬ i < l.length := by simpa using h
    refine den_let rfl (den_call rfl (within60 N k _ 1 20) rfl (den_ret rfl ?_))
    rw [List.drop_of_length_le (by omega)]
    rfl
set_option maxHeartbeats 4000000 in
theorem key136 (N k : Nat) (l : List Int) (hN : big ≤ N) (hm : l.length < big) : Lv N (k + 1) 136 [S (.int .u8) l] = some [B (keyOk l)] := by
  refine level_den rfl rfl ?_ rfl
  unfold ir136
  refine den_let rfl (den_let rfl (den_ite rfl (fun h => den_ret rfl ?_) (fun ha => den_let rfl (den_let rfl (den_ite rfl (fun h => den_ret rfl ?_) (fun hb => ?_))))))
  · have h : (l.length : Int) < 1 := by simpa using h
    unfold keyOk
    rw [decide_eq_false (show ¬ (1 ≤ (l.length : Int)) by omega)]; simp
  · have h : (l.length : Int) > 20 := by simpa using h
    unfold keyOk
    rw [decide_eq_false (show ¬ ((l.length : Int) ≤ 20) by omega)]; simp
  have ha : ¬ (l.length : Int) < 1 := by simpa using ha
  have hb : ¬ (l.length : Int) > 20 := by simpa using hb
  have hk : keyOk l = l.all good := by
    unfold keyOk
    rw [decide_eq_true (show 1 ≤ (l.length : Int) by omega), decide_eq_true (show (l.length : Int) ≤ 20 by omega)]; simp
  rw [hk]
  refine den_loop (den_jump rfl rfl ?_)
  refine rounds_ind (α := Int) (enc := fun i => [B false, I i]) (ans := fun i => some [B ((l.drop i.toNat).all good)]) (meas := fun i => l.length - i.toNat) (Q := fun i => 0 ≤ i ∧ i ≤ l.length) (fun J i hi hJ => ?_) N 0 (by omega) (by simp; omega)
  simp only [List.cons_append, List.nil_append]
  refine den_let rfl (den_let rfl (den_ite rfl (fun h => ?_) (fun h => ?_)))
  · have h : i < l.length := by simpa using h
    have hlt : i.toNat < l.length := by omega
    have hnext : good l[i.toNat] = true → J [B false, I (IntKind.i64.wrap (i + 1))] = some [B ((l.drop i.toNat).all good)] := by
      intro hg
      rw [up hi.1 hi.2 hm, drop_all hi.1 hlt, hg, Bool.true_and]
      exact hJ (i + 1) (by omega) (by omega)
    have hstop : good l[i.toNat] = false → some [B ((l.drop i.toNat).all good)] = some [B false] := by
      intro hg
      rw [drop_all hi.1 hlt, hg]; rfl
    refine den_idx rfl rfl rfl hi.1 (List.getElem?_eq_getElem hlt) (den_let rfl (den_let rfl (den_ite rfl (fun h1 => ?_) (fun h1 => ?_))))
    · have h1 : l[i.toNat] < 97 := by simpa using h1
      refine den_idx rfl rfl rfl hi.1 (List.getElem?_eq_getElem hlt) (den_let rfl (den_let rfl (den_ite rfl (fun h2 => den_ret rfl ?_) (fun h2 => den_let rfl (den_jump rfl rfl ?_)))))
      · exact hstop (by simp only [good, h1, if_true]; simpa using h2)
      · exact hnext (by simp only [good, h1, if_true]; simpa using h2)
    · have h1 : ¬ l[i.toNat] < 97 := by simpa using h1
      simp only [List.cons_append, List.nil_append]
      refine den_idx rfl rfl rfl hi.1 (List.getElem?_eq_getElem hlt) (den_let rfl (den_let rfl (den_ite rfl (fun h2 => ?_) (fun h2 => ?_))))
      · have h2 : l[i.toNat] > 122 := by simpa using h2
        simp only [List.cons_append, List.nil_append]
        refine den_idx rfl rfl rfl hi.1 (List.getElem?_eq_getElem hlt) (den_let rfl (den_let rfl (den_ite rfl (fun h3 => den_ret rfl ?_) (fun h3 => den_let rfl (den_jump rfl rfl ?_)))))
        · exact hstop (by simp only [good, h1, h2, if_true, if_false]; simpa using h3)
        · exact hnext (by simp only [good, h1, h2, if_true, if_false]; simpa using h3)
      · have h2 : ¬ l[i.toNat] > 122 := by simpa using h2
        exact den_let rfl (den_jump rfl rfl (hnext (by simp only [good, h1, h2, if_false])))
  · have h : ¬ i < l.length := by simpa using h
    refine den_ret rfl ?_
    rw [List.drop_of_length_le (by omega)]
    rfl
theorem val134 (N k : Nat) (l : List Int) : Lv N (k + 1) 134 [S (.int .u8) l] = some [B (decide ((l.length : Int) ≤ 20))] := by
  refine level_den rfl rfl ?_ rfl
  unfold ir134
  exact den_let rfl (den_let rfl (den_ret rfl rfl))
theorem val181 (N k : Nat) (l : List Int) : Lv N (k + 1) 181 [S (.int .u8) l] = some [B (decide ((l.length : Int) ≤ 20))] := by
  refine level_den rfl rfl ?_ rfl
  unfold ir181
  exact den_let rfl (den_let rfl (den_ret rfl rfl))
theorem index135 (N k : Nat) (n : Int) : Lv N (k + 1) 135 [I n] = some [B (decide (n ≥ 0) && decide (n ≤ 1000000))] := by
  refine level_den rfl rfl ?_ rfl
  unfold ir135
  refine den_let rfl (den_ite rfl (fun h1 => den_let rfl (den_ret rfl ?_)) (fun h1 => den_ret rfl ?_))
  · rw [h1]; rfl
  · rw [h1]; rfl
/-- What an operation's number must be. -/
def numP (t n : Int) : Bool := if t = 0 ∨ t = 1 ∨ t = 3 then decide (n = 0) else if t = 4 then decide (n ≤ 1) else if t = 2 then true else decide (n ≥ 1)
def nkP (t : Int) : Bool := decide (t = 1 ∨ t = 2 ∨ t = 3 ∨ t = 6 ∨ t = 7)
def nvP (t : Int) : Bool := decide (t = 1 ∨ t = 2 ∨ t = 6)
def rngP (t n : Int) (v : List Int) : Bool := decide (0 ≤ t ∧ t ≤ 7 ∧ (v.length : Int) ≤ 20 ∧ 0 ≤ n ∧ n ≤ 1000000)
def opOk (t : Int) (k v : List Int) (n : Int) : Bool := rngP t n v && ((if nkP t then keyOk k else decide ((k.length : Int) = 0)) && ((nvP t || decide ((v.length : Int) = 0)) && numP t n))
theorem beq_dec (a b : Int) : (a == b) = decide (a = b) := by by_cases h : a = b <;> simp [h]
theorem someB {a b : Bool} (h : a = b) : (some [B a] : Option (List Dy)) = some [⟨.bool, b⟩] := by rw [h]
set_option maxHeartbeats 4000000 in
theorem op70 (N q : Nat) (t : Int) (k v : List Int) (n : Int) (hN : big ≤ N) (hk : k.length < big) : Lv N (q + 2) 70 [⟨OTy, (t, k, v, n, ())⟩] = some [B (opOk t k v n)] := by
  refine level_den rfl rfl ?_ rfl
  unfold ir70
  refine den_let rfl ?_
  simp only [List.cons_append, List.nil_append]
  refine den_joinB (fun b => some [B (if b then false else (if nkP t then keyOk k else decide ((k.length : Int) = 0)) && ((nvP t || decide ((v.length : Int) = 0)) && numP t n))]) (fun b => ?_) (fun J hJ => ?_)
  · simp only [List.cons_append, List.nil_append]
    refine den_ite rfl (fun h => den_ret rfl (by rw [h]; rfl)) (fun h => ?_)
    rw [h]
    simp only [Bool.false_eq_true, if_false]
    refine den_joinB (fun b => some [B ((if b then keyOk k else decide ((k.length : Int) = 0)) && ((nvP t || decide ((v.length : Int) = 0)) && numP t n))]) (fun b => ?_) (fun J hJ => ?_)
    · simp only [List.cons_append, List.nil_append]
      refine den_joinB (fun c => some [B (if c then false else (nvP t || decide ((v.length : Int) = 0)) && numP t n)]) (fun c => ?_) (fun J hJ => ?_)
      · simp only [List.cons_append, List.nil_append]
        refine den_ite rfl (fun h => den_ret rfl (by rw [h]; rfl)) (fun h => ?_)
        rw [h]
        simp only [Bool.false_eq_true, if_false]
        refine den_joinB (fun c => some [B ((c || decide ((v.length : Int) = 0)) && numP t n)]) (fun c => ?_) (fun J hJ => ?_)
        · simp only [List.cons_append, List.nil_append]
          refine den_joinB (fun e => some [B (if e then false else numP t n)]) (fun e => ?_) (fun J hJ => ?_)
          · simp only [List.cons_append, List.nil_append]
            refine den_ite rfl (fun h => den_ret rfl (by rw [h]; rfl)) (fun h => ?_)
            rw [h]
            simp only [Bool.false_eq_true, if_false]
            refine den_joinB (fun g => some [B (if g then decide (n = 0) else if t = 4 then decide (n ≤ 1) else if t = 2 then true else decide (n ≥ 1))]) (fun g => ?_) (fun J hJ => ?_)
            · simp only [List.cons_append, List.nil_append]
              refine den_ite rfl (fun h => den_let rfl (den_ret rfl (by rw [h]; rfl))) (fun h => ?_)
              rw [h]
              simp only [Bool.false_eq_true, if_false]
              refine den_let rfl (den_ite rfl (fun h => den_let rfl (den_ret rfl ?_)) (fun h => den_let rfl (den_ite rfl (fun h2 => den_ret rfl ?_) (fun h2 => den_let rfl (den_ret rfl ?_)))))
              · rw [if_pos (by simpa using h)]
              · rw [if_neg (by simpa using h), if_pos (by simpa using h2)]
              · rw [if_neg (by simpa using h), if_neg (by simpa using h2)]
            · have hn : ∀ (g : Bool), g = decide (t = 0 ∨ t = 1 ∨ t = 3) → J [⟨.bool, g⟩] = some [B (numP t n)] := by
                intro g hg
                rw [hJ, hg]
                unfold numP
                by_cases hd : t = 0 ∨ t = 1 ∨ t = 3 <;> simp [hd]
              refine den_let rfl (den_ite rfl (fun h => den_jump rfl rfl (hn _ ?_)) (fun h => den_let rfl (den_ite rfl (fun h2 => den_jump rfl rfl (hn _ ?_)) (fun h2 => den_let rfl (den_jump rfl rfl (hn _ ?_))))))
              · have h' : t = 0 := by simpa using h
                simp [h']
              · have h' : t = 1 := by simpa using h2
                simp [h']
              · have h' : ¬ t = 0 := by simpa using h
                have h2' : ¬ t = 1 := by simpa using h2
                show decide (t = 3) = _
                simp [h', h2']
          · refine den_let rfl (den_ite rfl (fun h => ?_) (fun h => ?_))
            · have hc : c = false := by cases c <;> simp_all
              subst hc
              refine den_let rfl (den_let rfl (den_jump rfl rfl ?_))
              rw [hJ]
              by_cases hv : (v.length : Int) = 0
              · have : ¬ (v.length : Int) > 0 := by omega
                simp [hv]
              · have : (v.length : Int) > 0 := by omega
                simp only [decide_eq_true this, if_true, Bool.false_or, decide_eq_false hv, Bool.false_and]
            · have hc : c = true := by cases c <;> simp_all
              subst hc
              refine den_jump rfl rfl ?_
              rw [hJ]; simp
        · have hn : ∀ (g : Bool), g = nvP t → J [⟨.bool, g⟩] = some [B ((nvP t || decide ((v.length : Int) = 0)) && numP t n)] := by
            intro g hg
            rw [hJ, hg]
          refine den_let rfl (den_ite rfl (fun h => den_jump rfl rfl (hn _ ?_)) (fun h => den_let rfl (den_ite rfl (fun h2 => den_jump rfl rfl (hn _ ?_)) (fun h2 => den_let rfl (den_jump rfl rfl (hn _ ?_))))))
          · have h' : t = 1 := by simpa using h
            simp [nvP, h']
          · have h' : t = 2 := by simpa using h2
            simp [nvP, h']
          · have h' : ¬ t = 1 := by simpa using h
            have h2' : ¬ t = 2 := by simpa using h2
            show decide (t = 6) = _
            simp [nvP, h', h2']
      · refine den_ite rfl (fun h => ?_) (fun h => ?_)
        · rw [h]
          refine den_call rfl (key136 N q k hN hk) rfl (den_let rfl (den_ite rfl (fun h2 => den_jump rfl rfl ?_) (fun h2 => ?_)))
          · have h2 : keyOk k = false := by simpa using h2
            rw [hJ]; simp [h2]
          · have h2 : keyOk k = true := by simpa using h2
            refine den_let rfl (den_ite rfl (fun h3 => ?_) (fun h3 => den_jump rfl rfl ?_))
            · simp at h3
            · rw [hJ]; simp [h2]
        · rw [h]
          refine den_let rfl (den_ite rfl (fun h2 => ?_) (fun h2 => ?_))
          · refine den_let rfl (den_let rfl (den_jump rfl rfl ?_))
            rw [hJ]
            by_cases hv : (k.length : Int) = 0
            · simp [hv]
            · have : (k.length : Int) > 0 := by omega
              simp only [decide_eq_true this, if_true, Bool.false_eq_true, if_false, decide_eq_false hv, Bool.false_and]
          · simp at h2
    · have hn : ∀ (g : Bool), g = nkP t → J [⟨.bool, g⟩] = some [B ((if nkP t then keyOk k else decide ((k.length : Int) = 0)) && ((nvP t || decide ((v.length : Int) = 0)) && numP t n))] := by
        intro g hg
        rw [hJ, hg]
      refine den_let rfl (den_ite rfl (fun h => den_jump rfl rfl (hn _ ?_)) (fun h => den_let rfl (den_ite rfl (fun h2 => den_jump rfl rfl (hn _ ?_)) (fun h2 => ?_))))
      · have h' : t = 1 := by simpa using h
        simp [nkP, h']
      · have h' : t = 2 := by simpa using h2
        simp [nkP, h']
      have h1' : ¬ t = 1 := by simpa using h
      have h2' : ¬ t = 2 := by simpa using h2
      refine den_let rfl (den_ite rfl (fun h => den_jump rfl rfl (hn _ ?_)) (fun h => den_let rfl (den_ite rfl (fun h2 => den_jump rfl rfl (hn _ ?_)) (fun h2 => den_let rfl (den_jump rfl rfl (hn _ ?_))))))
      · have h' : t = 3 := by simpa using h
        simp [nkP, h']
      · have h' : t = 6 := by simpa using h2
        simp [nkP, h']
      · have h3' : ¬ t = 3 := by simpa using h
        have h4' : ¬ t = 6 := by simpa using h2
        show decide (t = 7) = _
        simp [nkP, h1', h2', h3', h4']
  · have hn : ∀ (g : Bool), g = (!rngP t n v) → J [⟨.bool, g⟩] = some [B (opOk t k v n)] := by
      intro g hg
      rw [hJ, hg]
      unfold opOk
      cases rngP t n v <;> simp
    refine den_let rfl (den_ite rfl (fun h => den_jump rfl rfl (hn _ ?_)) (fun h => den_let rfl (den_ite rfl (fun h2 => den_jump rfl rfl (hn _ ?_)) (fun h2 => ?_))))
    · have h' : t < 0 := by simpa using h
      have : ¬ 0 ≤ t := by omega
      simp [rngP, this]
    · have h' : t > 7 := by simpa using h2
      have : ¬ t ≤ 7 := by omega
      simp [rngP, this]
    have h1' : 0 ≤ t := by simpa using h
    have h2' : t ≤ 7 := by simpa using h2
    refine den_call rfl (val134 N q v) rfl (den_let rfl (den_ite rfl (fun h => den_jump rfl rfl (hn _ ?_)) (fun h => ?_)))
    · have h' : ¬ (v.length : Int) ≤ 20 := by simpa using h
      simp [rngP, h']
    have h3' : (v.length : Int) ≤ 20 := by simpa using h
    refine den_call rfl (index135 N q n) rfl (den_let rfl (den_jump rfl rfl (hn _ ?_)))
    show (!(decide (n ≥ 0) && decide (n ≤ 1000000))) = _
    simp [rngP, h1', h2', h3']
set_option maxHeartbeats 4000000 in
theorem op129 (N q : Nat) (t : Int) (k v : List Int) (n : Int) (hN : big ≤ N) (hk : k.length < big) : Lv N (q + 3) 129 [⟨OTy, (t, k, v, n, ())⟩] = some [B (opOk t k v n)] := by
  refine level_den rfl rfl ?_ rfl
  unfold ir129
  refine den_let rfl ?_
  simp only [List.cons_append, List.nil_append]
  refine den_joinA (α := Bool × Bool × Int × Int) (fun p => [B false, B p.1, B p.2.1, I p.2.2.1, I p.2.2.2])
    (fun p => some [B ((decide (p.2.2.1 ≤ n) && decide (n ≤ p.2.2.2)) && ((if p.1 then keyOk k else decide ((k.length : Int) = 0)) && (if p.2.1 then decide ((v.length : Int) ≤ 20) else decide ((v.length : Int) = 0))))]) ?_ (fun J hJ => ?_)
  · rintro ⟨nk, nv, lo, hi⟩
    simp only [List.cons_append, List.nil_append]
    refine den_call rfl (within60 N (q + 1) n lo hi) rfl (den_ite rfl (fun h1 => ?_) (fun h1 => den_ret rfl (someB (by rw [h1]; rfl))))
    rw [h1, Bool.true_and]
    simp only [List.cons_append, List.nil_append]
    cases nk <;> cases nv
    · refine den_ite rfl (fun h => by cases h) (fun _ => den_let rfl (den_ite rfl (fun _ => den_let rfl (den_let rfl (den_ite rfl (fun h => ?_) (fun h => den_ret rfl (someB ?_))))) (fun h => by cases h)))
      · refine den_ite rfl (fun h => by cases h) (fun _ => den_let rfl (den_ite rfl (fun _ => den_let rfl (den_let rfl (den_ret rfl (someB ?_)))) (fun h => by cases h)))
        have h : (k.length : Int) = 0 := by simpa using h
        simp only [Bool.false_eq_true, if_false, decide_eq_true h, Bool.true_and]
        exact (beq_dec _ _).symm
      · have h : ¬ (k.length : Int) = 0 := by simpa using h
        simp only [Bool.false_eq_true, if_false, decide_eq_false h, Bool.false_and]
    · refine den_ite rfl (fun h => by cases h) (fun _ => den_let rfl (den_ite rfl (fun _ => den_let rfl (den_let rfl (den_ite rfl (fun h => ?_) (fun h => den_ret rfl (someB ?_))))) (fun h => by cases h)))
      · refine den_ite rfl (fun _ => den_call rfl (val181 N (q + 1) v) rfl (den_ite rfl (fun h2 => den_ret rfl (someB ?_)) (fun h2 => den_let rfl (den_ite rfl (fun h => by cases h) (fun _ => den_ret rfl (someB ?_)))))) (fun h => by cases h)
        · have h : (k.length : Int) = 0 := by simpa using h
          simp [h, h2]
        · simp only [if_true, h2, Bool.and_false]
      · have h : ¬ (k.length : Int) = 0 := by simpa using h
        simp only [Bool.false_eq_true, if_false, decide_eq_false h, Bool.false_and]
    · refine den_ite rfl (fun _ => den_call rfl (key152 N q k hN hk) rfl (den_ite rfl (fun h => ?_) (fun h => den_let rfl (den_ite rfl (fun h => by cases h) (fun _ => den_ret rfl (someB ?_)))))) (fun h => by cases h)
      · refine den_ite rfl (fun h => by cases h) (fun _ => den_let rfl (den_ite rfl (fun _ => den_let rfl (den_let rfl (den_ret rfl (someB ?_)))) (fun h => by cases h)))
        simp only [if_true, h, Bool.true_and, Bool.false_eq_true, if_false]
        exact (beq_dec _ _).symm
      · simp only [if_true, h, Bool.false_and]
    · refine den_ite rfl (fun _ => den_call rfl (key152 N q k hN hk) rfl (den_ite rfl (fun h => ?_) (fun h => den_let rfl (den_ite rfl (fun h => by cases h) (fun _ => den_ret rfl (someB ?_)))))) (fun h => by cases h)
      · refine den_ite rfl (fun _ => den_call rfl (val181 N (q + 1) v) rfl (den_ite rfl (fun h2 => den_ret rfl (someB ?_)) (fun h2 => den_let rfl (den_ite rfl (fun h => by cases h) (fun _ => den_ret rfl (someB ?_)))))) (fun h => by cases h)
        · simp only [if_true, h, h2, Bool.true_and]
        · simp only [if_true, h2, Bool.and_false]
      · simp only [if_true, h, Bool.false_and]
  · have hj : ∀ (nk nv : Bool) (lo hi : Int), ((decide (lo ≤ n) && decide (n ≤ hi)) && ((if nk then keyOk k else decide ((k.length : Int) = 0)) && (if nv then decide ((v.length : Int) ≤ 20) else decide ((v.length : Int) = 0)))) = opOk t k v n →
        J [B false, B nk, B nv, I lo, I hi] = some [B (opOk t k v n)] := fun nk nv lo hi h => by rw [hJ (nk, nv, lo, hi), h]
    have hE : ∀ (nk nv : Bool) (lo hi : Int), nkP t = nk → nvP t = nv → (decide (lo ≤ n) && decide (n ≤ hi)) = (decide (0 ≤ n ∧ n ≤ 1000000) && numP t n) → 0 ≤ t → t ≤ 7 →
        ((decide (lo ≤ n) && decide (n ≤ hi)) && ((if nk then keyOk k else decide ((k.length : Int) = 0)) && (if nv then decide ((v.length : Int) ≤ 20) else decide ((v.length : Int) = 0)))) = opOk t k v n := by
      rintro nk nv lo hi rfl rfl h3 h4 h5
      rw [h3]
      have hr : rngP t n v = (decide ((v.length : Int) ≤ 20) && decide (0 ≤ n ∧ n ≤ 1000000)) := by
        unfold rngP
        simp only [h4, h5, true_and, Bool.decide_and]
      have hz : decide ((v.length : Int) = 0) = true → decide ((v.length : Int) ≤ 20) = true := by
        intro h
        have := of_decide_eq_true h
        exact decide_eq_true (by omega)
      unfold opOk
      rw [hr]
      generalize (if nkP t = true then keyOk k else decide ((k.length : Int) = 0)) = K
      generalize nvP t = nv
      generalize numP t n = M
      generalize decide ((v.length : Int) = 0) = z at *
      generalize decide ((v.length : Int) ≤ 20) = y at *
      generalize decide (0 ≤ n ∧ n ≤ 1000000) = w
      cases K <;> cases nv <;> cases M <;> cases z <;> cases y <;> cases w <;> simp_all
    refine den_let rfl (den_ite rfl (fun h => den_jump rfl rfl (hj false false 0 0 (hE false false 0 0 ?_ ?_ ?_ ?_ ?_))) (fun h0 => ?_))
    · have h : t = 0 := by simpa using h
      subst h; rfl
    · have h : t = 0 := by simpa using h
      subst h; rfl
    · have h : t = 0 := by simpa using h
      subst h
      rw [Bool.eq_iff_iff]
      simp [numP]
      try omega
    · have h : t = 0 := by simpa using h
      omega
    · have h : t = 0 := by simpa using h
      omega
    have h0 : ¬ t = 0 := by simpa using h0
    simp only [List.cons_append, List.nil_append]
    refine den_let rfl (den_ite rfl (fun h => den_jump rfl rfl (hj true true 0 0 (hE true true 0 0 ?_ ?_ ?_ ?_ ?_))) (fun h1 => ?_))
    · have h : t = 1 := by simpa using h
      subst h; rfl
    · have h : t = 1 := by simpa using h
      subst h; rfl
    · have h : t = 1 := by simpa using h
      subst h
      rw [Bool.eq_iff_iff]
      simp [numP]
      try omega
    · have h : t = 1 := by simpa using h
      omega
    · have h : t = 1 := by simpa using h
      omega
    have h1 : ¬ t = 1 := by simpa using h1
    simp only [List.cons_append, List.nil_append]
    refine den_let rfl (den_ite rfl (fun h => den_jump rfl rfl (hj true true 0 1000000 (hE true true 0 1000000 ?_ ?_ ?_ ?_ ?_))) (fun h2 => ?_))
    · have h : t = 2 := by simpa using h
      subst h; rfl
    · have h : t = 2 := by simpa using h
      subst h; rfl
    · have h : t = 2 := by simpa using h
      subst h
      rw [Bool.eq_iff_iff]
      simp [numP]
      try omega
    · have h : t = 2 := by simpa using h
      omega
    · have h : t = 2 := by simpa using h
      omega
    have h2 : ¬ t = 2 := by simpa using h2
    simp only [List.cons_append, List.nil_append]
    refine den_let rfl (den_ite rfl (fun h => den_jump rfl rfl (hj true false 0 0 (hE true false 0 0 ?_ ?_ ?_ ?_ ?_))) (fun h3 => ?_))
    · have h : t = 3 := by simpa using h
      subst h; rfl
    · have h : t = 3 := by simpa using h
      subst h; rfl
    · have h : t = 3 := by simpa using h
      subst h
      rw [Bool.eq_iff_iff]
      simp [numP]
      try omega
    · have h : t = 3 := by simpa using h
      omega
    · have h : t = 3 := by simpa using h
      omega
    have h3 : ¬ t = 3 := by simpa using h3
    simp only [List.cons_append, List.nil_append]
    refine den_let rfl (den_ite rfl (fun h => den_jump rfl rfl (hj false false 0 1 (hE false false 0 1 ?_ ?_ ?_ ?_ ?_))) (fun h4 => ?_))
    · have h : t = 4 := by simpa using h
      subst h; rfl
    · have h : t = 4 := by simpa using h
      subst h; rfl
    · have h : t = 4 := by simpa using h
      subst h
      rw [Bool.eq_iff_iff]
      simp [numP]
      try omega
    · have h : t = 4 := by simpa using h
      omega
    · have h : t = 4 := by simpa using h
      omega
    have h4 : ¬ t = 4 := by simpa using h4
    simp only [List.cons_append, List.nil_append]
    refine den_let rfl (den_ite rfl (fun h => den_jump rfl rfl (hj false false 1 1000000 (hE false false 1 1000000 ?_ ?_ ?_ ?_ ?_))) (fun h5 => ?_))
    · have h : t = 5 := by simpa using h
      subst h; rfl
    · have h : t = 5 := by simpa using h
      subst h; rfl
    · have h : t = 5 := by simpa using h
      subst h
      rw [Bool.eq_iff_iff]
      simp [numP]
      try omega
    · have h : t = 5 := by simpa using h
      omega
    · have h : t = 5 := by simpa using h
      omega
    have h5 : ¬ t = 5 := by simpa using h5
    simp only [List.cons_append, List.nil_append]
    refine den_let rfl (den_ite rfl (fun h => den_jump rfl rfl (hj true true 1 1000000 (hE true true 1 1000000 ?_ ?_ ?_ ?_ ?_))) (fun h6 => ?_))
    · have h : t = 6 := by simpa using h
      subst h; rfl
    · have h : t = 6 := by simpa using h
      subst h; rfl
    · have h : t = 6 := by simpa using h
      subst h
      rw [Bool.eq_iff_iff]
      simp [numP]
      try omega
    · have h : t = 6 := by simpa using h
      omega
    · have h : t = 6 := by simpa using h
      omega
    have h6 : ¬ t = 6 := by simpa using h6
    simp only [List.cons_append, List.nil_append]
    refine den_let rfl (den_ite rfl (fun h => den_jump rfl rfl (hj true false 1 1000000 (hE true false 1 1000000 ?_ ?_ ?_ ?_ ?_))) (fun h7 => ?_))
    · have h : t = 7 := by simpa using h
      subst h; rfl
    · have h : t = 7 := by simpa using h
      subst h; rfl
    · have h : t = 7 := by simpa using h
      subst h
      rw [Bool.eq_iff_iff]
      simp [numP]
      try omega
    · have h : t = 7 := by simpa using h
      omega
    · have h : t = 7 := by simpa using h
      omega
    have h7 : ¬ t = 7 := by simpa using h7
    simp only [List.cons_append, List.nil_append]
    refine den_ret rfl (someB ?_)
    have hr : rngP t n v = false := by
      unfold rngP
      rw [decide_eq_false_iff_not]
      omega
    unfold opOk
    rw [hr, Bool.false_and]

theorem equal199 (N k : Nat) (l : List Int) : Lv N (k + 1) 199 [S (.int .u8) l, S (.int .u8) []] = some [B (decide ((l.length : Int) = 0))] := by
  refine level_den rfl rfl ?_ rfl
  unfold ir199
  refine den_let rfl (den_let rfl (den_let rfl (den_ret rfl (someB ?_))))
  cases l with
  | nil => simp
  | cons x l =>
    rw [decide_eq_false (by simp; omega)]
    symm
    rw [beq_eq_false_iff_ne]
    intro h
    rw [ByteArray.toList_eq, ByteArray.toList_eq] at h
    simp at h
def cmdOk (c r t : Int) (k v : List Int) (n : Int) : Bool := if c = -1 then decide (r = 0) && (decide (t = 0) && opOk t k v n) else (decide (0 ≤ c) && decide (c ≤ 3)) && ((decide (1 ≤ r) && decide (r ≤ 1000000)) && opOk t k v n)
theorem cmd18 (N q : Nat) (c r t : Int) (k v : List Int) (n : Int) (hN : big ≤ N) (hk : k.length < big) : Lv N (q + 3) 18 [⟨CTy, (c, r, t, k, v, n, ())⟩] = some [B (cmdOk c r t k v n)] := by
  refine level_den rfl rfl ?_ rfl
  unfold ir18 cmdOk
  refine den_let rfl (den_let rfl (den_ite rfl (fun h => ?_) (fun h => ?_)))
  · have h : c = -1 := by simpa using h
    rw [if_pos h]
    simp only [List.cons_append, List.nil_append]
    refine den_let rfl (den_ite rfl (fun h1 => den_let rfl (den_ite rfl (fun h2 => ?_) (fun h2 => den_ret rfl (someB ?_)))) (fun h1 => den_ret rfl (someB ?_)))
    · have h1 : r = 0 := by simpa using h1
      have h2 : t = 0 := by simpa using h2
      refine den_let rfl (den_call rfl (op70 N q t k v n hN hk) rfl (den_ret rfl (someB ?_)))
      simp [h1, h2]
    · have h2 : ¬ t = 0 := by simpa using h2
      simp [h2]
    · have h1 : ¬ r = 0 := by simpa using h1
      simp [h1]
  · have h : ¬ c = -1 := by simpa using h
    rw [if_neg h]
    simp only [List.cons_append, List.nil_append]
    refine den_let rfl (den_ite rfl (fun h1 => den_let rfl (den_ite rfl (fun h2 => ?_) (fun h2 => den_ret rfl (someB ?_)))) (fun h1 => den_ret rfl (someB ?_)))
    · have h1 : 0 ≤ c := by simpa using h1
      have h2 : c < 4 := by simpa using h2
      simp only [List.cons_append, List.nil_append]
      refine den_let rfl (den_ite rfl (fun h3 => den_let rfl (den_ite rfl (fun h4 => ?_) (fun h4 => den_ret rfl (someB ?_)))) (fun h3 => den_ret rfl (someB ?_)))
      · have h3 : 1 ≤ r := by simpa using h3
        have h4 : r ≤ 1000000 := by simpa using h4
        refine den_let rfl (den_call rfl (op70 N q t k v n hN hk) rfl (den_ret rfl (someB ?_)))
        rw [decide_eq_true h1, decide_eq_true (show c ≤ 3 by omega), decide_eq_true h3, decide_eq_true h4]; rfl
      · have h4 : ¬ r ≤ 1000000 := by simpa using h4
        rw [decide_eq_false h4]; simp
      · have h3 : ¬ 1 ≤ r := by simpa using h3
        rw [decide_eq_false h3]; simp
    · have h2 : ¬ c < 4 := by simpa using h2
      rw [decide_eq_false (show ¬ c ≤ 3 by omega)]; simp
    · have h1 : ¬ 0 ≤ c := by simpa using h1
      rw [decide_eq_false h1]; simp
theorem no128 (N k : Nat) : Lv N (k + 1) 128 [] = some [⟨CTy, ((-1 : Int), (0 : Int), (0 : Int), ([] : List Int), ([] : List Int), (0 : Int), ())⟩] := by
  refine level_den rfl rfl ?_ rfl
  unfold ir128
  exact den_let rfl (den_let rfl (den_let rfl (den_let rfl (den_ret rfl rfl))))
theorem same180 (N q : Nat) (t : Int) (k v : List Int) (n : Int) : Lv N (q + 2) 180 [⟨OTy, (t, k, v, n, ())⟩, ⟨OTy, ((0 : Int), ([] : List Int), ([] : List Int), (0 : Int), ())⟩] =
    some [B (decide (t = 0) && (decide ((k.length : Int) = 0) && (decide ((v.length : Int) = 0) && decide (n = 0))))] := by
  refine level_den rfl rfl ?_ rfl
  unfold ir180
  refine den_let rfl (den_let rfl (den_let rfl (den_ite rfl (fun h1 => den_call rfl (equal199 N q k) rfl (den_ite rfl (fun h2 => den_call rfl (equal199 N q v) rfl (den_ite rfl (fun h3 => den_let rfl (den_ret rfl (someB ?_))) (fun h3 => den_ret rfl (someB ?_)))) (fun h2 => den_ret rfl (someB ?_)))) (fun h1 => den_ret rfl (someB ?_)))))
  · have h1 : t = 0 := by simpa using h1
    rw [decide_eq_true h1, h2, h3, Bool.true_and, Bool.true_and, Bool.true_and]
    exact (beq_dec _ _).symm
  · rw [h3]; simp
  · rw [h2]; simp
  · have h1 : ¬ t = 0 := by simpa using h1
    rw [decide_eq_false h1]; simp
theorem same127 (N q : Nat) (c r t : Int) (k v : List Int) (n : Int) : Lv N (q + 3) 127 [⟨CTy, (c, r, t, k, v, n, ())⟩, ⟨CTy, ((-1 : Int), (0 : Int), (0 : Int), ([] : List Int), ([] : List Int), (0 : Int), ())⟩] =
    some [B (decide (c = -1) && (decide (r = 0) && (decide (t = 0) && (decide ((k.length : Int) = 0) && (decide ((v.length : Int) = 0) && decide (n = 0))))))] := by
  refine level_den rfl rfl ?_ rfl
  unfold ir127
  refine den_let rfl (den_let rfl (den_let rfl (den_ite rfl (fun h1 => den_let rfl (den_ite rfl (fun h2 => ?_) (fun h2 => den_ret rfl (someB ?_)))) (fun h1 => den_ret rfl (someB ?_)))))
  · have h1 : c = -1 := by simpa using h1
    have h2 : r = 0 := by simpa using h2
    refine den_let rfl (den_let rfl (den_call rfl (same180 N q t k v n) rfl (den_ret rfl (someB ?_))))
    rw [decide_eq_true h1, decide_eq_true h2]; rfl
  · have h2 : ¬ r = 0 := by simpa using h2
    rw [decide_eq_false h2]; simp
  · have h1 : ¬ c = -1 := by simpa using h1
    rw [decide_eq_false h1]; simp
theorem cmd67 (N q : Nat) (c r t : Int) (k v : List Int) (n : Int) (hN : big ≤ N) (hk : k.length < big) : Lv N (q + 4) 67 [⟨CTy, (c, r, t, k, v, n, ())⟩] = some [B (cmdOk c r t k v n)] := by
  refine level_den rfl rfl ?_ rfl
  unfold ir67
  refine den_let rfl (den_let rfl (den_call rfl (no128 N (q + 2)) rfl (den_call rfl (same127 N q c r t k v n) rfl (den_ite rfl (fun h => den_ret rfl (someB ?_)) (fun h => ?_)))))
  · simp only [Bool.and_eq_true, decide_eq_true_eq] at h
    obtain ⟨h1, h2, h3, h4, h5, h6⟩ := h
    unfold cmdOk opOk rngP nkP nvP numP
    subst h3
    have e1 : decide ((0 : Int) = 1 ∨ (0 : Int) = 2 ∨ (0 : Int) = 3 ∨ (0 : Int) = 6 ∨ (0 : Int) = 7) = false := rfl
    have e2 : decide ((0 : Int) = 1 ∨ (0 : Int) = 2 ∨ (0 : Int) = 6) = false := rfl
    rw [if_pos h1, decide_eq_true h2, e1, e2, decide_eq_true h4, decide_eq_true h5]
    subst h6
    have e3 : decide ((0 : Int) ≤ 0 ∧ (0 : Int) ≤ 7 ∧ (v.length : Int) ≤ 20 ∧ (0 : Int) ≤ 0 ∧ (0 : Int) ≤ 1000000) = true := by
      rw [decide_eq_true_eq]; omega
    rw [e3]; rfl
  · simp only [List.cons_append, List.nil_append]
    refine den_call rfl (within60 N (q + 2) c 0 3) rfl (den_ite rfl (fun h1 => den_call rfl (within60 N (q + 2) r 1 1000000) rfl (den_ite rfl (fun h2 => den_let rfl (den_call rfl (op129 N q t k v n hN hk) rfl (den_ret rfl (someB ?_)))) (fun h2 => den_ret rfl (someB ?_)))) (fun h1 => den_ret rfl (someB ?_)))
    · unfold cmdOk
      have hc : ¬ c = -1 := by
        simp only [Bool.and_eq_true, decide_eq_true_eq] at h1
        omega
      rw [if_neg hc, h1, h2]; rfl
    · unfold cmdOk
      have hc : ¬ c = -1 := by
        simp only [Bool.and_eq_true, decide_eq_true_eq] at h1
        omega
      rw [if_neg hc, h1, h2]; rfl
    · unfold cmdOk
      by_cases hc : c = -1
      · rw [if_pos hc]
        by_cases hr : r = 0
        · by_cases ht : t = 0
          · subst ht
            unfold opOk rngP nkP nvP numP
            have e1 : decide ((0 : Int) = 1 ∨ (0 : Int) = 2 ∨ (0 : Int) = 3 ∨ (0 : Int) = 6 ∨ (0 : Int) = 7) = false := rfl
            have e2 : decide ((0 : Int) = 1 ∨ (0 : Int) = 2 ∨ (0 : Int) = 6) = false := rfl
            rw [e1, e2]
            rw [decide_eq_true hc, decide_eq_true hr, decide_eq_true (show (0 : Int) = 0 from rfl), Bool.true_and, Bool.true_and, Bool.true_and] at h
            simp only [Bool.false_eq_true, if_false, Bool.false_or, true_or, if_true]
            rw [h, Bool.and_false, Bool.and_false]
            simp
          · rw [decide_eq_false ht]; simp
        · rw [decide_eq_false hr]; simp
      · rw [if_neg hc, h1]; rfl
def itemOk (x : D ITy) : Bool := (decide (1 ≤ x.1) && decide (x.1 ≤ 100000)) && cmdOk x.2.1 x.2.2.1 x.2.2.2.1 x.2.2.2.2.1 x.2.2.2.2.2.1 x.2.2.2.2.2.2.1
theorem item58 (N q : Nat) (x : D ITy) (hN : big ≤ N) (hk : okI x) : Lv N (q + 4) 58 [⟨ITy, x⟩] = some [B (itemOk x)] := by
  refine level_den rfl rfl ?_ rfl
  unfold ir58
  refine den_let rfl (den_let rfl (den_ite rfl (fun h1 => den_let rfl (den_ite rfl (fun h2 => den_let rfl (den_call rfl (cmd18 N q x.2.1 x.2.2.1 x.2.2.2.1 x.2.2.2.2.1 x.2.2.2.2.2.1 x.2.2.2.2.2.2.1 hN hk.1) rfl (den_ret rfl (someB ?_)))) (fun h2 => den_ret rfl (someB ?_)))) (fun h1 => den_ret rfl (someB ?_))))
  · have h1 : decide (1 ≤ x.1) = true := h1
    have h2 : decide (x.1 ≤ 100000) = true := h2
    unfold itemOk
    rw [h1, h2]; rfl
  · have h2 : decide (x.1 ≤ 100000) = false := h2
    unfold itemOk
    rw [h2]; simp
  · have h1 : decide (1 ≤ x.1) = false := h1
    unfold itemOk
    rw [h1]; simp
theorem term122 (N k : Nat) (a : Int) : Lv N (k + 2) 122 [I a] = some [B (decide (1 ≤ a) && decide (a ≤ 100000))] := by
  refine level_den rfl rfl ?_ rfl
  unfold ir122
  exact den_call rfl (within60 N k a 1 100000) rfl (den_ret rfl rfl)
theorem item61 (N q : Nat) (x : D ITy) (hN : big ≤ N) (hk : okI x) : Lv N (q + 5) 61 [⟨ITy, x⟩] = some [B (itemOk x)] := by
  refine level_den rfl rfl ?_ rfl
  unfold ir61
  refine den_let rfl (den_call rfl (term122 N (q + 2) x.1) rfl (den_ite rfl (fun h1 => den_let rfl (den_call rfl (cmd67 N q x.2.1 x.2.2.1 x.2.2.2.1 x.2.2.2.2.1 x.2.2.2.2.2.1 x.2.2.2.2.2.2.1 hN hk.1) rfl (den_ret rfl (someB ?_)))) (fun h1 => den_ret rfl (someB ?_))))
  · unfold itemOk
    rw [h1]; rfl
  · unfold itemOk
    rw [h1]; rfl

theorem servers55 (N k : Nat) (s : Int) : Lv N (k + 1) 55 [I s] = some [B (decide (s ≥ 1) && decide (s ≤ 5))] := by
  refine level_den rfl rfl ?_ rfl
  unfold ir55
  refine den_let rfl (den_ite rfl (fun h1 => den_let rfl (den_ret rfl ?_)) (fun h1 => den_ret rfl ?_))
  · rw [h1]; rfl
  · rw [h1]; rfl
theorem term56 (N k : Nat) (s : Int) : Lv N (k + 1) 56 [I s] = some [B (decide (s ≥ 0) && decide (s ≤ 100000))] := by
  refine level_den rfl rfl ?_ rfl
  unfold ir56
  refine den_let rfl (den_ite rfl (fun h1 => den_let rfl (den_ret rfl ?_)) (fun h1 => den_ret rfl ?_))
  · rw [h1]; rfl
  · rw [h1]; rfl
theorem who57 (N k : Nat) (a s : Int) : Lv N (k + 1) 57 [I a, I s] = some [B (decide (a ≥ -1) && decide (a < s))] := by
  refine level_den rfl rfl ?_ rfl
  unfold ir57
  refine den_let rfl (den_ite rfl (fun h1 => den_let rfl (den_ret rfl ?_)) (fun h1 => den_ret rfl ?_))
  · rw [h1]; rfl
  · rw [h1]; rfl
theorem server59 (N k : Nat) (a s : Int) : Lv N (k + 2) 59 [I a, I s] = some [B (decide (1 ≤ s ∧ s ≤ 5 ∧ 0 ≤ a ∧ a < s))] := by
  refine level_den rfl rfl ?_ rfl
  unfold ir59
  refine den_call rfl (within60 N k s 1 5) rfl (den_ite rfl (fun h1 => den_let rfl (den_call rfl (within60 N k a 0 _) rfl (den_ret rfl (someB ?_)))) (fun h1 => den_ret rfl (someB ?_)))
  · simp only [Bool.and_eq_true, decide_eq_true_eq] at h1
    rw [wrap_id (by omega) (by omega), ← Bool.decide_and, decide_eq_decide]
    omega
  · rw [← Bool.decide_and, decide_eq_false_iff_not] at h1
    rw [decide_eq_false_iff_not]
    omega
/-- Is one of a list of bools true? From place i on. -/
def anyB (l : List Bool) : Bool := !(l.all fun b => !b)
theorem drop_not {l : List Bool} {i : Int} (h0 : 0 ≤ i) (h : i.toNat < l.length) : (l.drop i.toNat).all (fun b => !b) = ((!l[i.toNat]) && (l.drop (i + 1).toNat).all (fun b => !b)) := by
  rw [show (i + 1).toNat = i.toNat + 1 by omega, List.drop_eq_getElem_cons h, List.all_cons]
theorem index123 (N k : Nat) (l : List Bool) (hN : big ≤ N) (hm : l.length < big) : ∃ r, Lv N (k + 1) 123 [S .bool l, B true] = some [I r] ∧ decide (r ≥ 0) = anyB l := by
  have key : Ans (Lv N (k + 1) 123 [S .bool l, B true]) (fun rs => ∃ r, rs = [I r] ∧ decide (r ≥ 0) = anyB l) := by
    refine ans_level rfl rfl ?_ (by rintro rs ⟨r, rfl, _⟩; rfl)
    unfold ir123
    refine ans_let rfl (ans_loop (ans_jump rfl rfl ?_))
    refine Ans.imp (rounds_ans (α := Int) (enc := fun i => [I 0, I i]) (Post := fun i rs => ∃ r, rs = [I r] ∧ decide (r ≥ 0) = anyB (l.drop i.toNat)) (meas := fun i => l.length - i.toNat) (R := fun i => 0 ≤ i ∧ i ≤ l.length) ?_ N 0 (by omega) (by simp; omega)) (fun rs h => by simpa using h)
    intro J i hi hJ
    simp only [List.cons_append, List.nil_append]
    refine ans_let rfl (ans_ite rfl (fun h => ?_) (fun h => ?_))
    · have h : i < l.length := by simpa using h
      have hlt : i.toNat < l.length := by omega
      refine ans_idx rfl rfl rfl hi.1 (List.getElem?_eq_getElem hlt) (ans_let rfl (ans_let rfl (ans_ite rfl (fun h => ans_ret rfl ⟨i, rfl, ?_⟩) (fun h => ?_))))
      · have h : l[i.toNat] = true := by simpa using h
        unfold anyB
        rw [drop_not hi.1 hlt, h]
        simp [hi.1]
      · have h : l[i.toNat] = false := by simpa using h
        refine ans_let rfl (ans_jump rfl rfl ?_)
        rw [up hi.1 hi.2 hm]
        refine Ans.imp (hJ (i + 1) (by omega) (by omega)) ?_
        rintro rs ⟨r, rfl, hr⟩
        refine ⟨r, rfl, ?_⟩
        rw [hr]
        unfold anyB
        rw [drop_not hi.1 hlt, h]; rfl
    · have h : ¬ i < l.length := by simpa using h
      refine ans_ret rfl ⟨-1, rfl, ?_⟩
      unfold anyB
      rw [List.drop_of_length_le (by omega)]
      rfl
  obtain ⟨rs, e, r, rfl, hr⟩ := key
  exact ⟨r, e, hr⟩
theorem contains62 (N k : Nat) (l : List Bool) (hN : big ≤ N) (hm : l.length < big) : Lv N (k + 2) 62 [S .bool l, B true] = some [B (anyB l)] := by
  obtain ⟨r, e, hr⟩ := index123 N k l hN hm
  refine level_den rfl rfl ?_ rfl
  unfold ir62
  refine den_call rfl e rfl (den_let rfl (den_ret rfl (someB ?_)))
  exact hr.symm

/-- The log's items are good, their terms rise from t on. -/
def logOk (i1 : Int) : Int → List (D ITy) → Bool
  | _, [] => true
  | t, x :: xs => itemOk x && (decide (t ≤ x.1) && (decide (x.1 ≤ i1) && logOk i1 x.1 xs))
def perAt (i5 len : Int) (n m : List Int) (i : Nat) : Bool :=
  match n[i]?, m[i]? with
  | some a, some b => if i5 = 2 then decide (1 ≤ a ∧ a ≤ len + 1) && decide (0 ≤ b ∧ b ≤ len) else decide (a = 0) && decide (b = 0)
  | _, _ => true
def upAll (f : Nat → Bool) : Nat → Nat → Bool
  | _, 0 => true
  | i, d + 1 => f i && upAll f (i + 1) d
def rng1 (i0 i1 i2 i6 s len : Int) : Bool := decide (1 ≤ s ∧ s ≤ 5 ∧ 0 ≤ i0 ∧ i0 < s ∧ 0 ≤ i1 ∧ i1 ≤ 100000 ∧ -1 ≤ i2 ∧ i2 ≤ s - 1 ∧ -1 ≤ i6 ∧ i6 ≤ s - 1 ∧ len ≤ 400)
def rng2 (i4 i5 i7 s len v n m : Int) : Bool := decide (0 ≤ i4 ∧ i4 ≤ len ∧ 0 ≤ i5 ∧ i5 ≤ 2 ∧ 0 ≤ i7 ∧ i7 ≤ 20 ∧ v = s ∧ n = s ∧ m = s)
def roleB (i0 i1 i2 i5 i6 : Int) (v : List Bool) : Bool := !((decide (i5 = 0) && anyB v) || ((!decide (i5 = 0)) && (decide (i1 < 1) || !decide (i2 = i0))) || (decide (i5 = 2) && !decide (i6 = i0)))
def nodeOk (i0 i1 i2 : Int) (l : List (D ITy)) (i4 i5 i6 i7 : Int) (v : List Bool) (n m : List Int) (s : Int) : Bool :=
  rng1 i0 i1 i2 i6 s l.length && (logOk i1 1 l && (rng2 i4 i5 i7 s l.length v.length n.length m.length && (roleB i0 i1 i2 i5 i6 v && upAll (perAt i5 l.length n m) 0 s.toNat)))
theorem log_drop {i1 t : Int} {l : List (D ITy)} {i : Int} (h0 : 0 ≤ i) (h : i.toNat < l.length) : logOk i1 t (l.drop i.toNat) = (itemOk l[i.toNat] && (decide (t ≤ l[i.toNat].1) && (decide (l[i.toNat].1 ≤ i1) && logOk i1 l[i.toNat].1 (l.drop (i + 1).toNat)))) := by
  rw [show (i + 1).toNat = i.toNat + 1 by omega, List.drop_eq_getElem_cons h]
  rfl
theorem up_step {f : Nat → Bool} {i s : Int} (h0 : 0 ≤ i) (h : i < s) : upAll f i.toNat (s - i).toNat = (f i.toNat && upAll f (i + 1).toNat (s - (i + 1)).toNat) := by
  rw [show (s - i).toNat = (s - (i + 1)).toNat + 1 by omega, show (i + 1).toNat = i.toNat + 1 by omega]
  rfl
set_option maxHeartbeats 8000000 in
theorem node15 (N q : Nat) (i0 i1 i2 : Int) (l : List (D ITy)) (i4 i5 i6 i7 : Int) (v : List Bool) (n m : List Int) (s : Int) (hN : big ≤ N) (hl : l.length < big) (hx : ∀ y ∈ l, okI y) (hv : v.length < big) :
    Lv N (q + 6) 15 [⟨NTy, (i0, i1, i2, l, i4, i5, i6, i7, v, n, m, ())⟩, I s] = some [B (nodeOk i0 i1 i2 l i4 i5 i6 i7 v n m s)] := by
  refine level_den rfl rfl ?_ rfl
  unfold ir15
  refine den_let rfl ?_
  simp only [List.cons_append, List.nil_append]
  refine den_joinP (fun b => b = false → rng1 i0 i1 i2 i6 s l.length = true) (fun b => some [B (if b then false else logOk i1 1 l && (rng2 i4 i5 i7 s l.length v.length n.length m.length && (roleB i0 i1 i2 i5 i6 v && upAll (perAt i5 l.length n m) 0 s.toNat)))]) (fun b hb => ?_) (fun J hJ => ?_)
  · simp only [List.cons_append, List.nil_append]
    refine den_ite rfl (fun h => den_ret rfl (someB (by rw [h]; rfl))) (fun h => ?_)
    have hr := hb h
    unfold rng1 at hr
    rw [decide_eq_true_eq] at hr
    clear hb
    subst h
    simp only [Bool.false_eq_true, if_false]
    obtain ⟨R, hR⟩ : ∃ R, R = (rng2 i4 i5 i7 s l.length v.length n.length m.length && (roleB i0 i1 i2 i5 i6 v && upAll (perAt i5 l.length n m) 0 s.toNat)) := ⟨_, rfl⟩
    rw [← hR]
    refine den_let rfl (den_loop (den_jump rfl rfl ?_))
    simp only [List.cons_append, List.nil_append]
    refine rounds_ind (α := Int × Int) (enc := fun p => [B false, I p.1, I p.2]) (ans := fun p => some [B (logOk i1 p.1 (l.drop p.2.toNat) && R)]) (meas := fun p => l.length - p.2.toNat) (Q := fun p => 0 ≤ p.2 ∧ p.2 ≤ l.length) ?_ N (1, 0) ⟨Int.le_refl _, by show (0 : Int) ≤ l.length; omega⟩ (by show l.length - 0 < N; omega)
    rintro J ⟨t, i⟩ ⟨hi0, hi1⟩ hJ1
    dsimp only at hi0 hi1
    simp only [List.cons_append, List.nil_append]
    refine den_let rfl (den_ite rfl (fun h2 => ?_) (fun h2 => ?_))
    · have h2 : i < l.length := by simpa using h2
      have hlt : i.toNat < l.length := by omega
      refine den_idx rfl rfl rfl hi0 (List.getElem?_eq_getElem hlt) (den_let rfl (den_let rfl ?_))
      simp only [List.cons_append, List.nil_append]
      refine den_joinB (fun g => some [B (if g then false else logOk i1 l[i.toNat].1 (l.drop (i + 1).toNat) && R)]) (fun g => ?_) (fun J2 hJ2 => ?_)
      · simp only [List.cons_append, List.nil_append]
        refine den_ite rfl (fun h => den_ret rfl (someB (by rw [h]; rfl))) (fun h => ?_)
        subst h
        simp only [Bool.false_eq_true, if_false]
        refine den_let rfl (den_jump rfl rfl ?_)
        rw [up hi0 hi1 hl]
        exact hJ1 (l[i.toNat].1, i + 1) ⟨by show 0 ≤ i + 1; omega, by show i + 1 ≤ l.length; omega⟩ (by show l.length - (i + 1).toNat < l.length - i.toNat; omega)
      · have hn : ∀ (g : Bool), g = (!(itemOk l[i.toNat] && (decide (t ≤ l[i.toNat].1) && decide (l[i.toNat].1 ≤ i1)))) → J2 [⟨.bool, g⟩] = some [B (logOk i1 t (l.drop i.toNat) && R)] := by
          intro g hg
          rw [hJ2, hg, log_drop hi0 hlt]
          cases itemOk l[i.toNat] <;> cases decide (t ≤ l[i.toNat].1) <;> cases decide (l[i.toNat].1 ≤ i1) <;> simp
        refine den_let rfl (den_call rfl (item61 N q l[i.toNat] hN (hx _ (List.getElem_mem hlt))) rfl (den_let rfl (den_ite rfl (fun h => den_jump rfl rfl (hn _ ?_)) (fun h => ?_))))
        · have h : itemOk l[i.toNat] = false := by simpa using h
          rw [h]; rfl
        · have h : itemOk l[i.toNat] = true := by simpa using h
          simp only [List.cons_append, List.nil_append]
          refine den_call rfl (within60 N (q + 4) _ t i1) rfl (den_let rfl (den_jump rfl rfl (hn _ ?_)))
          rw [h]; rfl
    · have h2 : ¬ i < l.length := by simpa using h2
      show _ = some [B (logOk i1 t (l.drop i.toNat) && R)]
      rw [show l.drop i.toNat = [] from List.drop_of_length_le (by omega), hR]
      simp only [logOk, Bool.true_and]
      refine den_joinP (fun b => b = false → rng2 i4 i5 i7 s l.length v.length n.length m.length = true) (fun b => some [B (if b then false else roleB i0 i1 i2 i5 i6 v && upAll (perAt i5 l.length n m) 0 s.toNat)]) (fun b hb => ?_) (fun J2 hJ2 => ?_)
      · simp only [List.cons_append, List.nil_append]
        refine den_ite rfl (fun h => den_ret rfl (someB (by rw [h]; rfl))) (fun h => ?_)
        have hr2 := hb h
        unfold rng2 at hr2
        rw [decide_eq_true_eq] at hr2
        clear hb
        subst h
        simp only [Bool.false_eq_true, if_false]
        refine den_joinB (fun b => some [B (if b then false else upAll (perAt i5 l.length n m) 0 s.toNat)]) (fun b => ?_) (fun J3 hJ3 => ?_)
        · simp only [List.cons_append, List.nil_append]
          refine den_ite rfl (fun h => den_ret rfl (someB (by rw [h]; rfl))) (fun h => ?_)
          subst h
          simp only [Bool.false_eq_true, if_false]
          rw [show upAll (perAt i5 l.length n m) 0 s.toNat = upAll (perAt i5 l.length n m) (0 : Int).toNat (s - 0).toNat by rw [Int.sub_zero]; rfl]
          refine den_loop (den_jump rfl rfl ?_)
          refine rounds_ind (α := Int) (enc := fun i => [B false, I i]) (ans := fun i => some [B (upAll (perAt i5 l.length n m) i.toNat (s - i).toNat)]) (meas := fun i => (s - i).toNat) (Q := fun i => 0 ≤ i ∧ i ≤ s) ?_ N 0 ⟨by omega, by omega⟩ (by unfold big at hN; omega)
          intro J4 k hk hJ4
          simp only [List.cons_append, List.nil_append]
          refine den_let rfl (den_ite rfl (fun h5 => ?_) (fun h5 => ?_))
          · have h5 : k < s := by simpa using h5
            have hkn : k.toNat < n.length := by omega
            have hkm : k.toNat < m.length := by omega
            have hwk : IntKind.i64.wrap (k + 1) = k + 1 := wrap_id (by omega) (by omega)
            have hwl : IntKind.i64.wrap ((l.length : Int) + 1) = l.length + 1 := wrap_id (by omega) (by omega)
            have hper : perAt i5 l.length n m k.toNat = if i5 = 2 then (decide (1 ≤ n[k.toNat]) && decide (n[k.toNat] ≤ (l.length : Int) + 1)) && (decide (0 ≤ m[k.toNat]) && decide (m[k.toNat] ≤ (l.length : Int))) else decide (n[k.toNat] = 0) && decide (m[k.toNat] = 0) := by
              unfold perAt
              rw [List.getElem?_eq_getElem hkn, List.getElem?_eq_getElem hkm]
              simp only [Bool.decide_and]
            rw [up_step hk.1 h5]
            refine den_joinB (fun g => some [B (if g then false else upAll (perAt i5 l.length n m) (k + 1).toNat (s - (k + 1)).toNat)]) (fun g => ?_) (fun J5 hJ5 => ?_)
            · simp only [List.cons_append, List.nil_append]
              refine den_ite rfl (fun h => den_ret rfl (someB (by rw [h]; rfl))) (fun h => ?_)
              subst h
              simp only [Bool.false_eq_true, if_false]
              refine den_let rfl (den_jump rfl rfl ?_)
              rw [hwk]
              exact hJ4 (k + 1) (by omega) (by omega)
            · have hn : ∀ (g : Bool), g = (!perAt i5 l.length n m k.toNat) → J5 [⟨.bool, g⟩] = some [B (perAt i5 l.length n m k.toNat && upAll (perAt i5 l.length n m) (k + 1).toNat (s - (k + 1)).toNat)] := by
                intro g hg
                rw [hJ5, hg]
                cases perAt i5 l.length n m k.toNat <;> simp
              rw [hper] at hn ⊢
              refine den_let rfl (den_ite rfl (fun h6 => ?_) (fun h6 => ?_))
              · have h6 : i5 = 2 := by simpa using h6
                subst h6
                simp only [if_true] at hn ⊢
                simp only [List.cons_append, List.nil_append]
                refine den_idx rfl rfl rfl hk.1 (List.getElem?_eq_getElem hkn) (den_let rfl (den_let rfl (den_let rfl ?_)))
                simp only [List.cons_append, List.nil_append]
                refine den_call rfl (within60 N (q + 4) n[k.toNat] 1 _) rfl (den_let rfl (den_ite rfl (fun h7 => den_jump rfl rfl (hn _ ?_)) (fun h7 => ?_)))
                · rw [show (IntKind.i64.wrap (_ + 1)) = (l.length : Int) + 1 from hwl, Bool.not_eq_true'] at h7
                  rw [h7]; rfl
                rw [show (IntKind.i64.wrap (_ + 1)) = (l.length : Int) + 1 from hwl, Bool.not_eq_false'] at h7
                rw [h7, Bool.true_and] at hn ⊢
                simp only [List.cons_append, List.nil_append]
                refine den_idx rfl rfl rfl hk.1 (List.getElem?_eq_getElem hkm) (den_let rfl (den_let rfl ?_))
                simp only [List.cons_append, List.nil_append]
                refine den_call rfl (within60 N (q + 4) m[k.toNat] 0 (l.length : Int)) rfl (den_let rfl (den_ite rfl (fun h8 => den_jump rfl rfl (hn _ ?_)) (fun h8 => ?_)))
                · rw [Bool.not_eq_true'] at h8
                  rw [h8]; rfl
                rw [Bool.not_eq_false'] at h8
                simp only [List.cons_append, List.nil_append]
                refine den_let rfl (den_ite rfl (fun h => absurd h (show ¬ ((2 : Int) != 2) = true by decide)) (fun _ => den_jump rfl rfl (hn _ ?_)))
                rw [h8]; rfl
              · have h6 : ¬ i5 = 2 := by simpa using h6
                rw [if_neg h6] at hn ⊢
                simp only [List.cons_append, List.nil_append]
                refine den_let rfl (den_ite rfl (fun _ => ?_) (fun h => absurd (show i5 = 2 by simpa using h) h6))
                simp only [List.cons_append, List.nil_append]
                refine den_idx rfl rfl rfl hk.1 (List.getElem?_eq_getElem hkn) (den_let rfl (den_let rfl (den_ite rfl (fun h7 => den_jump rfl rfl (hn _ ?_)) (fun h7 => ?_))))
                · have h7 : ¬ n[k.toNat] = 0 := by simpa using h7
                  rw [decide_eq_false h7]; rfl
                have h7 : n[k.toNat] = 0 := by simpa using h7
                rw [decide_eq_true h7, Bool.true_and] at hn ⊢
                simp only [List.cons_append, List.nil_append]
                refine den_idx rfl rfl rfl hk.1 (List.getElem?_eq_getElem hkm) (den_let rfl (den_let rfl (den_jump rfl rfl (hn _ ?_))))
                show (!(m[k.toNat] == 0)) = _
                rw [beq_dec]
          · have h5 : ¬ k < s := by simpa using h5
            refine den_ret rfl (someB ?_)
            rw [show (s - k).toNat = 0 by omega]; rfl
        · have hn : ∀ (g : Bool), g = (!roleB i0 i1 i2 i5 i6 v) → J3 [⟨.bool, g⟩] = some [B (roleB i0 i1 i2 i5 i6 v && upAll (perAt i5 l.length n m) 0 s.toNat)] := by
            intro g hg
            rw [hJ3, hg]
            cases roleB i0 i1 i2 i5 i6 v <;> simp
          refine den_let rfl (den_ite rfl (fun h1 => ?_) (fun h1 => ?_))
          · have h1 : i5 = 0 := by simpa using h1
            subst h1
            simp only [List.cons_append, List.nil_append]
            refine den_call rfl (contains62 N (q + 3) v hN hv) rfl (den_ite rfl (fun h2 => den_jump rfl rfl (hn _ ?_)) (fun h2 => den_let rfl (den_ite rfl (fun h => absurd h (show ¬ ((0 : Int) != 0) = true by decide)) (fun _ => den_let rfl (den_ite rfl (fun h => absurd h (show ¬ ((0 : Int) == 2) = true by decide)) (fun _ => den_jump rfl rfl (hn _ ?_)))))))
            · unfold roleB
              rw [h2]; simp
            · unfold roleB
              rw [h2]; simp
          · have h1 : ¬ i5 = 0 := by simpa using h1
            simp only [List.cons_append, List.nil_append]
            refine den_let rfl (den_ite rfl (fun _ => ?_) (fun h => absurd (show i5 = 0 by simpa using h) h1))
            simp only [List.cons_append, List.nil_append]
            refine den_let rfl (den_ite rfl (fun h2 => den_jump rfl rfl (hn _ ?_)) (fun h2 => den_let rfl (den_ite rfl (fun h3 => den_jump rfl rfl (hn _ ?_)) (fun h3 => ?_))))
            · have h2 : i1 < 1 := by simpa using h2
              unfold roleB
              simp [h1, h2]
            · have h3 : ¬ i2 = i0 := by simpa using h3
              unfold roleB
              simp [h1, h3]
            have h2 : ¬ i1 < 1 := by simpa using h2
            have h3 : i2 = i0 := by simpa using h3
            simp only [List.cons_append, List.nil_append]
            refine den_let rfl (den_ite rfl (fun h4 => den_let rfl (den_jump rfl rfl (hn _ ?_))) (fun h4 => den_jump rfl rfl (hn _ ?_)))
            · have h4 : i5 = 2 := by simpa using h4
              show (!(i6 == i0)) = _
              unfold roleB
              rw [beq_dec, decide_eq_false h1, decide_eq_false h2, decide_eq_true h3, decide_eq_true h4]
              simp
            · have h4 : ¬ i5 = 2 := by simpa using h4
              unfold roleB
              rw [decide_eq_false h1, decide_eq_false h2, decide_eq_true h3, decide_eq_false h4]
              rfl
      · have hn : ∀ (g : Bool), g = (!rng2 i4 i5 i7 s l.length v.length n.length m.length) → J2 [⟨.bool, g⟩] = some [B (rng2 i4 i5 i7 s l.length v.length n.length m.length && (roleB i0 i1 i2 i5 i6 v && upAll (perAt i5 l.length n m) 0 s.toNat))] := by
          intro g hg
          rw [hJ2 g (fun h => by rw [h] at hg; simpa using hg.symm), hg]
          cases rng2 i4 i5 i7 s l.length v.length n.length m.length <;> simp
        have hf : ¬ (0 ≤ i4 ∧ i4 ≤ (l.length : Int) ∧ 0 ≤ i5 ∧ i5 ≤ 2 ∧ 0 ≤ i7 ∧ i7 ≤ 20 ∧ (v.length : Int) = s ∧ (n.length : Int) = s ∧ (m.length : Int) = s) → true = (!rng2 i4 i5 i7 s l.length v.length n.length m.length) := by
          intro h
          unfold rng2
          rw [decide_eq_false h]; rfl
        refine den_let rfl (den_call rfl (within60 N (q + 4) i4 0 (l.length : Int)) rfl (den_let rfl (den_ite rfl (fun h => den_jump rfl rfl (hn _ (hf ?_))) (fun g1 => ?_))))
        · rw [Bool.not_eq_true', ← Bool.decide_and, decide_eq_false_iff_not] at h
          omega
        rw [Bool.not_eq_false', ← Bool.decide_and, decide_eq_true_eq] at g1
        simp only [List.cons_append, List.nil_append]
        refine den_call rfl (within60 N (q + 4) i5 0 2) rfl (den_let rfl (den_ite rfl (fun h => den_jump rfl rfl (hn _ (hf ?_))) (fun g2 => ?_)))
        · rw [Bool.not_eq_true', ← Bool.decide_and, decide_eq_false_iff_not] at h
          omega
        rw [Bool.not_eq_false', ← Bool.decide_and, decide_eq_true_eq] at g2
        simp only [List.cons_append, List.nil_append]
        refine den_call rfl (within60 N (q + 4) i7 0 20) rfl (den_let rfl (den_ite rfl (fun h => den_jump rfl rfl (hn _ (hf ?_))) (fun g3 => ?_)))
        · rw [Bool.not_eq_true', ← Bool.decide_and, decide_eq_false_iff_not] at h
          omega
        rw [Bool.not_eq_false', ← Bool.decide_and, decide_eq_true_eq] at g3
        simp only [List.cons_append, List.nil_append]
        refine den_let rfl (den_let rfl (den_ite rfl (fun h => den_jump rfl rfl (hn _ (hf ?_))) (fun g4 => ?_)))
        · have h : ¬ (v.length : Int) = s := by simpa using h
          omega
        have g4 : (v.length : Int) = s := by simpa using g4
        simp only [List.cons_append, List.nil_append]
        refine den_let rfl (den_let rfl (den_ite rfl (fun h => den_jump rfl rfl (hn _ (hf ?_))) (fun g5 => ?_)))
        · have h : ¬ (n.length : Int) = s := by simpa using h
          omega
        have g5 : (n.length : Int) = s := by simpa using g5
        simp only [List.cons_append, List.nil_append]
        refine den_let rfl (den_let rfl (den_jump rfl rfl (hn _ ?_)))
        show (!((m.length : Int) == s)) = _
        unfold rng2
        rw [beq_dec, Bool.not_inj_iff, decide_eq_decide]
        omega
  · have hn : ∀ (g : Bool), g = (!rng1 i0 i1 i2 i6 s l.length) → J [B g] = some [B (nodeOk i0 i1 i2 l i4 i5 i6 i7 v n m s)] := by
      intro g hg
      rw [hJ g (fun h => by rw [h] at hg; simpa using hg.symm), hg]
      unfold nodeOk
      cases rng1 i0 i1 i2 i6 s l.length <;> simp
    have hf : ¬ (1 ≤ s ∧ s ≤ 5 ∧ 0 ≤ i0 ∧ i0 < s ∧ 0 ≤ i1 ∧ i1 ≤ 100000 ∧ -1 ≤ i2 ∧ i2 ≤ s - 1 ∧ -1 ≤ i6 ∧ i6 ≤ s - 1 ∧ (l.length : Int) ≤ 400) → true = (!rng1 i0 i1 i2 i6 s l.length) := by
      intro h
      unfold rng1
      rw [decide_eq_false h]; rfl
    refine den_call rfl (server59 N (q + 3) i0 s) rfl (den_let rfl (den_ite rfl (fun h => den_jump rfl rfl (hn _ (hf ?_))) (fun h1 => ?_)))
    · simp only [Bool.not_eq_true', decide_eq_false_iff_not] at h
      omega
    simp only [Bool.not_eq_false', decide_eq_true_eq] at h1
    have hw : IntKind.i64.wrap (s - 1) = s - 1 := wrap_id (by omega) (by omega)
    simp only [List.cons_append, List.nil_append]
    refine den_call rfl (within60 N (q + 4) i1 0 100000) rfl (den_let rfl (den_ite rfl (fun h => den_jump rfl rfl (hn _ (hf ?_))) (fun h2 => ?_)))
    · rw [Bool.not_eq_true', ← Bool.decide_and, decide_eq_false_iff_not] at h
      omega
    rw [Bool.not_eq_false', ← Bool.decide_and, decide_eq_true_eq] at h2
    simp only [List.cons_append, List.nil_append]
    refine den_let rfl (den_call rfl (within60 N (q + 4) i2 (-1) _) rfl (den_let rfl (den_ite rfl (fun h => den_jump rfl rfl (hn _ (hf ?_))) (fun h3 => ?_))))
    · rw [hw, Bool.not_eq_true', ← Bool.decide_and, decide_eq_false_iff_not] at h
      omega
    rw [hw, Bool.not_eq_false', ← Bool.decide_and, decide_eq_true_eq] at h3
    simp only [List.cons_append, List.nil_append]
    refine den_let rfl (den_call rfl (within60 N (q + 4) i6 (-1) _) rfl (den_let rfl (den_ite rfl (fun h => den_jump rfl rfl (hn _ (hf ?_))) (fun h4 => ?_))))
    · rw [hw, Bool.not_eq_true', ← Bool.decide_and, decide_eq_false_iff_not] at h
      omega
    rw [hw, Bool.not_eq_false', ← Bool.decide_and, decide_eq_true_eq] at h4
    simp only [List.cons_append, List.nil_append]
    refine den_let rfl (den_let rfl (den_jump rfl rfl (hn _ ?_)))
    show decide ((l.length : Int) > 400) = _
    unfold rng1
    rw [← decide_not, decide_eq_decide]
    omega

/-- The term ahead of place i. -/
def tp (l : List (D ITy)) (i : Nat) : Int :=
  match i with
  | 0 => 1
  | j + 1 => match l[j]? with
    | some x => x.1
    | none => 1
def vAt (i5 : Int) (v : List Bool) (i : Nat) : Bool := !(decide (i5 = 0) && (v[i]?).getD false)
def roleA (i0 i1 i2 i5 : Int) : Bool := !((!decide (i5 = 0)) && (decide (i1 < 1) || !decide (i2 = i0)))
def leadA (i0 i5 i6 : Int) : Bool := !decide (i5 = 2) || decide (i6 = i0)
theorem upAll_and (f g : Nat → Bool) : ∀ (d i : Nat), upAll (fun i => f i && g i) i d = (upAll f i d && upAll g i d)
  | 0, _ => rfl
  | d + 1, i => by
    show (f i && g i && upAll (fun i => f i && g i) (i + 1) d) = _
    rw [upAll_and f g d (i + 1)]
    show _ = ((f i && upAll f (i + 1) d) && (g i && upAll g (i + 1) d))
    cases f i <;> cases g i <;> cases upAll f (i + 1) d <;> rfl
theorem upAll_v (i5 : Int) (v : List Bool) : ∀ (d i : Nat), i + d = v.length → upAll (vAt i5 v) i d = !(decide (i5 = 0) && anyB (v.drop i))
  | 0, i, h => by
    unfold anyB
    rw [List.drop_of_length_le (by omega)]
    simp [upAll]
  | d + 1, i, h => by
    have hlt : i < v.length := by omega
    show (vAt i5 v i && upAll (vAt i5 v) (i + 1) d) = _
    rw [upAll_v i5 v d (i + 1) (by omega)]
    unfold vAt anyB
    rw [List.getElem?_eq_getElem hlt, List.drop_eq_getElem_cons hlt, List.all_cons]
    cases decide (i5 = 0) <;> cases v[i] <;> simp
theorem logOk_one {i1 : Int} {l : List (D ITy)} {t : Int} (h : t ≤ 1) : logOk i1 t l = logOk i1 1 l := by
  cases l with
  | nil => rfl
  | cons x l =>
    unfold logOk itemOk
    by_cases h1 : 1 ≤ x.1
    · have h1' : (1 : Int) ≤ x.1 := h1
      rw [decide_eq_true h1, decide_eq_true (show t ≤ x.1 by omega)]
    · rw [decide_eq_false h1]; simp
theorem tp_next {l : List (D ITy)} {i : Int} (h0 : 0 ≤ i) (h : i.toNat < l.length) : tp l (i + 1).toNat = l[i.toNat].1 := by
  rw [show (i + 1).toNat = i.toNat + 1 by omega]
  unfold tp
  dsimp only
  rw [List.getElem?_eq_getElem h]
def perS (i5 len : Int) (n m : List Int) (v : List Bool) (i : Nat) : Bool := perAt i5 len n m i && vAt i5 v i
set_option maxHeartbeats 8000000 in
theorem node13' (N q : Nat) (i0 i1 i2 : Int) (l : List (D ITy)) (i4 i5 i6 i7 : Int) (v : List Bool) (n m : List Int) (s : Int) (hN : big ≤ N) (hl : l.length < big) (hx : ∀ y ∈ l, okI y) (hv : v.length < big) :
    Lv N (q + 6) 13 [⟨NTy, (i0, i1, i2, l, i4, i5, i6, i7, v, n, m, ())⟩, I s] =
      some [B ((rng1 i0 i1 i2 i6 s l.length && rng2 i4 i5 i7 s l.length v.length n.length m.length) && (logOk i1 1 l && (roleA i0 i1 i2 i5 && (upAll (perS i5 l.length n m v) 0 s.toNat && leadA i0 i5 i6))))] := by
  refine level_den rfl rfl ?_ rfl
  unfold ir13
  refine den_let rfl ?_
  simp only [List.cons_append, List.nil_append]
  obtain ⟨R, hR⟩ : ∃ R, R = (roleA i0 i1 i2 i5 && (upAll (perS i5 l.length n m v) 0 s.toNat && leadA i0 i5 i6)) := ⟨_, rfl⟩
  rw [← hR]
  refine den_joinP (fun b => b = false → (rng1 i0 i1 i2 i6 s l.length && rng2 i4 i5 i7 s l.length v.length n.length m.length) = true) (fun b => some [B (if b then false else logOk i1 1 l && R)]) (fun b hb => ?_) (fun J hJ => ?_)
  · simp only [List.cons_append, List.nil_append]
    refine den_ite rfl (fun h => den_ret rfl (someB (by rw [h]; rfl))) (fun h => ?_)
    have hr := hb h
    unfold rng1 rng2 at hr
    rw [Bool.and_eq_true, decide_eq_true_eq, decide_eq_true_eq] at hr
    clear hb
    subst h
    simp only [Bool.false_eq_true, if_false]
    refine den_loop (den_jump rfl rfl ?_)
    rw [show logOk i1 1 l = logOk i1 (tp l (0 : Int).toNat) (l.drop (0 : Int).toNat) from rfl]
    refine rounds_ind (α := Int) (enc := fun i => [B false, I i]) (ans := fun i => some [B (logOk i1 (tp l i.toNat) (l.drop i.toNat) && R)]) (meas := fun i => l.length - i.toNat) (Q := fun i => 0 ≤ i ∧ i ≤ l.length) ?_ N 0 ⟨Int.le_refl _, by omega⟩ (by show l.length - 0 < N; omega)
    rintro J i ⟨hi0, hi1⟩ hJ1
    simp only [List.cons_append, List.nil_append]
    refine den_let rfl (den_let rfl (den_ite rfl (fun h2 => ?_) (fun h2 => ?_)))
    · have h2 : i < l.length := by simpa using h2
      have hlt : i.toNat < l.length := by omega
      simp only [List.cons_append, List.nil_append]
      refine den_joinB (fun g => some [B (if g then false else logOk i1 l[i.toNat].1 (l.drop (i + 1).toNat) && R)]) (fun g => ?_) (fun J2 hJ2 => ?_)
      · simp only [List.cons_append, List.nil_append]
        refine den_ite rfl (fun h => den_ret rfl (someB (by rw [h]; rfl))) (fun h => ?_)
        subst h
        simp only [Bool.false_eq_true, if_false]
        refine den_let rfl (den_jump rfl rfl ?_)
        rw [up hi0 hi1 hl, ← tp_next hi0 hlt]
        exact hJ1 (i + 1) ⟨by omega, by omega⟩ (by omega)
      · have hn : ∀ (g : Bool), g = (!(itemOk l[i.toNat] && (decide (tp l i.toNat ≤ l[i.toNat].1) && decide (l[i.toNat].1 ≤ i1)))) → J2 [⟨.bool, g⟩] = some [B (logOk i1 (tp l i.toNat) (l.drop i.toNat) && R)] := by
          intro g hg
          rw [hJ2, hg, log_drop hi0 hlt]
          cases itemOk l[i.toNat] <;> cases decide (tp l i.toNat ≤ l[i.toNat].1) <;> cases decide (l[i.toNat].1 ≤ i1) <;> simp
        refine den_idx rfl rfl rfl hi0 (List.getElem?_eq_getElem hlt) (den_let rfl (den_call rfl (item58 N (q + 1) l[i.toNat] hN (hx _ (List.getElem_mem hlt))) rfl (den_let rfl (den_ite rfl (fun h => den_jump rfl rfl (hn _ ?_)) (fun h => ?_)))))
        · have h : itemOk l[i.toNat] = false := by simpa using h
          rw [h]; rfl
        have h : itemOk l[i.toNat] = true := by simpa using h
        rw [h, Bool.true_and] at hn
        simp only [List.cons_append, List.nil_append]
        refine den_idx rfl rfl rfl hi0 (List.getElem?_eq_getElem hlt) (den_let rfl (den_let rfl (den_ite rfl (fun h3 => den_jump rfl rfl (hn _ ?_)) (fun h3 => ?_))))
        · have h3 : l[i.toNat].1 > i1 := of_decide_eq_true h3
          rw [decide_eq_false (show ¬ l[i.toNat].1 ≤ i1 from Int.not_le.2 h3), Bool.and_false]; rfl
        have h3 : ¬ l[i.toNat].1 > i1 := of_decide_eq_false h3
        rw [decide_eq_true (show l[i.toNat].1 ≤ i1 from Int.not_lt.1 h3), Bool.and_true] at hn
        simp only [List.cons_append, List.nil_append]
        refine den_let rfl (den_ite rfl (fun h4 => ?_) (fun h4 => den_jump rfl rfl (hn _ ?_)))
        · have h4 : i > 0 := of_decide_eq_true h4
          have hw : IntKind.i64.wrap (i - 1) = i - 1 := by unfold big at hl; exact wrap_id (by omega) (by omega)
          have hlp : (IntKind.i64.wrap (i - 1)).toNat < l.length := by rw [hw]; omega
          have ht : tp l i.toNat = l[(IntKind.i64.wrap (i - 1)).toNat].1 := by
            have := tp_next (l := l) (i := i - 1) (by omega) (by omega)
            rw [show i - 1 + 1 = i by omega] at this
            rw [this]
            simp only [hw]
          simp only [List.cons_append, List.nil_append]
          refine den_let rfl (den_idx (n := IntKind.i64.wrap (i - 1)) rfl rfl rfl (by rw [hw]; omega) (List.getElem?_eq_getElem hlp) (den_let rfl ?_))
          simp only [List.cons_append, List.nil_append]
          refine den_idx rfl rfl rfl hi0 (List.getElem?_eq_getElem hlt) (den_let rfl (den_let rfl (den_jump rfl rfl (hn _ ?_))))
          rw [ht]
          show decide (l[(IntKind.i64.wrap (i - 1)).toNat].1 > l[i.toNat].1) = _
          rw [← decide_not, decide_eq_decide]
          exact Int.not_le.symm
        · have h4 : ¬ i > 0 := of_decide_eq_false h4
          have h0 : i.toNat = 0 := by omega
          have ht1 : tp l i.toNat = 1 := by rw [h0]; rfl
          unfold itemOk at h
          simp only [Bool.and_eq_true, decide_eq_true_eq] at h
          rw [ht1, decide_eq_true (show (1 : Int) ≤ l[i.toNat].1 from h.1.1)]; rfl
    · have h2 : ¬ i < l.length := by simpa using h2
      show _ = some [B (logOk i1 (tp l i.toNat) (l.drop i.toNat) && R)]
      rw [show l.drop i.toNat = [] from List.drop_of_length_le (by omega), hR]
      simp only [logOk, Bool.true_and]
      refine den_joinB (fun b => some [B (if b then false else upAll (perS i5 l.length n m v) 0 s.toNat && leadA i0 i5 i6)]) (fun b => ?_) (fun J2 hJ2 => ?_)
      · simp only [List.cons_append, List.nil_append]
        refine den_ite rfl (fun h => den_ret rfl (someB (by rw [h]; rfl))) (fun h => ?_)
        subst h
        simp only [Bool.false_eq_true, if_false]
        rw [show upAll (perS i5 l.length n m v) 0 s.toNat = upAll (perS i5 l.length n m v) (0 : Int).toNat (s - 0).toNat by rw [Int.sub_zero]; rfl]
        refine den_loop (den_jump rfl rfl ?_)
        refine rounds_ind (α := Int) (enc := fun i => [B false, I i]) (ans := fun i => some [B (upAll (perS i5 l.length n m v) i.toNat (s - i).toNat && leadA i0 i5 i6)]) (meas := fun i => (s - i).toNat) (Q := fun i => 0 ≤ i ∧ i ≤ s) ?_ N 0 ⟨by omega, by omega⟩ (by unfold big at hN; omega)
        intro J4 k hk hJ4
        simp only [List.cons_append, List.nil_append]
        refine den_let rfl (den_ite rfl (fun h5 => ?_) (fun h5 => ?_))
        · have h5 : k < s := by simpa using h5
          have hkn : k.toNat < n.length := by omega
          have hkm : k.toNat < m.length := by omega
          have hkv : k.toNat < v.length := by omega
          have hwk : IntKind.i64.wrap (k + 1) = k + 1 := wrap_id (by omega) (by omega)
          have hwl : IntKind.i64.wrap ((l.length : Int) + 1) = l.length + 1 := wrap_id (by omega) (by omega)
          obtain ⟨p4, hp4⟩ : ∃ p4, p4 = (if i5 = 2 then (decide (1 ≤ n[k.toNat]) && decide (n[k.toNat] ≤ (l.length : Int) + 1)) && (decide (0 ≤ m[k.toNat]) && decide (m[k.toNat] ≤ (l.length : Int))) else true) := ⟨_, rfl⟩
          obtain ⟨p5, hp5⟩ : ∃ p5, p5 = (if i5 = 2 then true else decide (n[k.toNat] = 0) && decide (m[k.toNat] = 0)) := ⟨_, rfl⟩
          obtain ⟨p6, hp6⟩ : ∃ p6, p6 = !(decide (i5 = 0) && v[k.toNat]) := ⟨_, rfl⟩
          have hper : perS i5 l.length n m v k.toNat = (p4 && (p5 && p6)) := by
            unfold perS perAt vAt
            rw [List.getElem?_eq_getElem hkn, List.getElem?_eq_getElem hkm, List.getElem?_eq_getElem hkv, hp4, hp5, hp6]
            by_cases h2 : i5 = 2
            · simp only [if_pos h2, Bool.decide_and, Bool.true_and]; rfl
            · simp only [if_neg h2, Bool.true_and]; rfl
          rw [up_step hk.1 h5, hper]
          obtain ⟨E, hE⟩ : ∃ E, E = (upAll (perS i5 l.length n m v) (k + 1).toNat (s - (k + 1)).toNat && leadA i0 i5 i6) := ⟨_, rfl⟩
          rw [show (p4 && (p5 && p6) && upAll (perS i5 l.length n m v) (k + 1).toNat (s - (k + 1)).toNat && leadA i0 i5 i6) = (p4 && (p5 && (p6 && E))) by rw [hE]; cases p4 <;> cases p5 <;> cases p6 <;> simp]
          refine den_joinB (fun g => some [B (if g then false else p5 && (p6 && E))]) (fun g => ?_) (fun J5 hJ5 => ?_)
          · simp only [List.cons_append, List.nil_append]
            refine den_ite rfl (fun h => den_ret rfl (someB (by rw [h]; rfl))) (fun h => ?_)
            subst h
            simp only [Bool.false_eq_true, if_false]
            refine den_joinB (fun g => some [B (if g then false else p6 && E)]) (fun g => ?_) (fun J6 hJ6 => ?_)
            · simp only [List.cons_append, List.nil_append]
              refine den_ite rfl (fun h => den_ret rfl (someB (by rw [h]; rfl))) (fun h => ?_)
              subst h
              simp only [Bool.false_eq_true, if_false]
              refine den_joinB (fun g => some [B (if g then false else E)]) (fun g => ?_) (fun J7 hJ7 => ?_)
              · simp only [List.cons_append, List.nil_append]
                refine den_ite rfl (fun h => den_ret rfl (someB (by rw [h]; rfl))) (fun h => ?_)
                subst h
                simp only [Bool.false_eq_true, if_false]
                refine den_let rfl (den_jump rfl rfl ?_)
                rw [hwk, hE]
                exact hJ4 (k + 1) (by omega) (by omega)
              · refine den_let rfl (den_ite rfl (fun h6 => ?_) (fun h6 => den_jump rfl rfl ?_))
                · have h6 : i5 = 0 := by simpa using h6
                  refine den_idx rfl rfl rfl hk.1 (List.getElem?_eq_getElem hkv) (den_let rfl (den_jump rfl rfl ?_))
                  rw [hJ7, hp6, decide_eq_true h6]
                  cases v[k.toNat] <;> simp
                · have h6 : ¬ i5 = 0 := by simpa using h6
                  rw [hJ7, hp6, decide_eq_false h6]
                  simp
            · have hn : ∀ (g : Bool), g = (!p5) → J6 [⟨.bool, g⟩] = some [B (p5 && (p6 && E))] := by
                intro g hg
                rw [hJ6, hg]
                cases p5 <;> simp
              refine den_let rfl (den_ite rfl (fun h6 => ?_) (fun h6 => den_jump rfl rfl (hn _ ?_)))
              · have h6 : ¬ i5 = 2 := by simpa using h6
                rw [if_neg h6] at hp5
                simp only [List.cons_append, List.nil_append]
                refine den_idx rfl rfl rfl hk.1 (List.getElem?_eq_getElem hkn) (den_let rfl (den_let rfl (den_ite rfl (fun h7 => den_jump rfl rfl (hn _ ?_)) (fun h7 => ?_))))
                · have h7 : ¬ n[k.toNat] = 0 := by simpa using h7
                  rw [hp5, decide_eq_false h7]; rfl
                have h7 : n[k.toNat] = 0 := by simpa using h7
                simp only [List.cons_append, List.nil_append]
                refine den_idx rfl rfl rfl hk.1 (List.getElem?_eq_getElem hkm) (den_let rfl (den_let rfl (den_jump rfl rfl (hn _ ?_))))
                show (!(m[k.toNat] == 0)) = _
                rw [beq_dec, hp5, decide_eq_true h7, Bool.true_and]
              · have h6 : i5 = 2 := by simpa using h6
                rw [hp5, if_pos h6]; rfl
          · have hn : ∀ (g : Bool), g = (!p4) → J5 [⟨.bool, g⟩] = some [B (p4 && (p5 && (p6 && E)))] := by
              intro g hg
              rw [hJ5, hg]
              cases p4 <;> simp
            refine den_let rfl (den_ite rfl (fun h6 => ?_) (fun h6 => den_jump rfl rfl (hn _ ?_)))
            · have h6 : i5 = 2 := by simpa using h6
              rw [if_pos h6] at hp4
              simp only [List.cons_append, List.nil_append]
              refine den_idx rfl rfl rfl hk.1 (List.getElem?_eq_getElem hkn) (den_let rfl (den_let rfl (den_ite rfl (fun h7 => den_jump rfl rfl (hn _ ?_)) (fun h7 => ?_))))
              · have h7 : n[k.toNat] < 1 := of_decide_eq_true h7
                rw [hp4, decide_eq_false (show ¬ 1 ≤ n[k.toNat] by omega)]; rfl
              have h7 : ¬ n[k.toNat] < 1 := of_decide_eq_false h7
              simp only [List.cons_append, List.nil_append]
              refine den_idx rfl rfl rfl hk.1 (List.getElem?_eq_getElem hkn) (den_let rfl (den_let rfl (den_let rfl ?_)))
              simp only [List.cons_append, List.nil_append]
              refine den_let rfl (den_ite rfl (fun h8 => den_jump rfl rfl (hn _ ?_)) (fun h8 => ?_))
              · have h8 : n[k.toNat] > IntKind.i64.wrap ((l.length : Int) + 1) := of_decide_eq_true h8
                rw [hwl] at h8
                rw [hp4, decide_eq_false (show ¬ n[k.toNat] ≤ (l.length : Int) + 1 by omega), Bool.and_false]; rfl
              have h8 : ¬ n[k.toNat] > IntKind.i64.wrap ((l.length : Int) + 1) := of_decide_eq_false h8
              rw [hwl] at h8
              rw [decide_eq_true (show 1 ≤ n[k.toNat] by omega), decide_eq_true (show n[k.toNat] ≤ (l.length : Int) + 1 by omega)] at hp4
              simp only [List.cons_append, List.nil_append]
              refine den_idx rfl rfl rfl hk.1 (List.getElem?_eq_getElem hkm) (den_let rfl (den_let rfl (den_ite rfl (fun h9 => den_jump rfl rfl (hn _ ?_)) (fun h9 => ?_))))
              · have h9 : m[k.toNat] < 0 := of_decide_eq_true h9
                rw [hp4, decide_eq_false (show ¬ 0 ≤ m[k.toNat] by omega)]; rfl
              have h9 : ¬ m[k.toNat] < 0 := of_decide_eq_false h9
              simp only [List.cons_append, List.nil_append]
              refine den_idx rfl rfl rfl hk.1 (List.getElem?_eq_getElem hkm) (den_let rfl (den_let rfl ?_))
              simp only [List.cons_append, List.nil_append]
              refine den_let rfl (den_jump rfl rfl (hn _ ?_))
              show decide (m[k.toNat] > (l.length : Int)) = _
              rw [hp4, decide_eq_true (show 0 ≤ m[k.toNat] by omega), Bool.true_and, Bool.true_and, Bool.true_and, ← decide_not, decide_eq_decide]
              omega
            · have h6 : ¬ i5 = 2 := by simpa using h6
              rw [hp4, if_neg h6]; rfl
        · have h5 : ¬ k < s := by simpa using h5
          rw [show (s - k).toNat = 0 by omega]
          refine den_let rfl (den_ite rfl (fun h6 => den_ret rfl (someB ?_)) (fun h6 => den_let rfl (den_ret rfl (someB ?_))))
          · have h6 : ¬ i5 = 2 := by simpa using h6
            unfold leadA
            rw [decide_eq_false h6]; rfl
          · have h6 : i5 = 2 := by simpa using h6
            unfold leadA
            rw [decide_eq_true h6]
            show (true && (!true || decide (i6 = i0))) = (i6 == i0)
            rw [beq_dec]; rfl
      · have hn : ∀ (g : Bool), g = (!roleA i0 i1 i2 i5) → J2 [⟨.bool, g⟩] = some [B (roleA i0 i1 i2 i5 && (upAll (perS i5 l.length n m v) 0 s.toNat && leadA i0 i5 i6))] := by
          intro g hg
          rw [hJ2, hg]
          cases roleA i0 i1 i2 i5 <;> simp
        refine den_let rfl (den_ite rfl (fun h6 => ?_) (fun h6 => den_jump rfl rfl (hn _ ?_)))
        · have h6 : ¬ i5 = 0 := by simpa using h6
          refine den_let rfl (den_ite rfl (fun h7 => den_jump rfl rfl (hn _ ?_)) (fun h7 => den_let rfl (den_jump rfl rfl (hn _ ?_))))
          · have h7 : i1 < 1 := of_decide_eq_true h7
            unfold roleA
            rw [decide_eq_false h6, decide_eq_true h7]; rfl
          · have h7 : ¬ i1 < 1 := of_decide_eq_false h7
            unfold roleA
            rw [decide_eq_false h6, decide_eq_false h7]
            show (!(i2 == i0)) = _
            rw [beq_dec]
            simp
        · have h6 : i5 = 0 := by simpa using h6
          unfold roleA
          rw [decide_eq_true h6]; rfl
  · have hn : ∀ (g : Bool), g = (!(rng1 i0 i1 i2 i6 s l.length && rng2 i4 i5 i7 s l.length v.length n.length m.length)) → J [B g] = some [B ((rng1 i0 i1 i2 i6 s l.length && rng2 i4 i5 i7 s l.length v.length n.length m.length) && (logOk i1 1 l && R))] := by
      intro g hg
      rw [hJ g (fun h => by rw [h] at hg; simpa using hg.symm), hg]
      cases (rng1 i0 i1 i2 i6 s l.length && rng2 i4 i5 i7 s l.length v.length n.length m.length) <;> simp
    have hf : ¬ ((1 ≤ s ∧ s ≤ 5 ∧ 0 ≤ i0 ∧ i0 < s ∧ 0 ≤ i1 ∧ i1 ≤ 100000 ∧ -1 ≤ i2 ∧ i2 ≤ s - 1 ∧ -1 ≤ i6 ∧ i6 ≤ s - 1 ∧ (l.length : Int) ≤ 400) ∧ (0 ≤ i4 ∧ i4 ≤ (l.length : Int) ∧ 0 ≤ i5 ∧ i5 ≤ 2 ∧ 0 ≤ i7 ∧ i7 ≤ 20 ∧ (v.length : Int) = s ∧ (n.length : Int) = s ∧ (m.length : Int) = s)) →
        true = (!(rng1 i0 i1 i2 i6 s l.length && rng2 i4 i5 i7 s l.length v.length n.length m.length)) := by
      intro h
      unfold rng1 rng2
      rw [← Bool.decide_and, decide_eq_false h]; rfl
    refine den_call rfl (servers55 N (q + 4) s) rfl (den_let rfl (den_ite rfl (fun h => den_jump rfl rfl (hn _ (hf ?_))) (fun c0 => ?_)))
    · rw [Bool.not_eq_true', ← Bool.decide_and, decide_eq_false_iff_not] at h
      omega
    rw [Bool.not_eq_false', ← Bool.decide_and, decide_eq_true_eq] at c0
    simp only [List.cons_append, List.nil_append]
    refine den_let rfl ((den_ite rfl (fun h => den_jump rfl rfl (hn _ (hf ?_))) (fun c1 => ?_)))
    · have h : i0 < 0 := of_decide_eq_true h
      omega
    have c1 : ¬ (i0 < 0) := of_decide_eq_false c1
    simp only [List.cons_append, List.nil_append]
    refine den_let rfl ((den_ite rfl (fun h => den_jump rfl rfl (hn _ (hf ?_))) (fun c2 => ?_)))
    · have h : i0 ≥ s := of_decide_eq_true h
      omega
    have c2 : ¬ (i0 ≥ s) := of_decide_eq_false c2
    simp only [List.cons_append, List.nil_append]
    refine den_call rfl (term56 N (q + 4) i1) rfl (den_let rfl (den_ite rfl (fun h => den_jump rfl rfl (hn _ (hf ?_))) (fun c3 => ?_)))
    · rw [Bool.not_eq_true', ← Bool.decide_and, decide_eq_false_iff_not] at h
      omega
    rw [Bool.not_eq_false', ← Bool.decide_and, decide_eq_true_eq] at c3
    simp only [List.cons_append, List.nil_append]
    refine den_call rfl (who57 N (q + 4) i2 s) rfl (den_let rfl (den_ite rfl (fun h => den_jump rfl rfl (hn _ (hf ?_))) (fun c4 => ?_)))
    · rw [Bool.not_eq_true', ← Bool.decide_and, decide_eq_false_iff_not] at h
      omega
    rw [Bool.not_eq_false', ← Bool.decide_and, decide_eq_true_eq] at c4
    simp only [List.cons_append, List.nil_append]
    refine den_let rfl (den_let rfl (den_ite rfl (fun h => den_jump rfl rfl (hn _ (hf ?_))) (fun c5 => ?_)))
    · have h : (l.length : Int) > 400 := of_decide_eq_true h
      omega
    have c5 : ¬ ((l.length : Int) > 400) := of_decide_eq_false c5
    simp only [List.cons_append, List.nil_append]
    refine den_let rfl ((den_ite rfl (fun h => den_jump rfl rfl (hn _ (hf ?_))) (fun c6 => ?_)))
    · have h : i4 < 0 := of_decide_eq_true h
      omega
    have c6 : ¬ (i4 < 0) := of_decide_eq_false c6
    simp only [List.cons_append, List.nil_append]
    refine den_let rfl (den_let rfl (den_ite rfl (fun h => den_jump rfl rfl (hn _ (hf ?_))) (fun c7 => ?_)))
    · have h : i4 > (l.length : Int) := of_decide_eq_true h
      omega
    have c7 : ¬ (i4 > (l.length : Int)) := of_decide_eq_false c7
    simp only [List.cons_append, List.nil_append]
    refine den_let rfl ((den_ite rfl (fun h => den_jump rfl rfl (hn _ (hf ?_))) (fun c8 => ?_)))
    · have h : i5 < 0 := of_decide_eq_true h
      omega
    have c8 : ¬ (i5 < 0) := of_decide_eq_false c8
    simp only [List.cons_append, List.nil_append]
    refine den_let rfl ((den_ite rfl (fun h => den_jump rfl rfl (hn _ (hf ?_))) (fun c9 => ?_)))
    · have h : i5 > 2 := of_decide_eq_true h
      omega
    have c9 : ¬ (i5 > 2) := of_decide_eq_false c9
    simp only [List.cons_append, List.nil_append]
    refine den_call rfl (who57 N (q + 4) i6 s) rfl (den_let rfl (den_ite rfl (fun h => den_jump rfl rfl (hn _ (hf ?_))) (fun c10 => ?_)))
    · rw [Bool.not_eq_true', ← Bool.decide_and, decide_eq_false_iff_not] at h
      omega
    rw [Bool.not_eq_false', ← Bool.decide_and, decide_eq_true_eq] at c10
    simp only [List.cons_append, List.nil_append]
    refine den_let rfl ((den_ite rfl (fun h => den_jump rfl rfl (hn _ (hf ?_))) (fun c11 => ?_)))
    · have h : i7 < 0 := of_decide_eq_true h
      omega
    have c11 : ¬ (i7 < 0) := of_decide_eq_false c11
    simp only [List.cons_append, List.nil_append]
    refine den_let rfl ((den_ite rfl (fun h => den_jump rfl rfl (hn _ (hf ?_))) (fun c12 => ?_)))
    · have h : i7 > 20 := of_decide_eq_true h
      omega
    have c12 : ¬ (i7 > 20) := of_decide_eq_false c12
    simp only [List.cons_append, List.nil_append]
    refine den_let rfl (den_let rfl (den_ite rfl (fun h => den_jump rfl rfl (hn _ (hf ?_))) (fun c13 => ?_)))
    · have h : ¬ ((v.length : Int) = s) := by simpa using h
      omega
    have c13 : (v.length : Int) = s := by simpa using c13
    simp only [List.cons_append, List.nil_append]
    refine den_let rfl (den_let rfl (den_ite rfl (fun h => den_jump rfl rfl (hn _ (hf ?_))) (fun c14 => ?_)))
    · have h : ¬ ((n.length : Int) = s) := by simpa using h
      omega
    have c14 : (n.length : Int) = s := by simpa using c14
    simp only [List.cons_append, List.nil_append]
    refine den_let rfl (den_let rfl (den_jump rfl rfl (hn _ ?_)))
    show (!((m.length : Int) == s)) = _
    unfold rng1 rng2
    rw [← Bool.decide_and, beq_dec, Bool.not_inj_iff, decide_eq_decide]
    omega

theorem node13 (N q : Nat) (i0 i1 i2 : Int) (l : List (D ITy)) (i4 i5 i6 i7 : Int) (v : List Bool) (n m : List Int) (s : Int) (hN : big ≤ N) (hl : l.length < big) (hx : ∀ y ∈ l, okI y) (hv : v.length < big) :
    Lv N (q + 6) 13 [⟨NTy, (i0, i1, i2, l, i4, i5, i6, i7, v, n, m, ())⟩, I s] = some [B (nodeOk i0 i1 i2 l i4 i5 i6 i7 v n m s)] := by
  rw [node13' N q i0 i1 i2 l i4 i5 i6 i7 v n m s hN hl hx hv]
  refine someB ?_
  unfold nodeOk
  cases h2 : rng2 i4 i5 i7 s l.length v.length n.length m.length with
  | false => simp
  | true =>
    have hs : (v.length : Int) = s := by
      unfold rng2 at h2
      rw [decide_eq_true_eq] at h2
      omega
    have hu : upAll (perS i5 l.length n m v) 0 s.toNat = (upAll (perAt i5 l.length n m) 0 s.toNat && !(decide (i5 = 0) && anyB v)) := by
      have h1 := upAll_and (perAt i5 l.length n m) (vAt i5 v) s.toNat 0
      have h3 := upAll_v i5 v s.toNat 0 (by omega)
      rw [List.drop_zero] at h3
      rw [← h3, ← h1]; rfl
    rw [hu]
    unfold roleA leadA roleB
    generalize upAll (perAt i5 l.length n m) 0 s.toNat = U
    generalize logOk i1 1 l = L
    generalize rng1 i0 i1 i2 i6 s l.length = R
    generalize anyB v = A
    generalize decide (i5 = 0) = a
    generalize decide (i1 < 1) = b
    generalize decide (i2 = i0) = c
    generalize decide (i5 = 2) = d
    generalize decide (i6 = i0) = e
    cases U <;> cases L <;> cases R <;> cases A <;> cases a <;> cases b <;> cases c <;> cases d <;> cases e <;> rfl
theorem nodeOk_facts {i0 i1 i2 : Int} {l : List (D ITy)} {i4 i5 i6 i7 : Int} {v : List Bool} {n m : List Int} {s : Int} (h : nodeOk i0 i1 i2 l i4 i5 i6 i7 v n m s = true) :
    1 ≤ s ∧ s ≤ 5 ∧ (l.length : Int) ≤ 400 ∧ (v.length : Int) = s ∧ (m.length : Int) = s := by
  unfold nodeOk rng1 rng2 at h
  simp only [Bool.and_eq_true, decide_eq_true_eq] at h
  omega
end Go.Proofs.Ytecleaangfcloaa.VtFnExactBehind
