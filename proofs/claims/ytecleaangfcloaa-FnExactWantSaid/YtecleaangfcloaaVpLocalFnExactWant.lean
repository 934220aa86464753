/- What is asked of a Check and of a Local, by the program and by the reference, is one. Lemmas alone, no statement. -/
import Derived.Test.YtecleaangfcloaaVpGenFnExactWant
namespace Go.Proofs.Ytecleaangfcloaa.VtFnExactWant
set_option linter.unusedVariables false
set_option linter.unusedSimpArgs false
open Go Go.Vm
abbrev CheckT : Ty := .pair (.sl (.int .u8)) (.pair (.int .i64) (.pair (.int .i64) (.pair (.int .i64) (.pair (.int .i64) (.pair (.int .i64) .unit)))))
abbrev ServT : Ty := .pair (.sl (.int .u8)) (.pair (.sl CheckT) .unit)
abbrev LocalT : Ty := .pair (.sl (.int .u8)) (.pair (.sl ServT) .unit)
def stroke (l : List Int) : Bool := l.any (fun c => decide (47 = c))
def partOk (l : List Int) : Bool := !stroke l && keyOk l
theorem drop_any {α : Type} {p : α → Bool} {l : List α} {i : Int} (h0 : 0 ≤ i) (h : i.toNat < l.length) : (l.drop i.toNat).any p = (p l[i.toNat] || (l.drop (i + 1).toNat).any p) := by
  rw [show (i + 1).toNat = i.toNat + 1 by omega, List.drop_eq_getElem_cons h, List.any_cons]
theorem drop_allP {α : Type} {p : α → Bool} {l : List α} {i : Int} (h0 : 0 ≤ i) (h : i.toNat < l.length) : (l.drop i.toNat).all p = (p l[i.toNat] && (l.drop (i + 1).toNat).all p) := by
  rw [show (i + 1).toNat = i.toNat + 1 by omega, List.drop_eq_getElem_cons h, List.all_cons]
theorem eq_dec (a b : Int) : (a == b) = decide (b = a) := by rw [beq_dec, decide_eq_decide]; exact eq_comm
theorem part86 (N k : Nat) (l : List Int) (hN : big ≤ N) (hm : l.length < big) : Lv N (k + 2) 145 [S (.int .u8) l] = some [B (partOk l)] := by
  refine level_den rfl rfl ?_ rfl
  unfold ir145 partOk
  refine den_loop (den_jump rfl rfl ?_)
  refine rounds_ind (α := Int) (enc := fun i => [B false, I i]) (ans := fun i => some [B (!(l.drop i.toNat).any (fun c => decide (47 = c)) && keyOk l)]) (meas := fun i => l.length - i.toNat) (Q := fun i => 0 ≤ i ∧ i ≤ l.length) (fun J i hi hJ => ?_) N 0 (by omega) (by simp; omega)
  refine den_let rfl (den_let rfl (den_ite rfl (fun h => ?_) (fun h => ?_)))
  · have h : i < l.length := by simpa using h
    have hlt : i.toNat < l.length := by omega
    rw [drop_any hi.1 hlt, Bool.not_or, Bool.and_assoc]
    refine den_idx rfl rfl rfl hi.1 (List.getElem?_eq_getElem hlt) (den_let rfl (den_let rfl (den_chk rfl (by rw [Bool.not_not]; exact eq_dec _ _) (fun h1 => ?_))))
    refine den_let rfl (den_jump rfl rfl ?_)
    rw [up hi.1 hi.2 hm]
    exact hJ (i + 1) (by omega) (by omega)
  · have h : ¬ i < l.length := by simpa using h
    rw [List.drop_of_length_le (by omega)]
    exact den_call rfl (key136 N k l hN hm) rfl (den_ret rfl rfl)
theorem index166 (N k : Nat) (l : List Int) (hN : big ≤ N) (hm : l.length < big) : Lv N (k + 1) 208 [S (.int .u8) l, ⟨.int .u8, (47 : Int)⟩] = some [I (ixFrom (fun c => decide (47 = c)) l 0)] := by
  refine level_den rfl rfl ?_ rfl
  unfold ir208
  refine den_let rfl (den_loop (den_jump rfl rfl ?_))
  refine rounds_ind (α := Int) (enc := fun i => [I 0, I i]) (ans := fun i => some [I (ixFrom (fun c => decide (47 = c)) (l.drop i.toNat) i)]) (meas := fun i => l.length - i.toNat) (Q := fun i => 0 ≤ i ∧ i ≤ l.length) (fun J i hi hJ => ?_) N 0 (by omega) (by simp; omega)
  refine den_let rfl (den_ite rfl (fun h => ?_) (fun h => ?_))
  · have h : i < l.length := by simpa using h
    have hlt : i.toNat < l.length := by omega
    rw [ix_drop hi.1 hlt]
    refine den_idx rfl rfl rfl hi.1 (List.getElem?_eq_getElem hlt) (den_let rfl (den_let rfl (den_ite rfl (fun h => ?_) (fun h => ?_))))
    · rw [if_pos (by simpa using h)]; exact den_ret rfl rfl
    · rw [if_neg (by simpa using h)]
      refine den_let rfl (den_jump rfl rfl ?_)
      rw [up hi.1 hi.2 hm]
      exact hJ (i + 1) (by omega) (by omega)
  · have h : ¬ i < l.length := by simpa using h
    rw [ix_end (by omega)]
    exact den_ret rfl rfl
theorem contains142 (N k : Nat) (l : List Int) (hN : big ≤ N) (hm : l.length < big) : Lv N (k + 2) 190 [S (.int .u8) l, ⟨.int .u8, (47 : Int)⟩] = some [B (stroke l)] := by
  refine level_den rfl rfl ?_ rfl
  unfold ir190
  refine den_call rfl (index166 N k l hN hm) rfl (den_let rfl (den_ret rfl (someB ?_)))
  show stroke l = decide (ixFrom (fun c => decide (47 = c)) l 0 ≥ 0)
  rw [ge_not, ix_any (Int.le_refl _), Bool.not_not]
  rfl
theorem plain108 (N k : Nat) (l : List Int) (hN : big ≤ N) (hm : l.length < big) : Lv N (k + 3) 151 [S (.int .u8) l] = some [B (partOk l)] := by
  refine level_den rfl rfl ?_ rfl
  unfold ir151 partOk
  refine den_call rfl (key152 N k l hN hm) rfl (den_ite rfl (fun h => ?_) (fun h => den_ret rfl (someB (by rw [h, Bool.and_false]))))
  rw [h, Bool.and_true]
  exact den_call rfl (contains142 N k l hN hm) rfl (den_let rfl (den_ret rfl rfl))
def inR (a lo hi : Int) : Bool := decide (lo ≤ a) && decide (a ≤ hi)
def lateB (ttl age : Int) : Bool := decide (ttl > 0) && decide (age ≥ ttl)
def checkEnd (ttl st age fails : Int) : Bool := (!lateB ttl age || decide (st = 2)) && (!decide (st = 0) || decide (fails = 0))
def checkOk (name : List Int) (ttl most st age fails : Int) : Bool :=
  keyOk name && (inR ttl 0 1000 && (inR age 0 1000 && (inR most 1 5 && (inR st 0 2 && (inR fails 0 most && checkEnd ttl st age fails)))))
theorem late144 (N k : Nat) (name : List Int) (ttl most st age fails : Int) : Lv N (k + 1) 163 [⟨CheckT, (name, ttl, most, st, age, fails, ())⟩] = some [B (lateB ttl age)] := by
  refine level_den rfl rfl ?_ rfl
  unfold ir163 lateB
  exact den_let rfl (den_let rfl (den_ite rfl (fun h => den_let rfl (den_ret rfl (someB (by rw [show decide (ttl > 0) = true from h]; rfl)))) (fun h => den_ret rfl (someB (by rw [show decide (ttl > 0) = false from h]; rfl)))))
theorem ends {F : Fns} {N : Nat} {ρ : List Dy} {Ls : List Lb} {st fails : Int} {b : Bool} {a c : A} {i : Nat} (hi : ρ.length = i) (ha : evA ρ a = some (I st)) (hc : evA ρ c = some (I fails)) (hb : b = true) : den F N (.letE ⟨.bin .neq 3, [a, .int .i64 0]⟩ (.ite (.var i) (.ret [.bool true]) (.letE ⟨.bin .eql 3, [c, .int .i64 0]⟩ (.ret [.var (i + 1)])))) ρ Ls = some [B (b && (!decide (st = 0) || decide (fails = 0)))] := by
  subst hb
  rw [Bool.true_and]
  have e1 : ev ρ ⟨.bin .neq 3, [a, .int .i64 0]⟩ = some (B (st != 0)) := by unfold ev; simp only [evAs, ha]; rfl
  refine den_let e1 (den_ite (b := (st != 0)) (by simp [evA, ← hi]) (fun h => ?_) (fun h => ?_))
  · rw [ne_not] at h
    rw [h, Bool.true_or]
    exact den_ret rfl rfl
  · rw [ne_not] at h
    rw [h, Bool.false_or]
    have e2 : ev (ρ ++ [B (st != 0)]) ⟨.bin .eql 3, [c, .int .i64 0]⟩ = some (B (fails == 0)) := by unfold ev; simp only [evAs, evA_append hc]; rfl
    refine den_let e2 (den_ret (ds := [B (fails == 0)]) (by simp [evAs, evA, ← hi]) ?_)
    rw [beq_dec]

set_option maxHeartbeats 4000000 in
theorem checkS (N k : Nat) (x : D CheckT) (hN : big ≤ N) (hk : List.length x.1 < big) : Lv N (k + 2) 147 [⟨CheckT, x⟩] = some [B (checkOk x.1 x.2.1 x.2.2.1 x.2.2.2.1 x.2.2.2.2.1 x.2.2.2.2.2.1)] := by
  obtain ⟨name, ttl, most, st, age, fails, u⟩ := x
  refine level_den rfl rfl ?_ rfl
  unfold ir147
  have hsw : checkOk name ttl most st age fails = (keyOk name && (decide (0 ≤ ttl) && (decide (ttl ≤ 1000) && (decide (1 ≤ most) && (decide (most ≤ 5) && (decide (0 ≤ st) && (decide (st ≤ 2) && (decide (0 ≤ age) && (decide (age ≤ 1000) && (decide (0 ≤ fails) && (decide (fails ≤ most) && checkEnd ttl st age fails))))))))))) := by
    unfold checkOk inR
    ac_rfl
  show _ = some [B (checkOk name ttl most st age fails)]
  rw [hsw]
  refine den_let rfl (den_call rfl (key136 N k name hN hk) rfl (den_let rfl (den_chk rfl rfl (fun g0 => ?_))))
  simp only [List.cons_append, List.nil_append]
  refine den_let rfl (den_chk rfl (lt_not _ _) (fun g1 => den_let rfl (den_chk rfl (gt_not _ _) (fun g2 => ?_))))
  simp only [List.cons_append, List.nil_append]
  refine den_let rfl (den_chk rfl (lt_not _ _) (fun g3 => den_let rfl (den_chk rfl (gt_not _ _) (fun g4 => ?_))))
  simp only [List.cons_append, List.nil_append]
  refine den_let rfl (den_chk rfl (lt_not _ _) (fun g5 => den_let rfl (den_chk rfl (gt_not _ _) (fun g6 => ?_))))
  simp only [List.cons_append, List.nil_append]
  refine den_let rfl (den_chk rfl (lt_not _ _) (fun g7 => den_let rfl (den_chk rfl (gt_not _ _) (fun g8 => ?_))))
  simp only [List.cons_append, List.nil_append]
  refine den_let rfl (den_chk rfl (lt_not _ _) (fun g9 => den_let rfl (den_chk rfl (gt_not _ _) (fun g10 => ?_))))
  simp only [List.cons_append, List.nil_append]
  unfold checkEnd lateB
  refine den_let rfl (den_ite (b := decide (ttl > 0)) rfl (fun h1 => ?_) (fun h1 => ?_))
  · rw [h1, Bool.true_and]
    simp only [List.cons_append, List.nil_append]
    refine den_let rfl (den_ite (b := decide (age ≥ ttl)) rfl (fun h2 => ?_) (fun h2 => ?_))
    · rw [h2]
      simp only [List.cons_append, List.nil_append]
      refine den_let rfl (den_ite (b := (st != 2)) rfl (fun h3 => ?_) (fun h3 => ?_))
      · rw [ne_not] at h3
        have h3 : decide (st = 2) = false := by simpa using h3
        rw [h3]
        exact den_ret rfl rfl
      · rw [ne_not] at h3
        have h3 : decide (st = 2) = true := by simpa using h3
        rw [h3]
        exact ends (i := _) rfl rfl rfl rfl
    · rw [h2]
      exact ends (i := _) rfl rfl rfl rfl
  · rw [h1]
    exact ends (i := _) rfl rfl rfl rfl
theorem den_and {F : Fns} {N : Nat} {ρ : List Dy} {Ls : List Lb} {c : A} {e : IR} {b v : Bool} (h : evA ρ c = some ⟨.bool, b⟩) (he : b = true → den F N e ρ Ls = some [B v]) : den F N (.ite c e (.ret [.bool false])) ρ Ls = some [B (b && v)] := by
  refine den_ite h (fun h1 => ?_) (fun h1 => ?_)
  · rw [he h1, h1]; rfl
  · rw [h1]; exact den_ret rfl rfl
theorem checkI (N k : Nat) (x : D CheckT) (hN : big ≤ N) (hk : List.length x.1 < big) : Lv N (k + 3) 155 [⟨CheckT, x⟩] = some [B (checkOk x.1 x.2.1 x.2.2.1 x.2.2.2.1 x.2.2.2.2.1 x.2.2.2.2.2.1)] := by
  obtain ⟨name, ttl, most, st, age, fails, u⟩ := x
  refine level_den rfl rfl ?_ rfl
  unfold ir155 checkOk
  refine den_let rfl (den_call rfl (key152 N k name hN hk) rfl (den_and rfl (fun g0 => ?_)))
  simp only [List.cons_append, List.nil_append]
  refine den_call rfl (within60 N (k + 1) ttl 0 1000) rfl (den_and rfl (fun g1 => ?_))
  simp only [List.cons_append, List.nil_append]
  refine den_call rfl (within60 N (k + 1) age 0 1000) rfl (den_and rfl (fun g2 => ?_))
  simp only [List.cons_append, List.nil_append]
  refine den_call rfl (within60 N (k + 1) most 1 5) rfl (den_and rfl (fun g3 => ?_))
  simp only [List.cons_append, List.nil_append]
  refine den_call rfl (within60 N (k + 1) st 0 2) rfl (den_and rfl (fun g4 => ?_))
  simp only [List.cons_append, List.nil_append]
  refine den_call rfl (within60 N (k + 1) fails 0 most) rfl (den_and rfl (fun g5 => ?_))
  simp only [List.cons_append, List.nil_append]
  unfold checkEnd
  refine den_let rfl (den_call rfl (late144 N (k + 1) name ttl most st age fails) rfl (den_let rfl (den_ite (b := !lateB ttl age) rfl (fun h1 => ?_) (fun h1 => ?_))))
  · rw [h1]
    exact ends (i := _) rfl rfl rfl rfl
  · rw [h1, Bool.false_or]
    simp only [List.cons_append, List.nil_append]
    refine den_let rfl (den_ite (b := (st == 2)) rfl (fun h3 => ?_) (fun h3 => ?_))
    · rw [beq_dec] at h3
      rw [h3]
      exact ends (i := _) rfl rfl rfl rfl
    · rw [beq_dec] at h3
      rw [h3]
      exact den_ret rfl rfl

def svc : List Int := [115, 118, 99, 47]
def svcKey (node name : List Int) : List Int := ((svc ++ node) ++ [47]) ++ name
theorem svcKey_length (node name : List Int) : (svcKey node name).length = node.length + name.length + 5 := by simp [svcKey, svc]; omega
theorem take_flat {l : List (List Int)} {i : Nat} (h : i < l.length) : (l.take (i + 1)).flatten = (l.take i).flatten ++ l[i] := by
  rw [List.take_succ_eq_append_getElem h, List.flatten_append]; simp
theorem take_flat_le (l : List (List Int)) (i : Nat) : (l.take i).flatten.length ≤ l.flatten.length := by
  have h : l.flatten = (l.take i).flatten ++ (l.drop i).flatten := by rw [← List.flatten_append, List.take_append_drop]
  rw [h, List.length_append]; omega
theorem grow_at (N k : Nat) (ds : List Dy) : Lv N k 196 ds = growB ds := by cases k <;> rfl
theorem grow_ok (n : Int) (h0 : 0 ≤ n) (h1 : n < 4294967296) : growB [I n] = some [S (.int .u8) []] := by
  unfold growB
  exact if_pos ⟨h0, by unfold maxRow; omega⟩
theorem concat (N k : Nat) (l : List (List Int)) (hN : big ≤ N) (hm : l.length < big) (hf : l.flatten.length < 4294967296) : Lv N (k + 1) 168 [S (.sl (.int .u8)) l] = some [S (.int .u8) l.flatten] := by
  refine level_den rfl rfl ?_ rfl
  unfold ir168
  refine den_let rfl (den_loop (den_jump rfl rfl ?_))
  simp only [List.cons_append, List.nil_append]
  refine rounds_ind (α := Int) (enc := fun i => [I ((l.take i.toNat).flatten.length : Int), I i, S (.int .u8) []]) (ans := fun _ => some [S (.int .u8) l.flatten]) (meas := fun i => l.length - i.toNat) (Q := fun i => 0 ≤ i ∧ i ≤ l.length) (fun J i hi hJ => ?_) N 0 (by omega) (by simp; omega)
  refine den_let rfl (den_ite rfl (fun h => ?_) (fun h => ?_))
  · have h : i < l.length := by simpa using h
    have hlt : i.toNat < l.length := by omega
    have h1 := take_flat_le l (i + 1).toNat
    have h2 : (l.take (i + 1).toNat).flatten.length = (l.take i.toNat).flatten.length + l[i.toNat].length := by rw [show (i + 1).toNat = i.toNat + 1 by omega, take_flat hlt, List.length_append]
    have hw : IntKind.i64.wrap (((l.take i.toNat).flatten.length : Int) + (l[i.toNat].length : Int)) = ((l.take (i + 1).toNat).flatten.length : Int) := by rw [wrap_id (by omega) (by omega), h2, Int.natCast_add]
    refine den_idx rfl rfl rfl hi.1 (List.getElem?_eq_getElem hlt) (den_let rfl (den_let rfl (den_let rfl ?_)))
    simp only [List.cons_append, List.nil_append]
    rw [hw]
    refine den_let rfl (den_ite (b := false) (by simp [evA]) (fun h => by cases h) (fun _ => den_let rfl (den_jump rfl rfl ?_)))
    rw [up hi.1 hi.2 hm]
    exact hJ (i + 1) (by omega) (by omega)
  · have h : ¬ i < l.length := by simpa using h
    rw [List.take_of_length_le (show l.length ≤ i.toNat by omega)]
    simp only [List.cons_append, List.nil_append]
    have hg : Lv N k 196 [I (l.flatten.length : Int)] = some [S (.int .u8) []] := by
      rw [grow_at]
      exact grow_ok _ (by omega) (by omega)
    refine den_call rfl hg rfl (den_let rfl (den_loop (den_jump rfl rfl ?_)))
    simp only [List.cons_append, List.nil_append]
    clear hJ h hi hg
    refine rounds_ind (α := Int) (enc := fun i => [S (.int .u8) (l.take i.toNat).flatten, I i, S (.int .u8) []]) (ans := fun _ => some [S (.int .u8) l.flatten]) (meas := fun i => l.length - i.toNat) (Q := fun i => 0 ≤ i ∧ i ≤ l.length) (fun J i hi hJ => ?_) N 0 (by omega) (by simp; omega)
    refine den_let rfl (den_ite rfl (fun h => ?_) (fun h => ?_))
    · have h : i < l.length := by simpa using h
      have hlt : i.toNat < l.length := by omega
      have h1 := take_flat_le l (i + 1).toNat
      have h2 : (l.take (i + 1).toNat).flatten.length = (l.take i.toNat).flatten.length + l[i.toNat].length := by rw [show (i + 1).toNat = i.toNat + 1 by omega, take_flat hlt, List.length_append]
      refine den_idx rfl rfl rfl hi.1 (List.getElem?_eq_getElem hlt) (den_let rfl (den_app rfl rfl (by show _ < 4294967296; omega) (den_let rfl (den_jump rfl rfl ?_))))
      rw [up hi.1 hi.2 hm, ← take_flat hlt, show i.toNat + 1 = (i + 1).toNat by omega]
      exact hJ (i + 1) (by omega) (by omega)
    · have h : ¬ i < l.length := by simpa using h
      refine den_ret rfl ?_
      show some [S (.int .u8) l.flatten] = some [S (.int .u8) (l.take i.toNat).flatten]
      rw [List.take_of_length_le (show l.length ≤ i.toNat by omega)]
theorem ahead56 (N k : Nat) (x : D LocalT) (hN : big ≤ N) (hn : List.length x.1 < big) : Lv N (k + 2) 191 [⟨LocalT, x⟩] = some [S (.int .u8) ((svc ++ x.1) ++ [47])] := by
  refine level_den rfl rfl ?_ rfl
  unfold ir191
  unfold big at hn
  have hf : ([svc, x.1, [47]] : List (List Int)).flatten = (svc ++ x.1) ++ [47] := by simp
  refine den_let rfl (den_let rfl (den_let rfl (den_let rfl (den_let rfl (den_let rfl ?_)))))
  refine den_call rfl (concat N k [svc, x.1, [47]] hN (by simp [big]) (by rw [hf]; simp [svc]; omega)) rfl (den_ret rfl ?_)
  show some [S (.int .u8) _] = some [S (.int .u8) ([svc, x.1, [47]] : List (List Int)).flatten]
  rw [hf]
theorem key110 (N k : Nat) (x : D LocalT) (name : List Int) (hN : big ≤ N) (hn : List.length x.1 < big) (hm : name.length < big) : Lv N (k + 3) 153 [⟨LocalT, x⟩, S (.int .u8) name] = some [S (.int .u8) (svcKey x.1 name)] := by
  refine level_den rfl rfl ?_ rfl
  unfold ir153
  unfold big at hm
  have hn' := hn
  unfold big at hn'
  have hf : ([(svc ++ x.1) ++ [47], name] : List (List Int)).flatten = svcKey x.1 name := by simp [svcKey]
  refine den_let rfl (den_let rfl (den_call rfl (ahead56 N k x hN hn) rfl (den_let rfl ?_)))
  refine den_call rfl (concat N (k + 1) [(svc ++ x.1) ++ [47], name] hN (by simp [big]) (by rw [hf, svcKey_length]; omega)) rfl (den_ret rfl ?_)
  show some [S (.int .u8) _] = some [S (.int .u8) ([(svc ++ x.1) ++ [47], name] : List (List Int)).flatten]
  rw [hf]
theorem key88 (N k : Nat) (node name : List Int) (hn : node.length < big) (hm : name.length < big) : Lv N (k + 1) 146 [S (.int .u8) node, S (.int .u8) name] = some [S (.int .u8) (svcKey node name)] := by
  refine level_den rfl rfl ?_ rfl
  unfold ir146
  unfold big at hn hm
  refine den_let rfl (den_let rfl (den_app (l := svc) rfl rfl (by show _ < 4294967296; simp [svc]; omega) (den_let rfl (den_app (m := [47]) rfl rfl (by show _ < 4294967296; simp [svc]; omega) (den_app rfl rfl (by show _ < 4294967296; simp [svc]; omega) (den_ret rfl rfl))))))

theorem keyOk_len {l : List Int} (h : keyOk l = true) : l.length ≤ 20 := by
  unfold keyOk at h
  simp only [Bool.and_eq_true, decide_eq_true_eq] at h
  omega
theorem partOk_len {l : List Int} (h : partOk l = true) : l.length ≤ 20 := by
  unfold partOk at h
  simp only [Bool.and_eq_true] at h
  exact keyOk_len h.2
theorem jmpB {J : Lb} {v c : Bool} (hJ : ∀ b, J [⟨.bool, b⟩] = some [B (if b then false else v)]) (g : Bool) (hg : g = !c) : J [⟨.bool, g⟩] = some [B (c && v)] := by
  subst hg
  rw [hJ]
  cases c <;> rfl
def checkX (x : D CheckT) : Bool := checkOk x.1 x.2.1 x.2.2.1 x.2.2.2.1 x.2.2.2.2.1 x.2.2.2.2.2.1
def prevC (cs : List (D CheckT)) (i : Nat) (key : List Int) : Bool := match cs[i - 1]? with
  | some q => decide (cmpI q.1 key < 0)
  | none => true
def prevS (ss : List (D ServT)) (i : Nat) (key : List Int) : Bool := match ss[i - 1]? with
  | some q => decide (cmpI q.1 key < 0)
  | none => true
def chkAt (cs : List (D CheckT)) (i : Nat) : Bool := match cs[i]? with
  | some c => checkX c && (decide (i = 0) || prevC cs i c.1)
  | none => true
def servAt (node : List Int) (ss : List (D ServT)) (i : Nat) : Bool := match ss[i]? with
  | some s => partOk s.1 && (keyOk (svcKey node s.1) && (decide ((List.length s.2.1 : Int) ≤ 4) && ((decide (i = 0) || prevS ss i s.1) && upAll (chkAt s.2.1) 0 (List.length s.2.1))))
  | none => true
def localOk (node : List Int) (ss : List (D ServT)) : Bool := partOk node && (decide ((ss.length : Int) ≤ 6) && upAll (servAt node ss) 0 ss.length)
theorem chk_at {cs : List (D CheckT)} {i : Nat} (h : i < cs.length) : chkAt cs i = (checkX cs[i] && (decide (i = 0) || prevC cs i cs[i].1)) := by
  unfold chkAt; rw [List.getElem?_eq_getElem h]
theorem serv_at {node : List Int} {ss : List (D ServT)} {i : Nat} (h : i < ss.length) : servAt node ss i = ((partOk ss[i].1 && (keyOk (svcKey node ss[i].1) && (decide ((List.length ss[i].2.1 : Int) ≤ 4) && (decide (i = 0) || prevS ss i ss[i].1)))) && upAll (chkAt ss[i].2.1) 0 (List.length ss[i].2.1)) := by
  unfold servAt; rw [List.getElem?_eq_getElem h]; simp only [Bool.and_assoc]
theorem prevC_at {cs : List (D CheckT)} {i : Nat} {key : List Int} (h : i - 1 < cs.length) : prevC cs i key = decide (cmpI cs[i - 1].1 key < 0) := by
  unfold prevC; rw [List.getElem?_eq_getElem h]
theorem prevS_at {cs : List (D ServT)} {i : Nat} {key : List Int} (h : i - 1 < cs.length) : prevS cs i key = decide (cmpI cs[i - 1].1 key < 0) := by
  unfold prevS; rw [List.getElem?_eq_getElem h]
def okServ (s : D ServT) : Prop := List.length s.1 < big ∧ List.length s.2.1 < big ∧ ∀ c ∈ (show List (D CheckT) from s.2.1), List.length c.1 < big

set_option maxHeartbeats 8000000 in
theorem localOkS (N k : Nat) (node : List Int) (ss : List (D ServT)) (hN : big ≤ N) (hn : node.length < big) (hl : ss.length < big) (hs : ∀ s ∈ ss, okServ s) : Lv N (k + 5) 89 [⟨LocalT, (node, ss, ())⟩] = some [B (localOk node ss)] := by
  have hN' : 1048577 ≤ N := hN
  refine level_den rfl rfl ?_ rfl
  unfold ir89 localOk
  rw [← Bool.and_assoc]
  refine den_let rfl ?_
  simp only [List.cons_append, List.nil_append]
  refine den_joinP (fun b => b = false → partOk node = true) (fun b => some [B (if b then false else upAll (servAt node ss) 0 ss.length)]) (fun b hb => ?_) (fun J hJ => ?_)
  · simp only [List.cons_append, List.nil_append]
    refine den_ite rfl (fun g => den_ret rfl (by rw [g]; rfl)) (fun g => ?_)
    have hnode := partOk_len (hb g)
    rw [g]
    show _ = some [B (upAll (servAt node ss) 0 ss.length)]
    rw [upto (servAt node ss) ss.length]
    refine den_loop (den_jump rfl rfl ?_)
    simp only [List.cons_append, List.nil_append]
    refine rounds_ind (α := Int) (enc := fun i => [B false, I i]) (ans := fun i => some [B (upAll (servAt node ss) i.toNat ((ss.length : Int) - i).toNat)]) (meas := fun i => ss.length - i.toNat) (Q := fun i => 0 ≤ i ∧ i ≤ ss.length) (fun J1 i hi hJ1 => ?_) N 0 ⟨Int.le_refl _, by omega⟩ (by simp; omega)
    refine den_let rfl (den_let rfl (den_ite rfl (fun h => ?_) (fun h => ?_)))
    · have h : i < ss.length := by simpa using h
      have hlt : i.toNat < ss.length := by omega
      rw [up_step hi.1 h, serv_at hlt, Bool.and_assoc]
      refine den_idx rfl rfl rfl hi.1 (List.getElem?_eq_getElem hlt) (den_let rfl (den_let rfl ?_))
      simp only [List.cons_append, List.nil_append]
      refine den_joinB (fun b => some [B (if b then false else upAll (chkAt ss[i.toNat].2.1) 0 (List.length ss[i.toNat].2.1) && upAll (servAt node ss) (i + 1).toNat ((ss.length : Int) - (i + 1)).toNat)]) (fun b => ?_) (fun J2 hJ2 => ?_)
      · simp only [List.cons_append, List.nil_append]
        refine den_ite rfl (fun g => den_ret rfl (by rw [g]; rfl)) (fun g => ?_)
        rw [g]
        obtain ⟨_, hcl, hcs⟩ := hs _ (List.getElem_mem hlt)
        obtain ⟨R, hR⟩ : ∃ R, R = upAll (servAt node ss) (i + 1).toNat ((ss.length : Int) - (i + 1)).toNat := ⟨_, rfl⟩
        show _ = some [B (upAll (chkAt ss[i.toNat].2.1) 0 (List.length ss[i.toNat].2.1) && upAll (servAt node ss) (i + 1).toNat ((ss.length : Int) - (i + 1)).toNat)]
        rw [← hR]
        have hlen : ∀ ρ0 : List Dy, True := fun _ => trivial
        generalize hcsd : (ss[i.toNat].2.1 : List (D CheckT)) = cs at hcl hcs ⊢
        rw [upto (chkAt cs) cs.length]
        refine den_loop (den_jump rfl rfl ?_)
        simp only [List.cons_append, List.nil_append]
        refine rounds_ind (α := Int) (enc := fun i => [B false, I i]) (ans := fun j => some [B (upAll (chkAt cs) j.toNat ((cs.length : Int) - j).toNat && R)]) (meas := fun j => cs.length - j.toNat) (Q := fun j => 0 ≤ j ∧ j ≤ cs.length) (fun J3 j hk hJ3 => ?_) N 0 ⟨Int.le_refl _, by omega⟩ (by simp; omega)
        refine den_let rfl (den_let rfl (den_ite rfl (fun h3 => ?_) (fun h3 => ?_)))
        · have h3 : j < cs.length := by simpa using h3
          have hkl : j.toNat < cs.length := by omega
          rw [up_step hk.1 h3, chk_at hkl, Bool.and_assoc]
          refine den_joinB (fun b => some [B (if b then false else upAll (chkAt cs) (j + 1).toNat ((cs.length : Int) - (j + 1)).toNat && R)]) (fun b => ?_) (fun J4 hJ4 => ?_)
          · simp only [List.cons_append, List.nil_append]
            refine den_ite rfl (fun g => den_ret rfl (by rw [g]; rfl)) (fun g => ?_)
            rw [g]
            refine den_let rfl (den_jump rfl rfl ?_)
            rw [up hk.1 hk.2 hcl]
            exact hJ3 (j + 1) ⟨by omega, by omega⟩ (by omega)
          · simp only [List.cons_append, List.nil_append]
            refine den_idx rfl rfl rfl hk.1 (List.getElem?_eq_getElem hkl) (den_let rfl (den_call rfl (checkS N (k + 2) cs[j.toNat] hN (hcs _ (List.getElem_mem hkl))) rfl (den_let rfl (den_ite (b := !checkX cs[j.toNat]) rfl (fun g => ?_) (fun g => ?_)))))
            · have g1 : checkX cs[j.toNat] = false := by simpa using g
              exact den_jump rfl rfl (jmpB hJ4 _ (by rw [g1]; rfl))
            · have g1 : checkX cs[j.toNat] = true := by simpa using g
              simp only [List.cons_append, List.nil_append]
              refine den_let rfl (den_ite rfl (fun hp => ?_) (fun hp => ?_))
              · have hp : j > 0 := by simpa using hp
                have hkp : j.toNat - 1 < cs.length := by omega
                have hb0 : decide (j.toNat = 0) = false := by rw [decide_eq_false]; omega
                refine den_let rfl ?_
                rw [sub_one hp hk.2 hcl]
                simp only [List.cons_append, List.nil_append]
                refine den_idx (n := j - 1) (y := cs[j.toNat - 1]) rfl rfl rfl (by omega) (by rw [show (j - 1).toNat = j.toNat - 1 by omega]; exact List.getElem?_eq_getElem hkp) (den_let rfl ?_)
                simp only [List.cons_append, List.nil_append]
                refine den_let (ev_text _) (den_idx rfl rfl rfl hk.1 (List.getElem?_eq_getElem hkl) (den_let rfl (den_let (ev_text _) (den_let (ev_geq 9 _ _) ?_))))
                simp only [List.cons_append, List.nil_append]
                exact den_jump rfl rfl (jmpB hJ4 _ (by rw [g1, hb0, Bool.false_or, prevC_at hkp, Bool.true_and]))
              · have hp : ¬ j > 0 := by simpa using hp
                have hb0 : decide (j.toNat = 0) = true := by rw [decide_eq_true]; omega
                exact den_jump rfl rfl (jmpB hJ4 _ (by rw [g1, hb0]; rfl))
        · have h3 : ¬ j < cs.length := by simpa using h3
          rw [up_end h3, Bool.true_and, hR]
          refine den_let rfl (den_jump rfl rfl ?_)
          rw [up hi.1 hi.2 hl]
          exact hJ1 (i + 1) ⟨by omega, by omega⟩ (by omega)
      · simp only [List.cons_append, List.nil_append]
        refine den_call rfl (part86 N (k + 2) ss[i.toNat].1 hN (hs _ (List.getElem_mem hlt)).1) rfl (den_let rfl (den_ite (b := !partOk ss[i.toNat].1) rfl (fun g => ?_) (fun g => ?_)))
        · have g1 : partOk ss[i.toNat].1 = false := by simpa using g
          exact den_jump rfl rfl (jmpB hJ2 _ (by rw [g1]; rfl))
        · have g1 : partOk ss[i.toNat].1 = true := by simpa using g
          have hkl : (svcKey node ss[i.toNat].1).length < big := by
            have := partOk_len g1
            rw [svcKey_length]; unfold big; omega
          simp only [List.cons_append, List.nil_append]
          refine den_call rfl (key88 N (k + 3) node ss[i.toNat].1 hn (hs _ (List.getElem_mem hlt)).1) rfl ?_
          simp only [List.cons_append, List.nil_append]
          refine den_call rfl (key136 N (k + 3) (svcKey node ss[i.toNat].1) hN hkl) rfl (den_let rfl (den_ite (b := !keyOk (svcKey node ss[i.toNat].1)) rfl (fun g => ?_) (fun g => ?_)))
          · have g2 : keyOk (svcKey node ss[i.toNat].1) = false := by simpa using g
            exact den_jump rfl rfl (jmpB hJ2 _ (by rw [g1, g2]; rfl))
          · have g2 : keyOk (svcKey node ss[i.toNat].1) = true := by simpa using g
            simp only [List.cons_append, List.nil_append]
            refine den_let rfl (den_let rfl (den_ite rfl (fun g => ?_) (fun g => ?_)))
            · rw [gt_not] at g
              have g3 : decide ((List.length ss[i.toNat].2.1 : Int) ≤ 4) = false := by simpa using g
              exact den_jump rfl rfl (jmpB hJ2 _ (by rw [g1, g2, g3]; rfl))
            · rw [gt_not] at g
              have g3 : decide ((List.length ss[i.toNat].2.1 : Int) ≤ 4) = true := by simpa using g
              simp only [List.cons_append, List.nil_append]
              refine den_let rfl (den_ite rfl (fun hp => ?_) (fun hp => ?_))
              · have hp : i > 0 := by simpa using hp
                have hip : i.toNat - 1 < ss.length := by omega
                have hb0 : decide (i.toNat = 0) = false := by rw [decide_eq_false]; omega
                refine den_let rfl ?_
                rw [sub_one hp hi.2 hl]
                simp only [List.cons_append, List.nil_append]
                refine den_idx (n := i - 1) (y := ss[i.toNat - 1]) rfl rfl rfl (by omega) (by rw [show (i - 1).toNat = i.toNat - 1 by omega]; exact List.getElem?_eq_getElem hip) (den_let rfl ?_)
                simp only [List.cons_append, List.nil_append]
                refine den_let (ev_text _) (den_let (ev_text _) (den_let (ev_geq 9 _ _) ?_))
                simp only [List.cons_append, List.nil_append]
                exact den_jump rfl rfl (jmpB hJ2 _ (by rw [g1, g2, g3, hb0, Bool.false_or, prevS_at hip]; rfl))
              · have hp : ¬ i > 0 := by simpa using hp
                have hb0 : decide (i.toNat = 0) = true := by rw [decide_eq_true]; omega
                exact den_jump rfl rfl (jmpB hJ2 _ (by rw [g1, g2, g3, hb0]; rfl))
    · have h : ¬ i < ss.length := by simpa using h
      rw [up_end h]
      exact den_ret rfl rfl
  · simp only [List.cons_append, List.nil_append]
    refine den_call rfl (part86 N (k + 2) node hN hn) rfl (den_let rfl (den_ite (b := !partOk node) rfl (fun g => ?_) (fun g => ?_)))
    · have g1 : partOk node = false := by simpa using g
      refine den_jump rfl rfl ?_
      rw [hJ true (by simp), g1]
      rfl
    · have g1 : partOk node = true := by simpa using g
      refine den_let rfl (den_let rfl (den_jump rfl rfl ?_))
      rw [hJ _ (fun _ => g1), g1, Bool.true_and, gt_not]
      cases decide ((ss.length : Int) ≤ 6) <;> rfl

theorem cmp_at (N k : Nat) (a b : List Int) : Lv N k 154 [S (.int .u8) a, S (.int .u8) b] = some [I (cmpI a b)] := by cases k <;> rfl

set_option maxHeartbeats 8000000 in
theorem localOkI (N k : Nat) (node : List Int) (ss : List (D ServT)) (hN : big ≤ N) (hn : node.length < big) (hl : ss.length < big) (hs : ∀ s ∈ ss, okServ s) : Lv N (k + 5) 93 [⟨LocalT, (node, ss, ())⟩] = some [B (localOk node ss)] := by
  have hN' : 1048577 ≤ N := hN
  refine level_den rfl rfl ?_ rfl
  unfold ir93 localOk
  rw [← Bool.and_assoc]
  refine den_let rfl ?_
  simp only [List.cons_append, List.nil_append]
  refine den_joinP (fun b => b = false → partOk node = true) (fun b => some [B (if b then false else upAll (servAt node ss) 0 ss.length)]) (fun b hb => ?_) (fun J hJ => ?_)
  · simp only [List.cons_append, List.nil_append]
    refine den_ite rfl (fun g => den_ret rfl (by rw [g]; rfl)) (fun g => ?_)
    have hnode := partOk_len (hb g)
    rw [g]
    show _ = some [B (upAll (servAt node ss) 0 ss.length)]
    refine den_let rfl ?_
    rw [upto (servAt node ss) ss.length]
    refine den_loop (den_jump rfl rfl ?_)
    simp only [List.cons_append, List.nil_append]
    refine rounds_ind (α := Int) (enc := fun i => [B false, I i]) (ans := fun i => some [B (upAll (servAt node ss) i.toNat ((ss.length : Int) - i).toNat)]) (meas := fun i => ss.length - i.toNat) (Q := fun i => 0 ≤ i ∧ i ≤ ss.length) (fun J1 i hi hJ1 => ?_) N 0 ⟨Int.le_refl _, by omega⟩ (by simp; omega)
    refine den_let rfl (den_ite rfl (fun h => ?_) (fun h => ?_))
    · have h : i < ss.length := by simpa using h
      have hlt : i.toNat < ss.length := by omega
      rw [up_step hi.1 h, serv_at hlt, Bool.and_assoc]
      refine den_idx rfl rfl rfl hi.1 (List.getElem?_eq_getElem hlt) (den_let rfl (den_let rfl ?_))
      simp only [List.cons_append, List.nil_append]
      refine den_joinB (fun b => some [B (if b then false else upAll (chkAt ss[i.toNat].2.1) 0 (List.length ss[i.toNat].2.1) && upAll (servAt node ss) (i + 1).toNat ((ss.length : Int) - (i + 1)).toNat)]) (fun b => ?_) (fun J2 hJ2 => ?_)
      · simp only [List.cons_append, List.nil_append]
        refine den_ite rfl (fun g => den_ret rfl (by rw [g]; rfl)) (fun g => ?_)
        rw [g]
        obtain ⟨_, hcl, hcs⟩ := hs _ (List.getElem_mem hlt)
        obtain ⟨R, hR⟩ : ∃ R, R = upAll (servAt node ss) (i + 1).toNat ((ss.length : Int) - (i + 1)).toNat := ⟨_, rfl⟩
        show _ = some [B (upAll (chkAt ss[i.toNat].2.1) 0 (List.length ss[i.toNat].2.1) && upAll (servAt node ss) (i + 1).toNat ((ss.length : Int) - (i + 1)).toNat)]
        rw [← hR]
        have hlen : ∀ ρ0 : List Dy, True := fun _ => trivial
        generalize hcsd : (ss[i.toNat].2.1 : List (D CheckT)) = cs at hcl hcs ⊢
        refine den_let rfl ?_
        rw [upto (chkAt cs) cs.length]
        refine den_loop (den_jump rfl rfl ?_)
        simp only [List.cons_append, List.nil_append]
        refine rounds_ind (α := Int) (enc := fun i => [B false, I i]) (ans := fun j => some [B (upAll (chkAt cs) j.toNat ((cs.length : Int) - j).toNat && R)]) (meas := fun j => cs.length - j.toNat) (Q := fun j => 0 ≤ j ∧ j ≤ cs.length) (fun J3 j hk hJ3 => ?_) N 0 ⟨Int.le_refl _, by omega⟩ (by simp; omega)
        refine den_let rfl (den_ite rfl (fun h3 => ?_) (fun h3 => ?_))
        · have h3 : j < cs.length := by simpa using h3
          have hkl : j.toNat < cs.length := by omega
          rw [up_step hk.1 h3, chk_at hkl, Bool.and_assoc]
          refine den_idx rfl rfl rfl hk.1 (List.getElem?_eq_getElem hkl) (den_let rfl (den_let rfl ?_))
          simp only [List.cons_append, List.nil_append]
          refine den_joinB (fun b => some [B (if b then false else upAll (chkAt cs) (j + 1).toNat ((cs.length : Int) - (j + 1)).toNat && R)]) (fun b => ?_) (fun J4 hJ4 => ?_)
          · simp only [List.cons_append, List.nil_append]
            refine den_ite rfl (fun g => den_ret rfl (by rw [g]; rfl)) (fun g => ?_)
            rw [g]
            refine den_let rfl (den_jump rfl rfl ?_)
            rw [up hk.1 hk.2 hcl]
            exact hJ3 (j + 1) ⟨by omega, by omega⟩ (by omega)
          · simp only [List.cons_append, List.nil_append]
            refine den_let rfl (den_call rfl (checkI N (k + 1) cs[j.toNat] hN (hcs _ (List.getElem_mem hkl))) rfl (den_let rfl (den_ite (b := !checkX cs[j.toNat]) rfl (fun g => ?_) (fun g => ?_))))
            · have g1 : checkX cs[j.toNat] = false := by simpa using g
              exact den_jump rfl rfl (jmpB hJ4 _ (by rw [g1]; rfl))
            · have g1 : checkX cs[j.toNat] = true := by simpa using g
              simp only [List.cons_append, List.nil_append]
              refine den_let rfl (den_ite rfl (fun hp => ?_) (fun hp => ?_))
              · have hp : j > 0 := by simpa using hp
                have hkp : j.toNat - 1 < cs.length := by omega
                have hb0 : decide (j.toNat = 0) = false := by rw [decide_eq_false]; omega
                refine den_let rfl ?_
                rw [sub_one hp hk.2 hcl]
                simp only [List.cons_append, List.nil_append]
                refine den_idx (n := j - 1) (y := cs[j.toNat - 1]) rfl rfl rfl (by omega) (by rw [show (j - 1).toNat = j.toNat - 1 by omega]; exact List.getElem?_eq_getElem hkp) (den_let rfl ?_)
                simp only [List.cons_append, List.nil_append]
                refine den_call rfl (cmp_at N (k + 4) _ _) rfl (den_let rfl ?_)
                simp only [List.cons_append, List.nil_append]
                exact den_jump rfl rfl (jmpB hJ4 _ (by rw [g1, hb0, Bool.false_or, prevC_at hkp, Bool.true_and]; exact ge_not _ _))
              · have hp : ¬ j > 0 := by simpa using hp
                have hb0 : decide (j.toNat = 0) = true := by rw [decide_eq_true]; omega
                exact den_jump rfl rfl (jmpB hJ4 _ (by rw [g1, hb0]; rfl))
        · have h3 : ¬ j < cs.length := by simpa using h3
          rw [up_end h3, Bool.true_and, hR]
          refine den_let rfl (den_jump rfl rfl ?_)
          rw [up hi.1 hi.2 hl]
          exact hJ1 (i + 1) ⟨by omega, by omega⟩ (by omega)
      · simp only [List.cons_append, List.nil_append]
        refine den_call rfl (plain108 N (k + 1) ss[i.toNat].1 hN (hs _ (List.getElem_mem hlt)).1) rfl (den_let rfl (den_ite (b := !partOk ss[i.toNat].1) rfl (fun g => ?_) (fun g => ?_)))
        · have g1 : partOk ss[i.toNat].1 = false := by simpa using g
          exact den_jump rfl rfl (jmpB hJ2 _ (by rw [g1]; rfl))
        · have g1 : partOk ss[i.toNat].1 = true := by simpa using g
          have hkl : (svcKey node ss[i.toNat].1).length < big := by
            have := partOk_len g1
            rw [svcKey_length]; unfold big; omega
          simp only [List.cons_append, List.nil_append]
          refine den_let rfl (den_call rfl (key110 N (k + 1) (node, ss, ()) ss[i.toNat].1 hN hn (hs _ (List.getElem_mem hlt)).1) rfl ?_)
          simp only [List.cons_append, List.nil_append]
          refine den_call rfl (key152 N (k + 2) (svcKey node ss[i.toNat].1) hN hkl) rfl (den_let rfl (den_ite (b := !keyOk (svcKey node ss[i.toNat].1)) rfl (fun g => ?_) (fun g => ?_)))
          · have g2 : keyOk (svcKey node ss[i.toNat].1) = false := by simpa using g
            exact den_jump rfl rfl (jmpB hJ2 _ (by rw [g1, g2]; rfl))
          · have g2 : keyOk (svcKey node ss[i.toNat].1) = true := by simpa using g
            simp only [List.cons_append, List.nil_append]
            refine den_let rfl (den_let rfl (den_ite rfl (fun g => ?_) (fun g => ?_)))
            · rw [gt_not] at g
              have g3 : decide ((List.length ss[i.toNat].2.1 : Int) ≤ 4) = false := by simpa using g
              exact den_jump rfl rfl (jmpB hJ2 _ (by rw [g1, g2, g3]; rfl))
            · rw [gt_not] at g
              have g3 : decide ((List.length ss[i.toNat].2.1 : Int) ≤ 4) = true := by simpa using g
              simp only [List.cons_append, List.nil_append]
              refine den_let rfl (den_ite rfl (fun hp => ?_) (fun hp => ?_))
              · have hp : i > 0 := by simpa using hp
                have hip : i.toNat - 1 < ss.length := by omega
                have hb0 : decide (i.toNat = 0) = false := by rw [decide_eq_false]; omega
                refine den_let rfl ?_
                rw [sub_one hp hi.2 hl]
                simp only [List.cons_append, List.nil_append]
                refine den_idx (n := i - 1) (y := ss[i.toNat - 1]) rfl rfl rfl (by omega) (by rw [show (i - 1).toNat = i.toNat - 1 by omega]; exact List.getElem?_eq_getElem hip) (den_let rfl ?_)
                simp only [List.cons_append, List.nil_append]
                refine den_call rfl (cmp_at N (k + 4) _ _) rfl (den_let rfl ?_)
                simp only [List.cons_append, List.nil_append]
                exact den_jump rfl rfl (jmpB hJ2 _ (by rw [g1, g2, g3, hb0, Bool.false_or, prevS_at hip]; exact ge_not _ _))
              · have hp : ¬ i > 0 := by simpa using hp
                have hb0 : decide (i.toNat = 0) = true := by rw [decide_eq_true]; omega
                exact den_jump rfl rfl (jmpB hJ2 _ (by rw [g1, g2, g3, hb0]; rfl))
    · have h : ¬ i < ss.length := by simpa using h
      rw [up_end h]
      exact den_ret rfl rfl
  · simp only [List.cons_append, List.nil_append]
    refine den_call rfl (plain108 N (k + 1) node hN hn) rfl (den_let rfl (den_ite (b := !partOk node) rfl (fun g => ?_) (fun g => ?_)))
    · have g1 : partOk node = false := by simpa using g
      refine den_jump rfl rfl ?_
      rw [hJ true (by simp), g1]
      rfl
    · have g1 : partOk node = true := by simpa using g
      refine den_let rfl (den_let rfl (den_jump rfl rfl ?_))
      rw [hJ _ (fun _ => g1), g1, Bool.true_and, gt_not]
      cases decide ((ss.length : Int) ≤ 6) <;> rfl

end Go.Proofs.Ytecleaangfcloaa.VtFnExactWant
