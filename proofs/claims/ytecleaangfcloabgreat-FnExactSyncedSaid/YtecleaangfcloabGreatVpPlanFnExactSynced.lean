/- The plan, by the program and by the reference, is one. Lemmas alone, no statement. -/
import Derived.Test.YtecleaangfcloabGreatVpWantFnExactSynced
namespace Go.Proofs.YtecleaangfcloabGreat.VtFnExactSynced
set_option linter.unusedVariables false
set_option linter.unusedSimpArgs false
open Go Go.Vm
abbrev OpT : Ty := .pair (.int .i64) (.pair (.sl (.int .u8)) (.pair (.sl (.int .u8)) (.pair (.int .i64) .unit)))
def hasPre (l p : List Int) : Bool := decide ((l.length : Int) ≥ p.length) && (kb (l.take p.length) == kb p)
theorem ev_sub {l : List Int} {b : Nat} (h : b ≤ l.length) : evX (.sub 1 false true) [S (.int .u8) l, I (b : Int)] = some (S (.int .u8) (l.take b)) := by
  have h0 : (0 : Int) ≤ b := by omega
  have h1 : (b : Int) ≤ l.length := by omega
  show (if (Ty.int IntKind.u8).n = 1 ∧ 1 ≠ 0 ∧ (0 : Int) ≤ 0 ∧ (0 : Int) ≤ b ∧ (b : Int) ≤ l.length then some (S (.int .u8) ((l.take (b : Int).toNat).drop (0 : Int).toNat)) else none) = _
  rw [if_pos ⟨rfl, by decide, by decide, h0, h1⟩]
  simp
theorem preS (N k : Nat) (l p : List Int) : Lv N (k + 1) 96 [S (.int .u8) l, S (.int .u8) p] = some [B (hasPre l p)] := by
  refine level_den rfl rfl ?_ rfl
  unfold ir96 hasPre
  refine den_let rfl (den_let rfl (den_let rfl (den_and rfl (fun h => ?_))))
  have h : p.length ≤ l.length := by simpa using h
  simp only [List.cons_append, List.nil_append]
  exact den_let rfl (den_let (ev_sub h) (den_let (ev_text _) (den_let (ev_text _) (den_let (ev_eql 9 _ _) (den_ret rfl rfl)))))
theorem preI1 (N k : Nat) (l p : List Int) : Lv N (k + 2) 119 [S (.int .u8) l, S (.int .u8) p] = some [B (hasPre l p)] := by
  refine level_den rfl rfl ?_ rfl
  unfold ir119 hasPre
  refine den_let rfl (den_let rfl (den_let rfl (den_and rfl (fun h => ?_))))
  have h : p.length ≤ l.length := by simpa using h
  simp only [List.cons_append, List.nil_append]
  exact den_let rfl (den_let (ev_sub h) (den_call rfl (equalI N k _ _) rfl (den_ret rfl rfl)))
theorem preI (N k : Nat) (l p : List Int) : Lv N (k + 3) 55 [S (.int .u8) l, S (.int .u8) p] = some [B (hasPre l p)] := by
  refine level_den rfl rfl ?_ rfl
  unfold ir55
  exact den_call rfl (preI1 N k l p) rfl (den_ret rfl rfl)
theorem clone60 (N k : Nat) (l : List Int) (hl : l.length < big) : Lv N (k + 1) 60 [S (.int .u8) l] = some [S (.int .u8) l] := by
  refine level_den rfl rfl ?_ rfl
  unfold ir60
  unfold big at hl
  have h2 : den (Lv N k) N (.letE ⟨.lst (.int .u8), []⟩ (.letE ⟨.app (.int .u8), [.var 2, .var 0]⟩ (.ret [.var 3]))) [S (.int .u8) l, I (l.length : Int)] [] = some [S (.int .u8) l] :=
    den_let rfl (den_app (l := []) (m := l) rfl rfl (by show _ < 4294967296; simp; omega) (den_ret rfl rfl))
  refine den_let rfl (den_amb (τ := .int .u8) (l := l) rfl (fun h => ⟨?_, h2⟩) (fun _ => h2))
  subst h
  exact den_ret rfl rfl
def wantIx (w : List (D PairT)) (key : List Int) : Int := ixFrom (fun y : D PairT => keyP key y.1) w 0
theorem wantS_in (N k : Nat) (w : List (D PairT)) (key : List Int) (hN : big ≤ N) (hm : w.length < big) : Lv N (k + 1) 97 [S PairT w, S (.int .u8) key] = some [I (wantIx w key)] := by
  refine level_den rfl rfl ?_ rfl
  unfold ir97
  refine den_loop (den_jump rfl rfl ?_)
  refine rounds_ind (α := Int) (enc := fun i => [I 0, I i]) (ans := fun i => some [I (ixFrom (fun y : D PairT => keyP key y.1) (w.drop i.toNat) i)]) (meas := fun i => w.length - i.toNat) (Q := fun i => 0 ≤ i ∧ i ≤ w.length) (fun J i hi hJ => ?_) N 0 (by omega) (by simp; omega)
  refine den_let rfl (den_let rfl (den_ite rfl (fun h => ?_) (fun h => ?_)))
  · have h : i < w.length := by simpa using h
    have hlt : i.toNat < w.length := by omega
    rw [ix_drop hi.1 hlt]
    refine den_idx rfl rfl rfl hi.1 (List.getElem?_eq_getElem hlt) (den_let rfl ?_)
    simp only [List.cons_append, List.nil_append]
    refine den_let (ev_text _) (den_let (ev_text _) (den_let (ev_eql 9 _ _) (den_ite rfl (fun h => ?_) (fun h => ?_))))
    · rw [if_pos (by simpa [keyP] using h)]; exact den_ret rfl rfl
    · rw [if_neg (by simpa [keyP] using h)]
      refine den_let rfl (den_jump rfl rfl ?_)
      rw [up hi.1 hi.2 hm]
      exact hJ (i + 1) (by omega) (by omega)
  · have h : ¬ i < w.length := by simpa using h
    rw [ix_end (by omega)]
    exact den_ret rfl rfl
theorem plan1 (N k : Nat) (y : D PairT) (r : D RowT) : Lv N (k + 2) 58 [⟨PairT, y⟩, ⟨RowT, r⟩] = some [B (keyP r.1 y.1)] := by
  refine level_den rfl rfl ?_ rfl
  unfold ir58
  exact den_let rfl (den_let rfl (den_call rfl (equalI N k y.1 r.1) rfl (den_ret rfl rfl)))
theorem wantI_ix (N k : Nat) (w : List (D PairT)) (r : D RowT) (hN : big ≤ N) (hm : w.length < big) : Lv N (k + 3) 121 [S PairT w, ⟨RowT, r⟩] = some [I (wantIx w r.1)] := by
  refine level_den rfl rfl ?_ rfl
  unfold ir121
  refine den_let rfl (den_loop (den_jump rfl rfl ?_))
  refine rounds_ind (α := Int) (enc := fun i => [I 0, I i]) (ans := fun i => some [I (ixFrom (fun y : D PairT => keyP r.1 y.1) (w.drop i.toNat) i)]) (meas := fun i => w.length - i.toNat) (Q := fun i => 0 ≤ i ∧ i ≤ w.length) (fun J i hi hJ => ?_) N 0 (by omega) (by simp; omega)
  refine den_let rfl (den_ite rfl (fun h => ?_) (fun h => ?_))
  · have h : i < w.length := by simpa using h
    have hlt : i.toNat < w.length := by omega
    rw [ix_drop hi.1 hlt]
    refine den_idx rfl rfl rfl hi.1 (List.getElem?_eq_getElem hlt) (den_let rfl (den_call rfl (plan1 N k w[i.toNat] r) rfl (den_ite rfl (fun h => ?_) (fun h => ?_))))
    · rw [if_pos h]; exact den_ret rfl rfl
    · rw [if_neg (by rw [h]; decide)]
      refine den_let rfl (den_jump rfl rfl ?_)
      rw [up hi.1 hi.2 hm]
      exact hJ (i + 1) (by omega) (by omega)
  · have h : ¬ i < w.length := by simpa using h
    rw [ix_end (by omega)]
    exact den_ret rfl rfl
theorem wantI_has (N k : Nat) (w : List (D PairT)) (r : D RowT) (hN : big ≤ N) (hm : w.length < big) : Lv N (k + 4) 57 [S PairT w, ⟨RowT, r⟩] = some [B (decide (wantIx w r.1 ≥ 0))] := by
  refine level_den rfl rfl ?_ rfl
  unfold ir57
  exact den_call rfl (wantI_ix N k w r hN hm) rfl (den_let rfl (den_ret rfl rfl))
/-- What is to be taken away. -/
def delAt (node : List Int) (w : List (D PairT)) (r : D RowT) : List (D OpT) := if hasPre r.1 (svcKey node []) && decide (wantIx w r.1 < 0) then [((3 : Int), r.1, ([] : List Int), (0 : Int), ())] else []
/-- Is a pair to be put? -/
def needs (rows : List (D RowT)) (p : D PairT) : Bool := if rowIx rows p.1 < 0 then true else match rows[(rowIx rows p.1).toNat]? with
  | some r => !(kb r.2.1 == kb p.2.1)
  | none => false
def setAt (rows : List (D RowT)) (p : D PairT) : List (D OpT) := if needs rows p then [((1 : Int), p.1, p.2.1, (0 : Int), ())] else []
def planOf (node : List Int) (w : List (D PairT)) (rows : List (D RowT)) : List (D OpT) := rows.flatMap (delAt node w) ++ w.flatMap (setAt rows)
theorem del_len (node : List Int) (w : List (D PairT)) (r : D RowT) : (delAt node w r).length ≤ 1 := by unfold delAt; split <;> simp
theorem set_len (rows : List (D RowT)) (p : D PairT) : (setAt rows p).length ≤ 1 := by unfold setAt; split <;> simp
theorem flat_len {α β : Type} {f : α → List β} (hf : ∀ x, (f x).length ≤ 1) : ∀ l : List α, (l.flatMap f).length ≤ l.length
  | [] => by simp
  | x :: l => by
    have := flat_len hf l
    have := hf x
    simp only [List.flatMap_cons, List.length_append, List.length_cons]
    omega
theorem flat_take {α β : Type} (f : α → List β) {l : List α} {i : Int} (h0 : 0 ≤ i) (h : i.toNat < l.length) : (l.take (i + 1).toNat).flatMap f = (l.take i.toNat).flatMap f ++ f l[i.toNat] := by
  rw [show (i + 1).toNat = i.toNat + 1 by omega, List.take_succ_eq_append_getElem h, List.flatMap_append]; simp
theorem rowIx_lt {rows : List (D RowT)} {key : List Int} (h : ¬ rowIx rows key < 0) : (rowIx rows key).toNat < rows.length := by
  have hp : ∀ (l : List (D RowT)) (i : Int), 0 ≤ i → ¬ ixFrom (fun y : D RowT => keyP key y.1) l i < 0 → ixFrom (fun y : D RowT => keyP key y.1) l i < i + l.length := by
    intro l
    induction l with
    | nil => intro i h0 h; exact absurd (by simp [ixFrom]) h
    | cons x l ih =>
      intro i h0 h
      unfold ixFrom at h ⊢
      split
      · simp; omega
      · rename_i hx
        rw [if_neg hx] at h
        have := ih (i + 1) (by omega) h
        simp
        omega
  have := hp rows 0 (Int.le_refl _) h
  unfold rowIx at h ⊢
  omega
theorem den_joinAP {F : Fns} {N : Nat} {ρ : List Dy} {Ls : List Lb} {r : Option (List Dy)} {α : Type} {body main : IR} (enc : α → List Dy) (P : α → Prop) (f : α → Option (List Dy)) (hb : ∀ a, P a → den F N body (ρ ++ enc a) (Ls ++ [fun _ => none]) = f a) (hm : ∀ J : Lb, (∀ a, P a → J (enc a) = f a) → den F N main ρ (Ls ++ [J]) = r) : den F N (.label false body main) ρ Ls = r :=
  hm _ hb

set_option maxHeartbeats 8000000 in
theorem planS (N k : Nat) (node : List Int) (ss : List (D ServT)) (i0 lost : Int) (rows : List (D RowT)) (tombs : List (D TombT)) (sess : List (D SessT)) (lasts : List (D LastT)) (hN : big ≤ N) (hn : node.length < big) (hl : ss.length < big) (hs : ∀ s ∈ ss, okServ s)
    (hr : rows.length < big) (hrk : ∀ r ∈ rows, List.length r.1 < big) :
    Lv N (k + 6) 39 [⟨LocalT, (node, ss, ())⟩, ⟨StateT, (i0, rows, tombs, lost, sess, lasts, ())⟩] = some [S OpT (planOf node (ss.map (pairOf node)) rows)] := by
  have hN' : 1048577 ≤ N := hN
  refine level_den rfl rfl ?_ rfl
  unfold ir39
  refine den_let rfl (den_let rfl (den_let rfl (den_call rfl (wantS N k node ss hN hn hl hs) rfl (den_call rfl (key88 N (k + 4) node [] hn (by simp [big])) rfl ?_))))
  simp only [List.cons_append, List.nil_append]
  obtain ⟨w, hw⟩ : ∃ w, w = ss.map (pairOf node) := ⟨_, rfl⟩
  have hwl : w.length < big := by rw [hw, List.length_map]; exact hl
  rw [← hw]
  refine den_loop (den_jump rfl rfl ?_)
  simp only [List.cons_append, List.nil_append]
  refine rounds_ind (α := Int) (enc := fun i => [S OpT ((rows.take i.toNat).flatMap (delAt node w)), I i, S OpT [], S PairT w, S (.int .u8) (svcKey node [])]) (ans := fun _ => some [S OpT (planOf node w rows)]) (meas := fun i => rows.length - i.toNat) (Q := fun i => 0 ≤ i ∧ i ≤ rows.length) (fun J i hi hJ => ?_) N 0 ⟨Int.le_refl _, by omega⟩ (by simp; omega)
  refine den_let rfl (den_let rfl (den_ite rfl (fun h => ?_) (fun h => ?_)))
  · have h : i < rows.length := by simpa using h
    have hlt : i.toNat < rows.length := by omega
    have hlen := flat_len (del_len node w) (rows.take i.toNat)
    rw [List.length_take] at hlen
    refine den_joinAP (α := List (D OpT)) (fun x => [S OpT x]) (fun x => x = (rows.take (i + 1).toNat).flatMap (delAt node w)) (fun _ => some [S OpT (planOf node w rows)]) (fun x hx => ?_) (fun J1 hJ1 => ?_)
    · simp only [List.cons_append, List.nil_append]
      subst hx
      refine den_let rfl (den_jump rfl rfl ?_)
      rw [up hi.1 hi.2 hr]
      exact hJ (i + 1) ⟨by omega, by omega⟩ (by omega)
    · rw [flat_take (delAt node w) hi.1 hlt] at hJ1
      refine den_joinP (fun b => b = (hasPre rows[i.toNat].1 (svcKey node []) && decide (wantIx w rows[i.toNat].1 < 0))) (fun _ => some [S OpT (planOf node w rows)]) (fun b hb => ?_) (fun J2 hJ2 => ?_)
      · simp only [List.cons_append, List.nil_append]
        refine den_ite rfl (fun g => ?_) (fun g => ?_)
        · rw [g] at hb
          refine den_let rfl (den_idx rfl rfl rfl hi.1 (List.getElem?_eq_getElem hlt) (den_let rfl ?_))
          simp only [List.cons_append, List.nil_append]
          have hk := hrk _ (List.getElem_mem hlt)
          unfold big at hk hr
          refine den_app (l := []) (m := rows[i.toNat].1) rfl rfl (by show _ < 4294967296; simp; omega) (den_let rfl (den_let rfl (den_let rfl (den_let rfl ?_))))
          simp only [List.cons_append, List.nil_append]
          refine den_app (l := (rows.take i.toNat).flatMap (delAt node w)) (m := [((3 : Int), rows[i.toNat].1, ([] : List Int), (0 : Int), ())]) rfl rfl (by show _ < 4294967296; simp only [List.length_cons, List.length_nil]; omega) (den_jump rfl rfl ?_)
          refine hJ1 _ ?_
          unfold delAt
          rw [← hb]; rfl
        · rw [g] at hb
          refine den_jump rfl rfl (hJ1 _ ?_)
          unfold delAt
          rw [← hb]; simp
      · simp only [List.cons_append, List.nil_append]
        refine den_idx rfl rfl rfl hi.1 (List.getElem?_eq_getElem hlt) (den_let rfl (den_call rfl (preS N (k + 4) rows[i.toNat].1 (svcKey node [])) rfl (den_ite rfl (fun g => ?_) (fun g => ?_))))
        · simp only [List.cons_append, List.nil_append]
          refine den_idx rfl rfl rfl hi.1 (List.getElem?_eq_getElem hlt) (den_let rfl (den_call rfl (wantS_in N (k + 4) w rows[i.toNat].1 hN hwl) rfl (den_let rfl (den_jump rfl rfl ?_))))
          exact hJ2 _ (by rw [g]; rfl)
        · exact den_jump rfl rfl (hJ2 _ (by rw [g]; rfl))
  · have h : ¬ i < rows.length := by simpa using h
    rw [List.take_of_length_le (show rows.length ≤ i.toNat by omega)]
    have hdl := flat_len (del_len node w) rows
    obtain ⟨dl, hdd⟩ : ∃ dl, dl = rows.flatMap (delAt node w) := ⟨_, rfl⟩
    unfold planOf
    rw [← hdd] at hdl ⊢
    refine den_loop (den_jump rfl rfl ?_)
    simp only [List.cons_append, List.nil_append]
    rw [show S OpT dl = S OpT (dl ++ (w.take (0 : Int).toNat).flatMap (setAt rows)) by simp]
    clear hJ h hi
    refine rounds_ind (α := Int) (enc := fun j => [S OpT (dl ++ (w.take j.toNat).flatMap (setAt rows)), I j, S OpT [], S PairT w, S (.int .u8) (svcKey node [])]) (ans := fun _ => some [S OpT (dl ++ w.flatMap (setAt rows))]) (meas := fun j => w.length - j.toNat) (Q := fun j => 0 ≤ j ∧ j ≤ w.length) (fun J3 j hj hJ3 => ?_) N 0 ⟨Int.le_refl _, by omega⟩ (by simp; omega)
    refine den_let rfl (den_let rfl (den_ite rfl (fun h3 => ?_) (fun h3 => ?_)))
    · have h3 : j < w.length := by simpa using h3
      have hjt : j.toNat < w.length := by omega
      have hlen := flat_len (set_len rows) (w.take j.toNat)
      rw [List.length_take] at hlen
      refine den_joinAP (α := List (D OpT)) (fun x => [S OpT x]) (fun x => x = dl ++ (w.take (j + 1).toNat).flatMap (setAt rows)) (fun _ => some [S OpT (dl ++ w.flatMap (setAt rows))]) (fun x hx => ?_) (fun J4 hJ4 => ?_)
      · simp only [List.cons_append, List.nil_append]
        subst hx
        refine den_let rfl (den_jump rfl rfl ?_)
        rw [up hj.1 hj.2 hwl]
        exact hJ3 (j + 1) ⟨by omega, by omega⟩ (by omega)
      · rw [flat_take (setAt rows) hj.1 hjt, ← List.append_assoc] at hJ4
        simp only [List.cons_append, List.nil_append]
        refine den_let rfl (den_idx rfl rfl rfl hj.1 (List.getElem?_eq_getElem hjt) (den_idx rfl rfl rfl hj.1 (List.getElem?_eq_getElem hjt) (den_let rfl ?_)))
        simp only [List.cons_append, List.nil_append]
        refine den_call rfl (rowS N (k + 4) i0 lost rows tombs sess lasts w[j.toNat].1 hN hr) rfl ?_
        simp only [List.cons_append, List.nil_append]
        refine den_joinP (fun b => b = needs rows w[j.toNat]) (fun _ => some [S OpT (dl ++ w.flatMap (setAt rows))]) (fun b hb => ?_) (fun J5 hJ5 => ?_)
        · simp only [List.cons_append, List.nil_append]
          refine den_ite rfl (fun g => ?_) (fun g => ?_)
          · rw [g] at hb
            refine den_idx rfl rfl rfl hj.1 (List.getElem?_eq_getElem hjt) (den_idx rfl rfl rfl hj.1 (List.getElem?_eq_getElem hjt) (den_let rfl ?_))
            simp only [List.cons_append, List.nil_append]
            refine den_idx rfl rfl rfl hj.1 (List.getElem?_eq_getElem hjt) (den_idx rfl rfl rfl hj.1 (List.getElem?_eq_getElem hjt) (den_let rfl ?_))
            simp only [List.cons_append, List.nil_append]
            refine den_let rfl (den_let rfl (den_let rfl (den_let rfl (den_let rfl ?_))))
            simp only [List.cons_append, List.nil_append]
            refine den_app (l := dl ++ (w.take j.toNat).flatMap (setAt rows)) (m := [((1 : Int), w[j.toNat].1, w[j.toNat].2.1, (0 : Int), ())]) rfl rfl (by have := hwl; have := hr; unfold big at *; show _ < 4294967296; simp only [List.length_cons, List.length_nil, List.length_append]; omega) (den_jump rfl rfl ?_)
            refine hJ4 _ ?_
            unfold setAt
            rw [← hb]; rfl
          · rw [g] at hb
            refine den_jump rfl rfl (hJ4 _ ?_)
            unfold setAt
            rw [← hb]; simp
        · simp only [List.cons_append, List.nil_append]
          refine den_let rfl (den_ite rfl (fun g => ?_) (fun g => ?_))
          · refine den_jump rfl rfl (hJ5 _ ?_)
            unfold needs
            rw [if_pos (by simpa using g)]
          · have g : ¬ rowIx rows w[j.toNat].1 < 0 := by simpa using g
            have hix := rowIx_lt g
            simp only [List.cons_append, List.nil_append]
            refine den_idx rfl rfl rfl (by omega) (List.getElem?_eq_getElem hix) (den_let rfl (den_let (ev_text _) ?_))
            simp only [List.cons_append, List.nil_append]
            refine den_idx rfl rfl rfl hj.1 (List.getElem?_eq_getElem hjt) (den_idx rfl rfl rfl hj.1 (List.getElem?_eq_getElem hjt) (den_let rfl (den_let (ev_text _) (den_let (ev_neq 9 _ _) ?_))))
            simp only [List.cons_append, List.nil_append]
            refine den_jump rfl rfl (hJ5 _ ?_)
            unfold needs
            rw [if_neg g, List.getElem?_eq_getElem hix]
    · have h3 : ¬ j < w.length := by simpa using h3
      refine den_ret rfl ?_
      show some [S OpT (dl ++ w.flatMap (setAt rows))] = some [S OpT (dl ++ (w.take j.toNat).flatMap (setAt rows))]
      rw [List.take_of_length_le (show w.length ≤ j.toNat by omega)]

theorem svc_nil (node : List Int) : svcKey node [] = (svc ++ node) ++ [47] := by simp [svcKey]
set_option maxHeartbeats 8000000 in
theorem planI (N k : Nat) (node : List Int) (ss : List (D ServT)) (i0 lost : Int) (rows : List (D RowT)) (tombs : List (D TombT)) (sess : List (D SessT)) (lasts : List (D LastT)) (hN : big ≤ N) (hn : node.length < big) (hl : ss.length < big) (hs : ∀ s ∈ ss, okServ s)
    (hr : rows.length < big) (hrk : ∀ r ∈ rows, List.length r.1 < big ∧ True) (ht : ∀ y ∈ tombs, List.length y.1 < big ∧ True) (hl2 : tombs.length < big) (hl3 : sess.length < big) (hl4 : lasts.length < big) :
    Lv N (k + 7) 15 [⟨LocalT, (node, ss, ())⟩, ⟨StateT, (i0, rows, tombs, lost, sess, lasts, ())⟩] = some (if localOk node ss && stateOk i0 lost rows tombs sess lasts then [S OpT (planOf node (ss.map (pairOf node)) rows), B true] else [S OpT [], B false]) := by
  have hN' : 1048577 ≤ N := hN
  refine level_den rfl rfl ?_ (by split <;> rfl)
  unfold ir15
  refine den_let rfl (den_let rfl (den_let rfl (den_call rfl (localOkI N (k + 1) node ss hN hn hl hs) rfl (den_let rfl (den_ite (b := !localOk node ss) rfl (fun g => ?_) (fun g => ?_))))))
  · have g : localOk node ss = false := by simpa using g
    rw [g]
    exact den_ret rfl rfl
  have g : localOk node ss = true := by simpa using g
  rw [g, Bool.true_and]
  simp only [List.cons_append, List.nil_append]
  refine den_let rfl (den_call rfl (stateOkI N k i0 lost rows tombs sess lasts hN hrk ht hr hl2 hl3 hl4) rfl (den_let rfl (den_ite (b := !stateOk i0 lost rows tombs sess lasts) rfl (fun g2 => ?_) (fun g2 => ?_))))
  · have g2 : stateOk i0 lost rows tombs sess lasts = false := by simpa using g2
    rw [g2]
    exact den_ret rfl rfl
  have g2 : stateOk i0 lost rows tombs sess lasts = true := by simpa using g2
  have hsrt := state_sorted g2
  rw [g2]
  simp only [if_true]
  simp only [List.cons_append, List.nil_append]
  refine den_let rfl (den_call rfl (wantI N k node ss hN hn hl hs) rfl (den_let rfl ?_))
  simp only [List.cons_append, List.nil_append]
  obtain ⟨w, hw⟩ : ∃ w, w = ss.map (pairOf node) := ⟨_, rfl⟩
  have hwl : w.length < big := by rw [hw, List.length_map]; exact hl
  rw [← hw]
  refine den_loop (den_jump rfl rfl ?_)
  simp only [List.cons_append, List.nil_append]
  refine rounds_ind (α := Int) (enc := fun i => [S OpT ((rows.take i.toNat).flatMap (delAt node w)), I i, S OpT [], S PairT w]) (ans := fun _ => some [S OpT (planOf node w rows), B true]) (meas := fun i => rows.length - i.toNat) (Q := fun i => 0 ≤ i ∧ i ≤ rows.length) (fun J i hi hJ => ?_) N 0 ⟨Int.le_refl _, by omega⟩ (by simp; omega)
  refine den_let rfl (den_ite rfl (fun h => ?_) (fun h => ?_))
  · have h : i < rows.length := by simpa using h
    have hlt : i.toNat < rows.length := by omega
    have hlen := flat_len (del_len node w) (rows.take i.toNat)
    rw [List.length_take] at hlen
    have hk := (hrk _ (List.getElem_mem hlt)).1
    have next : ∀ x : List (D OpT), x = (rows.take i.toNat).flatMap (delAt node w) ++ delAt node w rows[i.toNat] → J [S OpT x, I (IntKind.i64.wrap (i + 1)), S OpT [], S PairT w] = some [S OpT (planOf node w rows), B true] := by
      intro x hx
      rw [up hi.1 hi.2 hr, hx, ← flat_take (delAt node w) hi.1 hlt]
      exact hJ (i + 1) ⟨by omega, by omega⟩ (by omega)
    refine den_idx rfl rfl rfl hi.1 (List.getElem?_eq_getElem hlt) (den_let rfl (den_let rfl (den_let rfl ?_)))
    simp only [List.cons_append, List.nil_append]
    refine den_call rfl (ahead56 N (k + 4) (node, ss, ()) hN hn) rfl (den_call rfl (preI N (k + 3) rows[i.toNat].1 ((svc ++ node) ++ [47])) rfl (den_ite rfl (fun g => ?_) (fun g => ?_)))
    · simp only [List.cons_append, List.nil_append]
      refine den_let rfl (den_call rfl (wantI_has N (k + 2) w rows[i.toNat] hN hwl) rfl (den_let rfl (den_ite (b := !decide (wantIx w rows[i.toNat].1 ≥ 0)) rfl (fun g3 => ?_) (fun g3 => ?_))))
      · simp only [List.cons_append, List.nil_append]
        rw [ge_not, Bool.not_not] at g3
        refine den_call rfl (clone60 N (k + 5) rows[i.toNat].1 hk) rfl (den_let rfl (den_let rfl (den_let rfl (den_let rfl ?_))))
        simp only [List.cons_append, List.nil_append]
        refine den_app (l := (rows.take i.toNat).flatMap (delAt node w)) (m := [((3 : Int), rows[i.toNat].1, ([] : List Int), (0 : Int), ())]) rfl rfl (by have := hr; unfold big at *; show _ < 4294967296; simp only [List.length_cons, List.length_nil]; omega) (den_let rfl (den_jump rfl rfl (next _ ?_)))
        unfold delAt
        rw [svc_nil, g, g3]; rfl
      · simp only [List.cons_append, List.nil_append]
        rw [ge_not, Bool.not_not] at g3
        refine den_let rfl (den_jump rfl rfl (next _ ?_))
        unfold delAt
        rw [svc_nil, g, g3]; simp
    · simp only [List.cons_append, List.nil_append]
      refine den_let rfl (den_jump rfl rfl (next _ ?_))
      unfold delAt
      rw [svc_nil, g]; simp
  · have h : ¬ i < rows.length := by simpa using h
    rw [List.take_of_length_le (show rows.length ≤ i.toNat by omega)]
    have hdl := flat_len (del_len node w) rows
    obtain ⟨dl, hdd⟩ : ∃ dl, dl = rows.flatMap (delAt node w) := ⟨_, rfl⟩
    unfold planOf
    rw [← hdd] at hdl ⊢
    refine den_let rfl (den_loop (den_jump rfl rfl ?_))
    simp only [List.cons_append, List.nil_append]
    rw [show S OpT dl = S OpT (dl ++ (w.take (0 : Int).toNat).flatMap (setAt rows)) by simp]
    clear hJ h hi
    refine rounds_ind (α := Int) (enc := fun j => [S OpT (dl ++ (w.take j.toNat).flatMap (setAt rows)), I j, S OpT [], S PairT w]) (ans := fun _ => some [S OpT (dl ++ w.flatMap (setAt rows)), B true]) (meas := fun j => w.length - j.toNat) (Q := fun j => 0 ≤ j ∧ j ≤ w.length) (fun J3 j hj hJ3 => ?_) N 0 ⟨Int.le_refl _, by omega⟩ (by simp; omega)
    refine den_let rfl (den_ite rfl (fun h3 => ?_) (fun h3 => ?_))
    · have h3 : j < w.length := by simpa using h3
      have hjt : j.toNat < w.length := by omega
      have hlen := flat_len (set_len rows) (w.take j.toNat)
      rw [List.length_take] at hlen
      have next : ∀ x : List (D OpT), x = (dl ++ (w.take j.toNat).flatMap (setAt rows)) ++ setAt rows w[j.toNat] → J3 [S OpT x, I (IntKind.i64.wrap (j + 1)), S OpT [], S PairT w] = some [S OpT (dl ++ w.flatMap (setAt rows)), B true] := by
        intro x hx
        rw [up hj.1 hj.2 hwl, hx, List.append_assoc, ← flat_take (setAt rows) hj.1 hjt]
        exact hJ3 (j + 1) ⟨by omega, by omega⟩ (by omega)
      have happ : (dl ++ (w.take j.toNat).flatMap (setAt rows)).length + [((1 : Int), w[j.toNat].1, w[j.toNat].2.1, (0 : Int), ())].length < maxRow := by
        have := hwl; have := hr; unfold big at *; show _ < 4294967296; simp only [List.length_cons, List.length_nil, List.length_append]; omega
      refine den_idx rfl rfl rfl hj.1 (List.getElem?_eq_getElem hjt) (den_idx rfl rfl rfl hj.1 (List.getElem?_eq_getElem hjt) (den_let rfl (den_let rfl (den_let rfl ?_))))
      simp only [List.cons_append, List.nil_append]
      obtain ⟨r, hrow, hrx⟩ := rowI N (k + 3) i0 lost rows tombs sess lasts w[j.toNat].1 hN hr hsrt
      have hany : decide (rowIx rows w[j.toNat].1 < 0) = !rows.any (fun y => keyP w[j.toNat].1 y.1) := ix_any (Int.le_refl _)
      refine den_call rfl hrow rfl (den_let rfl (den_ite (b := !rows.any (fun y => keyP w[j.toNat].1 y.1)) rfl (fun g => ?_) (fun g => ?_)))
      · simp only [List.cons_append, List.nil_append]
        refine den_let rfl (den_let rfl (den_let rfl (den_let rfl (den_let rfl ?_))))
        simp only [List.cons_append, List.nil_append]
        refine den_app (l := dl ++ (w.take j.toNat).flatMap (setAt rows)) (m := [((1 : Int), w[j.toNat].1, w[j.toNat].2.1, (0 : Int), ())]) rfl rfl happ (den_let rfl (den_jump rfl rfl (next _ ?_)))
        have : rowIx rows w[j.toNat].1 < 0 := by rw [← hany] at g; simpa using g
        unfold setAt needs
        rw [if_pos this]; rfl
      · have gt : rows.any (fun y => keyP w[j.toNat].1 y.1) = true := by simpa using g
        have hge : ¬ rowIx rows w[j.toNat].1 < 0 := by rw [gt] at hany; simpa using hany
        have hix := rowIx_lt hge
        have hre := hrx gt
        subst hre
        simp only [List.cons_append, List.nil_append]
        refine den_idx rfl rfl rfl (by omega) (List.getElem?_eq_getElem hix) (den_let rfl ?_)
        simp only [List.cons_append, List.nil_append]
        refine den_call rfl (equalI N (k + 5) _ _) rfl (den_let rfl (den_ite (b := !(kb rows[(rowIx rows w[j.toNat].1).toNat].2.1 == kb w[j.toNat].2.1)) rfl (fun g => ?_) (fun g => ?_)))
        · simp only [List.cons_append, List.nil_append]
          refine den_let rfl (den_let rfl (den_let rfl (den_let rfl (den_let rfl ?_))))
          simp only [List.cons_append, List.nil_append]
          refine den_app (l := dl ++ (w.take j.toNat).flatMap (setAt rows)) (m := [((1 : Int), w[j.toNat].1, w[j.toNat].2.1, (0 : Int), ())]) rfl rfl happ (den_let rfl (den_jump rfl rfl (next _ ?_)))
          have hnd : needs rows w[j.toNat] = true := by
            unfold needs
            rw [if_neg hge, List.getElem?_eq_getElem hix]
            exact g
          have hst : setAt rows w[j.toNat] = [((1 : Int), w[j.toNat].1, w[j.toNat].2.1, (0 : Int), ())] := by
            unfold setAt
            rw [hnd]; rfl
          rw [hst]
        · simp only [List.cons_append, List.nil_append]
          refine den_let rfl (den_jump rfl rfl (next _ ?_))
          have hnd : needs rows w[j.toNat] = false := by
            unfold needs
            rw [if_neg hge, List.getElem?_eq_getElem hix]
            exact g
          have hst : setAt rows w[j.toNat] = [] := by
            unfold setAt
            rw [hnd]; rfl
          rw [hst, List.append_nil]
    · have h3 : ¬ j < w.length := by simpa using h3
      refine den_ret rfl ?_
      show some [S OpT (dl ++ w.flatMap (setAt rows)), B true] = some [S OpT (dl ++ (w.take j.toNat).flatMap (setAt rows)), B true]
      rw [List.take_of_length_le (show w.length ≤ j.toNat by omega)]

end Go.Proofs.YtecleaangfcloabGreat.VtFnExactSynced
