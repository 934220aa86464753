/- The pairs that the catalog should have, by the program and by the reference. Lemmas alone, no statement. -/
import Derived.Test.YtecleaangfcloaaVpLocalFnExactWant
namespace Go.Proofs.Ytecleaangfcloaa.VtFnExactWant
set_option linter.unusedVariables false
set_option linter.unusedSimpArgs false
open Go Go.Vm
abbrev PairT : Ty := .pair (.sl (.int .u8)) (.pair (.sl (.int .u8)) .unit)
/-- The worst status from a on. -/
def worstFrom : List (D CheckT) → Int → Int
  | [], a => a
  | c :: l, a => if checkX c then worstFrom l (if c.2.2.2.1 > a then c.2.2.2.1 else a) else 2
theorem worst_drop {l : List (D CheckT)} {i a : Int} (h0 : 0 ≤ i) (h : i.toNat < l.length) : worstFrom (l.drop i.toNat) a = if checkX l[i.toNat] then worstFrom (l.drop (i + 1).toNat) (if l[i.toNat].2.2.2.1 > a then l[i.toNat].2.2.2.1 else a) else 2 := by
  rw [show (i + 1).toNat = i.toNat + 1 by omega, List.drop_eq_getElem_cons h]
  rfl
theorem check_st {c : D CheckT} (h : checkX c = true) : 0 ≤ c.2.2.2.1 ∧ c.2.2.2.1 ≤ 2 := by
  unfold checkX checkOk inR at h
  simp only [Bool.and_eq_true, decide_eq_true_eq] at h
  exact h.2.2.2.2.1
theorem worst_range : ∀ {l : List (D CheckT)} {a : Int}, 0 ≤ a → a ≤ 2 → 0 ≤ worstFrom l a ∧ worstFrom l a ≤ 2
  | [], a, h0, h1 => ⟨h0, h1⟩
  | c :: l, a, h0, h1 => by
    unfold worstFrom
    split
    · rename_i hc
      have := check_st hc
      split
      · exact worst_range this.1 this.2
      · exact worst_range h0 h1
    · omega
theorem worstS (N k : Nat) (l : List (D CheckT)) (hN : big ≤ N) (hm : l.length < big) (hc : ∀ c ∈ l, List.length c.1 < big) : Lv N (k + 3) 149 [S CheckT l] = some [I (worstFrom l 0)] := by
  refine level_den rfl rfl ?_ rfl
  unfold ir149
  refine den_loop (den_jump rfl rfl ?_)
  simp only [List.cons_append, List.nil_append]
  refine rounds_ind (α := Int × Int) (enc := fun p => [I 0, I p.1, I p.2]) (ans := fun p => some [I (worstFrom (l.drop p.2.toNat) p.1)]) (meas := fun p => l.length - p.2.toNat) (Q := fun p => 0 ≤ p.2 ∧ p.2 ≤ l.length) ?_ N (0, 0) ⟨Int.le_refl _, by show (0 : Int) ≤ l.length; omega⟩ (by show l.length - (0 : Int).toNat < N; simp; omega)
  rintro J ⟨a, i⟩ ⟨hi0, hi1⟩ hJ
  dsimp only at hi0 hi1
  simp only [List.cons_append, List.nil_append]
  refine den_let rfl (den_let rfl (den_ite rfl (fun h => ?_) (fun h => ?_)))
  · have h : i < l.length := by simpa using h
    have hlt : i.toNat < l.length := by omega
    show _ = some [I (worstFrom (l.drop i.toNat) a)]
    rw [worst_drop hi0 hlt]
    refine den_idx rfl rfl rfl hi0 (List.getElem?_eq_getElem hlt) (den_let rfl (den_call rfl (checkS N k l[i.toNat] hN (hc _ (List.getElem_mem hlt))) rfl (den_let rfl (den_ite (b := !checkX l[i.toNat]) rfl (fun g => ?_) (fun g => ?_)))))
    · rw [if_neg (by simpa using g)]
      exact den_ret rfl rfl
    · rw [if_pos (by simpa using g)]
      simp only [List.cons_append, List.nil_append]
      refine den_idx rfl rfl rfl hi0 (List.getElem?_eq_getElem hlt) (den_let rfl (den_let rfl (den_ite (b := decide (l[i.toNat].2.2.2.1 > a)) rfl (fun g2 => ?_) (fun g2 => ?_))))
      · simp only [List.cons_append, List.nil_append]
        rw [if_pos (by simpa using g2)]
        refine den_idx rfl rfl rfl hi0 (List.getElem?_eq_getElem hlt) (den_let rfl (den_let rfl (den_jump rfl rfl ?_)))
        rw [up hi0 hi1 hm]
        exact hJ (l[i.toNat].2.2.2.1, i + 1) ⟨by show 0 ≤ i + 1; omega, by show i + 1 ≤ l.length; omega⟩ (by show l.length - (i + 1).toNat < l.length - i.toNat; omega)
      · simp only [List.cons_append, List.nil_append]
        rw [if_neg (by simpa using g2)]
        refine den_let rfl (den_jump rfl rfl ?_)
        rw [up hi0 hi1 hm]
        exact hJ (a, i + 1) ⟨by show 0 ≤ i + 1; omega, by show i + 1 ≤ l.length; omega⟩ (by show l.length - (i + 1).toNat < l.length - i.toNat; omega)
  · have h : ¬ i < l.length := by simpa using h
    show _ = some [I (worstFrom (l.drop i.toNat) a)]
    rw [List.drop_of_length_le (by omega)]
    exact den_ret rfl rfl
theorem worstI (N k : Nat) (l : List (D CheckT)) (hN : big ≤ N) (hm : l.length < big) (hc : ∀ c ∈ l, List.length c.1 < big) : Lv N (k + 4) 157 [S CheckT l] = some [I (worstFrom l 0)] := by
  refine level_den rfl rfl ?_ rfl
  unfold ir157
  refine den_let rfl (den_loop (den_jump rfl rfl ?_))
  simp only [List.cons_append, List.nil_append]
  refine rounds_ind (α := Int × Int) (enc := fun p => [I 0, I p.1, I p.2]) (ans := fun p => some [I (worstFrom (l.drop p.2.toNat) p.1)]) (meas := fun p => l.length - p.2.toNat) (Q := fun p => 0 ≤ p.2 ∧ p.2 ≤ l.length) ?_ N (0, 0) ⟨Int.le_refl _, by show (0 : Int) ≤ l.length; omega⟩ (by show l.length - (0 : Int).toNat < N; simp; omega)
  rintro J ⟨a, i⟩ ⟨hi0, hi1⟩ hJ
  dsimp only at hi0 hi1
  simp only [List.cons_append, List.nil_append]
  refine den_let rfl (den_ite rfl (fun h => ?_) (fun h => ?_))
  · have h : i < l.length := by simpa using h
    have hlt : i.toNat < l.length := by omega
    show _ = some [I (worstFrom (l.drop i.toNat) a)]
    rw [worst_drop hi0 hlt]
    refine den_idx rfl rfl rfl hi0 (List.getElem?_eq_getElem hlt) (den_let rfl (den_let rfl (den_let rfl ?_)))
    simp only [List.cons_append, List.nil_append]
    refine den_call rfl (checkI N k l[i.toNat] hN (hc _ (List.getElem_mem hlt))) rfl (den_let rfl (den_ite (b := !checkX l[i.toNat]) rfl (fun g => ?_) (fun g => ?_)))
    · rw [if_neg (by simpa using g)]
      exact den_ret rfl rfl
    · rw [if_pos (by simpa using g)]
      simp only [List.cons_append, List.nil_append]
      refine den_let rfl (den_let rfl (den_jump rfl rfl ?_))
      rw [up hi0 hi1 hm]
      exact hJ ((if l[i.toNat].2.2.2.1 > a then l[i.toNat].2.2.2.1 else a), i + 1) ⟨by show 0 ≤ i + 1; omega, by show i + 1 ≤ l.length; omega⟩ (by show l.length - (i + 1).toNat < l.length - i.toNat; omega)
  · have h : ¬ i < l.length := by simpa using h
    show _ = some [I (worstFrom (l.drop i.toNat) a)]
    rw [List.drop_of_length_le (by omega)]
    exact den_ret rfl rfl
/-- A status's text. -/
def stText (n : Int) : List Int := if n = 0 then [112, 97, 115, 115, 105, 110, 103] else if n = 1 then [119, 97, 114, 110, 105, 110, 103] else if n = 2 then [99, 114, 105, 116, 105, 99, 97, 108] else []
theorem textS (N k : Nat) (n : Int) (h0 : 0 ≤ n) (h1 : n ≤ 2) : Lv N (k + 1) 148 [I n] = some [S (.int .u8) (stText n)] := by
  obtain rfl | rfl | rfl : n = 0 ∨ n = 1 ∨ n = 2 := by omega
  all_goals exact level_den rfl rfl rfl rfl
theorem textI (N k : Nat) (n : Int) (h0 : 0 ≤ n) (h1 : n ≤ 2) : Lv N (k + 2) 156 [I n] = some [S (.int .u8) (stText n)] := by
  obtain rfl | rfl | rfl : n = 0 ∨ n = 1 ∨ n = 2 := by omega
  all_goals
    refine level_den rfl rfl ?_ rfl
    unfold ir156
    exact den_call rfl (within60 N k _ 0 2) rfl rfl
def pairOf (node : List Int) (s : D ServT) : D PairT := (svcKey node s.1, stText (worstFrom s.2.1 0), ())
theorem map_take {α β : Type} (f : α → β) {l : List α} {i : Int} (h0 : 0 ≤ i) (h : i.toNat < l.length) : (l.take (i + 1).toNat).map f = (l.take i.toNat).map f ++ [f l[i.toNat]] := by
  rw [show (i + 1).toNat = i.toNat + 1 by omega, List.take_succ_eq_append_getElem h, List.map_append]; rfl

set_option maxHeartbeats 4000000 in
theorem wantS (N k : Nat) (node : List Int) (ss : List (D ServT)) (hN : big ≤ N) (hn : node.length < big) (hl : ss.length < big) (hs : ∀ s ∈ ss, okServ s) : Lv N (k + 5) 90 [⟨LocalT, (node, ss, ())⟩] = some [S PairT (ss.map (pairOf node))] := by
  have hN' : 1048577 ≤ N := hN
  refine level_den rfl rfl ?_ rfl
  unfold ir90
  refine den_let rfl (den_loop (den_jump rfl rfl ?_))
  simp only [List.cons_append, List.nil_append]
  refine rounds_ind (α := Int) (enc := fun i => [S PairT ((ss.take i.toNat).map (pairOf node)), I i, S PairT []]) (ans := fun _ => some [S PairT (ss.map (pairOf node))]) (meas := fun i => ss.length - i.toNat) (Q := fun i => 0 ≤ i ∧ i ≤ ss.length) (fun J i hi hJ => ?_) N 0 ⟨Int.le_refl _, by omega⟩ (by simp; omega)
  refine den_let rfl (den_let rfl (den_ite rfl (fun h => ?_) (fun h => ?_)))
  · have h : i < ss.length := by simpa using h
    have hlt : i.toNat < ss.length := by omega
    obtain ⟨_, hcl, hcs⟩ := hs _ (List.getElem_mem hlt)
    obtain ⟨w0, w1⟩ := worst_range (l := ss[i.toNat].2.1) (Int.le_refl 0) (by decide)
    refine den_idx rfl rfl rfl hi.1 (List.getElem?_eq_getElem hlt) (den_let rfl (den_let rfl ?_))
    simp only [List.cons_append, List.nil_append]
    refine den_call rfl (key88 N (k + 3) node ss[i.toNat].1 hn (hs _ (List.getElem_mem hlt)).1) rfl ?_
    simp only [List.cons_append, List.nil_append]
    refine den_call rfl (worstS N (k + 1) ss[i.toNat].2.1 hN hcl hcs) rfl (den_call rfl (textS N (k + 3) _ w0 w1) rfl ?_)
    simp only [List.cons_append, List.nil_append]
    refine den_let rfl (den_let rfl (den_let rfl (den_let rfl ?_)))
    simp only [List.cons_append, List.nil_append]
    refine den_app (l := (ss.take i.toNat).map (pairOf node)) (m := [pairOf node ss[i.toNat]]) rfl rfl (by have hl' := hl; unfold big at hl'; show _ < 4294967296; simp; omega) (den_let rfl (den_jump rfl rfl ?_))
    rw [up hi.1 hi.2 hl, ← map_take (pairOf node) hi.1 hlt]
    exact hJ (i + 1) ⟨by omega, by omega⟩ (by omega)
  · have h : ¬ i < ss.length := by simpa using h
    refine den_ret rfl ?_
    show some [S PairT (ss.map (pairOf node))] = some [S PairT ((ss.take i.toNat).map (pairOf node))]
    rw [List.take_of_length_le (show ss.length ≤ i.toNat by omega)]

set_option maxHeartbeats 4000000 in
theorem wantI (N k : Nat) (node : List Int) (ss : List (D ServT)) (hN : big ≤ N) (hn : node.length < big) (hl : ss.length < big) (hs : ∀ s ∈ ss, okServ s) : Lv N (k + 6) 94 [⟨LocalT, (node, ss, ())⟩] = some [S PairT (ss.map (pairOf node))] := by
  have hN' : 1048577 ≤ N := hN
  refine level_den rfl rfl ?_ rfl
  unfold ir94
  refine den_let rfl (den_let rfl (den_loop (den_jump rfl rfl ?_)))
  simp only [List.cons_append, List.nil_append]
  refine rounds_ind (α := Int) (enc := fun i => [S PairT ((ss.take i.toNat).map (pairOf node)), I i, S PairT []]) (ans := fun _ => some [S PairT (ss.map (pairOf node))]) (meas := fun i => ss.length - i.toNat) (Q := fun i => 0 ≤ i ∧ i ≤ ss.length) (fun J i hi hJ => ?_) N 0 ⟨Int.le_refl _, by omega⟩ (by simp; omega)
  refine den_let rfl (den_ite rfl (fun h => ?_) (fun h => ?_))
  · have h : i < ss.length := by simpa using h
    have hlt : i.toNat < ss.length := by omega
    obtain ⟨_, hcl, hcs⟩ := hs _ (List.getElem_mem hlt)
    obtain ⟨w0, w1⟩ := worst_range (l := ss[i.toNat].2.1) (Int.le_refl 0) (by decide)
    refine den_idx rfl rfl rfl hi.1 (List.getElem?_eq_getElem hlt) (den_let rfl (den_let rfl ?_))
    simp only [List.cons_append, List.nil_append]
    refine den_let rfl (den_call rfl (key110 N (k + 2) (node, ss, ()) ss[i.toNat].1 hN hn (hs _ (List.getElem_mem hlt)).1) rfl ?_)
    simp only [List.cons_append, List.nil_append]
    refine den_call rfl (worstI N (k + 1) ss[i.toNat].2.1 hN hcl hcs) rfl (den_call rfl (textI N (k + 3) _ w0 w1) rfl ?_)
    simp only [List.cons_append, List.nil_append]
    refine den_let rfl (den_let rfl (den_let rfl (den_let rfl ?_)))
    simp only [List.cons_append, List.nil_append]
    refine den_app (l := (ss.take i.toNat).map (pairOf node)) (m := [pairOf node ss[i.toNat]]) rfl rfl (by have hl' := hl; unfold big at hl'; show _ < 4294967296; simp; omega) (den_let rfl (den_jump rfl rfl ?_))
    rw [up hi.1 hi.2 hl, ← map_take (pairOf node) hi.1 hlt]
    exact hJ (i + 1) ⟨by omega, by omega⟩ (by omega)
  · have h : ¬ i < ss.length := by simpa using h
    refine den_ret rfl ?_
    show some [S PairT (ss.map (pairOf node))] = some [S PairT ((ss.take i.toNat).map (pairOf node))]
    rw [List.take_of_length_le (show ss.length ≤ i.toNat by omega)]

end Go.Proofs.Ytecleaangfcloaa.VtFnExactWant
