/- Behind, by the program and by the reference, is one. Lemmas alone, no statement. -/
import Derived.Test.YtecleaangfcloaaVpNdFnExactBehind
namespace Go.Proofs.Ytecleaangfcloaa.VtFnExactBehind
set_option linter.unusedVariables false
set_option linter.unusedSimpArgs false
open Go Go.Vm
abbrev Li (l : List Int) : Dy := S (.int .i64) l
def upL (p : Int → Bool) : Int → Nat → List Int
  | _, 0 => []
  | i, d + 1 => if p i then i :: upL p (i + 1) d else upL p (i + 1) d
theorem upL_filter (p q : Int → Bool) : ∀ (d : Nat) (i : Int), (upL p i d).filter q = upL (fun x => p x && q x) i d
  | 0, i => rfl
  | d + 1, i => by
    unfold upL
    cases hp : p i with
    | false => simp [upL_filter p q d (i + 1)]
    | true =>
      cases hq : q i with
      | false => simp [hq, upL_filter p q d (i + 1)]
      | true => simp [hq, upL_filter p q d (i + 1)]
theorem upL_mem {p : Int → Bool} : ∀ {d : Nat} {i x : Int}, x ∈ upL p i d → i ≤ x ∧ x < i + d
  | 0, i, x, h => by simp [upL] at h
  | d + 1, i, x, h => by
    unfold upL at h
    split at h
    · rcases List.mem_cons.1 h with rfl | h
      · omega
      · have := upL_mem h; omega
    · have := upL_mem h; omega
theorem upL_len (p : Int → Bool) : ∀ (d : Nat) (i : Int), (upL p i d).length ≤ d
  | 0, i => by simp [upL]
  | d + 1, i => by
    have := upL_len p d (i + 1)
    unfold upL
    split <;> simp <;> omega
theorem upL_step {p : Int → Bool} {i s : Int} (h : i < s) : upL p i (s - i).toNat = if p i then i :: upL p (i + 1) (s - (i + 1)).toNat else upL p (i + 1) (s - (i + 1)).toNat := by
  rw [show (s - i).toNat = (s - (i + 1)).toNat + 1 by omega]
  rfl
theorem upL_end {p : Int → Bool} {i s : Int} (h : ¬ i < s) : upL p i (s - i).toNat = [] := by
  rw [show (s - i).toNat = 0 by omega]
  rfl
def delB (m : List Int) (len x : Int) : Bool := decide (len ≤ m.getD x.toNat 0)
theorem get_d {m : List Int} {i : Nat} (h : i < m.length) : m[i]? = some (m.getD i 0) := by simp [List.getD, List.getElem?_eq_getElem h]
section
variable {ρ : List Dy} {a b c : A} {x y : Int}
theorem ev_addI (ha : evA ρ a = some (I x)) (hb : evA ρ b = some (I y)) (h0 : -9223372036854775808 ≤ x + y) (h1 : x + y ≤ 9223372036854775807) : ev ρ ⟨.bin .add 3, [a, b]⟩ = some (I (x + y)) := by
  simp only [ev, evAs, ha, hb]
  show some (I (IntKind.i64.wrap (x + y))) = _
  rw [wrap_id h0 h1]
theorem ev_lstI (ha : evA ρ a = some (I x)) : ev ρ ⟨.lst (.int .i64), [a]⟩ = some (Li [x]) := by
  simp only [ev, evAs, ha]
  rfl
theorem ev_clrI {l : List Int} (hb : evA ρ b = some (Li l)) (hc : evA ρ c = some (I x)) (h0 : 0 ≤ x) (h1 : x < l.length) : ev ρ ⟨.clr, [.int .i64 0, b, c]⟩ = some (Li (l.take x.toNat ++ List.replicate (l.length - x.toNat) 0)) := by
  have h1' : x < (List.length l : Int) := h1
  simp only [ev, evAs, evA, hb, hc, evX, Dy.as, dif_pos, h0, h1', and_self, if_true]
theorem ev_subI {l : List Int} (hb : evA ρ b = some (Li l)) (hc : evA ρ c = some (I x)) (h0 : 0 ≤ x) (h1 : x ≤ l.length) : ev ρ ⟨.sub 1 false true, [b, c]⟩ = some (Li (l.take x.toNat)) := by
  have h1' : x ≤ (List.length l : Int) := h1
  have e1 : (Ty.int IntKind.i64).n = 1 := rfl
  simp only [ev, evAs, hb, hc, evX, bounds, e1, h0, h1', ne_eq, Nat.one_ne_zero, not_false_eq_true, and_self, if_true, Int.le_refl]
  rfl
end
theorem del84 (N k : Nat) (i0 i1 i2 : Int) (l : List (D ITy)) (i4 i5 i6 i7 : Int) (v : List Bool) (n m : List Int) (x : Int) (h0 : 0 ≤ x) (h1 : x < m.length) :
    Lv N (k + 1) 84 [I x, ⟨NTy, (i0, i1, i2, l, i4, i5, i6, i7, v, n, m, ())⟩] = some [B (delB m l.length x)] := by
  refine level_den rfl rfl ?_ rfl
  unfold ir84 delB
  refine den_let rfl (den_idx (e := .int .i64) (l := m) rfl rfl rfl h0 (get_d (by omega)) (den_let rfl (den_let rfl (den_let rfl ?_))))
  simp only [List.cons_append, List.nil_append]
  exact den_let rfl (den_ret rfl rfl)
theorem others80 (N k : Nat) (i0 i1 i2 : Int) (l : List (D ITy)) (i4 i5 i6 i7 : Int) (v : List Bool) (n m : List Int) (hv : v.length < big) (hN : big ≤ N) :
    Lv N (k + 1) 80 [⟨NTy, (i0, i1, i2, l, i4, i5, i6, i7, v, n, m, ())⟩] = some [Li (upL (fun x => !(x == i0)) 0 v.length)] := by
  have hbig : big = 1048577 := rfl
  refine level_den rfl rfl ?_ rfl
  unfold ir80
  refine den_let rfl (den_let rfl (den_loop (den_jump rfl rfl ?_)))
  have e0 : upL (fun x => !(x == i0)) 0 v.length = [] ++ upL (fun x => !(x == i0)) 0 ((v.length : Int) - 0).toNat := by simp
  rw [e0]
  refine rounds_ind (α := List Int × Int) (enc := fun s => [Li s.1, I s.2, Li []]) (ans := fun s => some [Li (s.1 ++ upL (fun x => !(x == i0)) s.2 ((v.length : Int) - s.2).toNat)]) (meas := fun s => ((v.length : Int) - s.2).toNat) (Q := fun s => 0 ≤ s.2 ∧ s.2 ≤ v.length ∧ (s.1.length : Int) ≤ s.2) ?_ N ([], 0) ⟨by show (0 : Int) ≤ 0; omega, by show (0 : Int) ≤ v.length; omega, by simp⟩ (by show ((v.length : Int) - 0).toNat < N; omega)
  rintro J ⟨acc, i⟩ ⟨h0, h1, h2⟩ hJ
  dsimp only at h0 h1 h2
  dsimp only
  simp only [List.cons_append, List.nil_append]
  refine den_let rfl (den_ite (b := decide (i < v.length)) rfl (fun c => ?_) (fun c => ?_))
  · have c : i < v.length := of_decide_eq_true c
    rw [upL_step c]
    simp only [List.cons_append, List.nil_append]
    refine den_let rfl (den_ite (b := i != i0) rfl (fun g => ?_) (fun g => ?_))
    · rw [if_pos (show (!(i == i0)) = true from g)]
      simp only [List.cons_append, List.nil_append]
      refine den_let (ev_lstI (x := i) rfl) (den_app (e := .int .i64) (l := acc) (m := [i]) rfl rfl (by unfold maxRow; simp; omega) (den_let (ev_addI (x := i) (y := 1) rfl rfl (by omega) (by omega)) (den_jump rfl rfl ?_)))
      rw [show acc ++ i :: upL (fun x => !(x == i0)) (i + 1) ((v.length : Int) - (i + 1)).toNat = (acc ++ [i]) ++ upL (fun x => !(x == i0)) (i + 1) ((v.length : Int) - (i + 1)).toNat by simp]
      exact hJ (acc ++ [i], i + 1) ⟨by show 0 ≤ i + 1; omega, by show i + 1 ≤ (v.length : Int); omega, by show ((acc ++ [i]).length : Int) ≤ i + 1; simp; omega⟩ (by show ((v.length : Int) - (i + 1)).toNat < ((v.length : Int) - i).toNat; omega)
    · rw [if_neg (show ¬ (!(i == i0)) = true by rw [show (!(i == i0)) = (i != i0) from rfl, g]; simp)]
      refine den_let (ev_addI (x := i) (y := 1) rfl rfl (by omega) (by omega)) (den_jump rfl rfl ?_)
      exact hJ (acc, i + 1) ⟨by show 0 ≤ i + 1; omega, by show i + 1 ≤ (v.length : Int); omega, by show (acc.length : Int) ≤ i + 1; omega⟩ (by show ((v.length : Int) - (i + 1)).toNat < ((v.length : Int) - i).toNat; omega)
  · have c : ¬ i < v.length := of_decide_eq_false c
    rw [upL_end c]
    exact den_ret rfl (by simp)
def firstD (p : Int → Bool) : List Int → Int → Int
  | [], _ => -1
  | x :: l, i => if p x then i else firstD p l (i + 1)
theorem firstD_cases (p : Int → Bool) : ∀ (l : List Int) (i : Int), (firstD p l i = -1 ∧ ∀ x ∈ l, p x = false) ∨ ∃ pre y post, l = pre ++ y :: post ∧ firstD p l i = i + pre.length ∧ (∀ x ∈ pre, p x = false) ∧ p y = true
  | [], i => .inl ⟨rfl, by simp⟩
  | x :: l, i => by
    unfold firstD
    cases hp : p x with
    | true => exact .inr ⟨[], x, l, rfl, by simp, by simp, hp⟩
    | false =>
      simp only [Bool.false_eq_true, if_false]
      rcases firstD_cases p l (i + 1) with ⟨h1, h2⟩ | ⟨pre, y, post, h1, h2, h3, h4⟩
      · exact .inl ⟨h1, by simp [hp]; exact h2⟩
      · exact .inr ⟨x :: pre, y, post, by rw [h1]; rfl, by rw [h2, List.length_cons]; omega, by simp [hp]; exact h3, h4⟩
theorem index143 (N k : Nat) (i0 i1 i2 : Int) (l : List (D ITy)) (i4 i5 i6 i7 : Int) (v : List Bool) (n m : List Int) (xs : List Int) (hx : ∀ x ∈ xs, 0 ≤ x ∧ x < m.length) (hl : xs.length < big) (hN : big ≤ N) :
    Lv N (k + 2) 143 [Li xs, ⟨NTy, (i0, i1, i2, l, i4, i5, i6, i7, v, n, m, ())⟩] = some [I (firstD (delB m l.length) xs 0)] := by
  refine level_den rfl rfl ?_ rfl
  unfold ir143
  refine den_let rfl (den_loop (den_jump rfl rfl ?_))
  refine rounds_ind (α := Int) (enc := fun i => [I 0, I i]) (ans := fun i => some [I (firstD (delB m l.length) (xs.drop i.toNat) i)]) (meas := fun i => xs.length - i.toNat) (Q := fun i => 0 ≤ i ∧ i ≤ xs.length) (fun J i hi hJ => ?_) N 0 (by omega) (by simp; omega)
  simp only [List.cons_append, List.nil_append]
  refine den_let rfl (den_ite (b := decide (i < xs.length)) rfl (fun h => ?_) (fun h => ?_))
  · have h : i < xs.length := of_decide_eq_true h
    have hlt : i.toNat < xs.length := by omega
    have hm := hx _ (List.getElem_mem hlt)
    rw [List.drop_eq_getElem_cons hlt]
    simp only [List.cons_append, List.nil_append]
    refine den_idx (e := .int .i64) (l := xs) rfl rfl rfl hi.1 (List.getElem?_eq_getElem hlt) (den_let rfl (den_call rfl (del84 N k i0 i1 i2 l i4 i5 i6 i7 v n m xs[i.toNat] hm.1 hm.2) rfl (den_ite (b := delB m l.length xs[i.toNat]) rfl (fun g => ?_) (fun g => ?_))))
    · unfold firstD
      rw [if_pos g]
      exact den_ret rfl rfl
    · unfold firstD
      rw [if_neg (by rw [g]; simp)]
      refine den_let (ev_addI (x := i) (y := 1) rfl rfl (by unfold big at hl; omega) (by unfold big at hl; omega)) (den_jump rfl rfl ?_)
      rw [show i.toNat + 1 = (i + 1).toNat by omega]
      exact hJ (i + 1) (by omega) (by omega)
  · have h : ¬ i < xs.length := of_decide_eq_false h
    rw [List.drop_of_length_le (by omega)]
    exact den_ret rfl rfl
theorem keep_all {p : Int → Bool} {l : List Int} (h : ∀ x ∈ l, p x = false) : l.filter (fun x => !p x) = l := List.filter_eq_self.2 (fun x hx => by rw [h x hx]; rfl)
set_option maxHeartbeats 2000000 in
theorem delete83 (N k : Nat) (i0 i1 i2 : Int) (l : List (D ITy)) (i4 i5 i6 i7 : Int) (v : List Bool) (n m : List Int) (xs : List Int) (hx : ∀ x ∈ xs, 0 ≤ x ∧ x < m.length) (hl : xs.length < big) (hN : big ≤ N) :
    Lv N (k + 3) 83 [⟨NTy, (i0, i1, i2, l, i4, i5, i6, i7, v, n, m, ())⟩, Li xs] = some [Li (xs.filter fun x => !delB m l.length x)] := by
  have hbig : big = 1048577 := rfl
  refine level_den rfl rfl ?_ rfl
  unfold ir83
  refine den_call rfl (index143 N k i0 i1 i2 l i4 i5 i6 i7 v n m xs hx hl hN) rfl ?_
  rcases firstD_cases (delB m l.length) xs 0 with ⟨h1, h2⟩ | ⟨pre, y, post, rfl, h1, h3, h4⟩
  · rw [h1, keep_all h2]
    simp only [List.cons_append, List.nil_append]
    exact den_let rfl (den_ite (b := true) rfl (fun _ => den_ret rfl rfl) (fun h => by cases h))
  · rw [h1, Int.zero_add]
    simp only [List.cons_append, List.nil_append]
    refine den_let rfl (den_ite (b := ((pre.length : Int) == -1)) rfl (fun h => by simp at h) (fun _ => ?_))
    rw [List.length_append, List.length_cons] at hl
    refine den_let (ev_addI (x := pre.length) (y := 1) rfl rfl (by omega) (by omega)) (den_loop (den_jump (ds := [I pre.length, I ((pre.length : Int) + 1), Li (pre ++ [y] ++ post), Li []]) rfl (by rw [show pre ++ [y] ++ post = pre ++ y :: post by simp]; rfl) ?_))
    have efin : (pre ++ y :: post).filter (fun x => !delB m l.length x) = pre ++ post.filter (fun x => !delB m l.length x) := by
      rw [List.filter_append, keep_all h3, List.filter_cons, if_neg (by rw [h4]; simp)]
    rw [efin]
    refine rounds_ind (α := List Int × List Int × List Int) (enc := fun s => [I s.1.length, I ((s.1.length : Int) + s.2.1.length), Li (s.1 ++ s.2.1 ++ s.2.2), Li []]) (ans := fun s => some [Li (s.1 ++ s.2.2.filter fun x => !delB m l.length x)]) (meas := fun s => s.2.2.length)
      (Q := fun s => s.2.1 ≠ [] ∧ s.1.length + s.2.1.length + s.2.2.length < big ∧ ∀ x ∈ s.2.2, 0 ≤ x ∧ x < m.length) ?_ N (pre, [y], post) ⟨by simp, by show pre.length + [y].length + post.length < big; simp; omega, fun x hx' => hx x (by simp [hx'])⟩ (by show post.length < N; omega)
    clear efin h1 h3 h4 hx hl
    rintro J ⟨kept, mid, rest⟩ ⟨q1, q2, q3⟩ hJ
    dsimp only at q1 q2 q3
    dsimp only
    cases mid with
    | nil => exact absurd rfl q1
    | cons m0 mid => ?_
    have hlen : (kept ++ (m0 :: mid) ++ rest).length = kept.length + (mid.length + 1) + rest.length := by simp; omega
    rw [List.length_cons] at q2
    simp only [List.cons_append, List.nil_append]
    refine den_let rfl (den_let rfl (den_ite (b := decide ((kept.length : Int) + (m0 :: mid).length < ((kept ++ (m0 :: mid) ++ rest).length : Nat))) rfl (fun c => ?_) (fun c => ?_)))
    · have c := of_decide_eq_true c
      rw [hlen, List.length_cons] at c
      cases rest with
      | nil => exact absurd c (by simp)
      | cons x rest => ?_
      obtain ⟨x0, x1⟩ := q3 x (by simp)
      rw [List.length_cons] at q2
      have hj : (kept ++ (m0 :: mid) ++ x :: rest)[((kept.length : Int) + (m0 :: mid).length).toNat]? = some x := by
        rw [show ((kept.length : Int) + (m0 :: mid).length).toNat = (kept ++ (m0 :: mid)).length by rw [List.length_append]; omega, List.getElem?_append_right (Nat.le_refl _), Nat.sub_self]
        rfl
      have hi : (kept ++ (m0 :: mid) ++ x :: rest)[(kept.length : Int).toNat]? = some m0 := by
        rw [Int.toNat_natCast, List.append_assoc, List.getElem?_append_right (Nat.le_refl _), Nat.sub_self]
        rfl
      simp only [List.cons_append, List.nil_append]
      refine den_idx (e := .int .i64) (l := kept ++ (m0 :: mid) ++ x :: rest) rfl rfl rfl (by omega) hj (den_idx (e := .int .i64) (l := kept ++ (m0 :: mid) ++ x :: rest) rfl rfl rfl (by omega) hj (den_let rfl ?_))
      simp only [List.cons_append, List.nil_append]
      refine den_call rfl (del84 N (k + 1) i0 i1 i2 l i4 i5 i6 i7 v n m x x0 x1) rfl (den_let rfl (den_ite (b := !delB m l.length x) rfl (fun g => ?_) (fun g => ?_)))
      · rw [List.filter_cons, if_pos g]
        simp only [List.cons_append, List.nil_append]
        refine den_idx (e := .int .i64) (l := kept ++ (m0 :: mid) ++ x :: rest) rfl rfl rfl (by omega) hi (den_setE (e := .int .i64) (l := kept ++ (m0 :: mid) ++ x :: rest) (z := x) rfl rfl rfl rfl (by omega) (by rw [List.length_append, List.length_append]; simp; omega) ?_)
        simp only [List.cons_append, List.nil_append]
        refine den_let (ev_addI (x := kept.length) (y := 1) rfl rfl (by omega) (by omega)) (den_let (ev_addI (x := (kept.length : Int) + (m0 :: mid).length) (y := 1) rfl rfl (by rw [List.length_cons]; omega) (by rw [List.length_cons]; omega)) ?_)
        have hset : (kept ++ (m0 :: mid) ++ x :: rest).set (kept.length : Int).toNat x = (kept ++ [x]) ++ (mid ++ [x]) ++ rest := by
          rw [Int.toNat_natCast, List.append_assoc, List.set_append_right _ _ (Nat.le_refl _), Nat.sub_self]
          simp
        refine den_jump (ds := [I (kept ++ [x]).length, I (((kept ++ [x]).length : Int) + (mid ++ [x]).length), Li ((kept ++ [x]) ++ (mid ++ [x]) ++ rest), Li []]) rfl ?_ ?_
        · rw [← hset]
          have e1 : ((kept ++ [x]).length : Int) = (kept.length : Int) + 1 := by simp
          have e2 : ((kept ++ [x]).length : Int) + (mid ++ [x]).length = (kept.length : Int) + (m0 :: mid).length + 1 := by simp; omega
          rw [e2, e1]
          rfl
        · rw [show kept ++ x :: rest.filter (fun x => !delB m l.length x) = (kept ++ [x]) ++ rest.filter (fun x => !delB m l.length x) by simp]
          exact hJ (kept ++ [x], mid ++ [x], rest) ⟨by simp, by show (kept ++ [x]).length + (mid ++ [x]).length + rest.length < big; simp; omega, fun z hz => q3 z (by simp [hz])⟩ (by show rest.length < (x :: rest).length; simp)
      · rw [List.filter_cons, if_neg (by rw [g]; simp)]
        refine den_let (ev_addI (x := (kept.length : Int) + (m0 :: mid).length) (y := 1) rfl rfl (by rw [List.length_cons]; omega) (by rw [List.length_cons]; omega)) ?_
        refine den_jump (ds := [I kept.length, I ((kept.length : Int) + (m0 :: mid ++ [x]).length), Li (kept ++ (m0 :: mid ++ [x]) ++ rest), Li []]) rfl ?_ ?_
        · have e2 : (kept.length : Int) + (m0 :: mid ++ [x]).length = (kept.length : Int) + (m0 :: mid).length + 1 := by simp; omega
          have e3 : kept ++ (m0 :: mid ++ [x]) ++ rest = kept ++ (m0 :: mid) ++ x :: rest := by simp
          rw [e2, e3]
          rfl
        · exact hJ (kept, m0 :: mid ++ [x], rest) ⟨by simp, by show kept.length + (m0 :: mid ++ [x]).length + rest.length < big; simp; omega, fun z hz => q3 z (by simp [hz])⟩ (by show rest.length < (x :: rest).length; simp)
    · have c := of_decide_eq_false c
      rw [hlen, List.length_cons] at c
      have hr : rest = [] := List.eq_nil_of_length_eq_zero (by omega)
      subst hr
      have hi : (kept ++ (m0 :: mid) ++ [])[(kept.length : Int).toNat]? = some m0 := by
        rw [Int.toNat_natCast, List.append_assoc, List.getElem?_append_right (Nat.le_refl _), Nat.sub_self]
        rfl
      have hkl : (kept.length : Int) < ((kept ++ (m0 :: mid) ++ []).length : Nat) := by simp; omega
      simp only [List.cons_append, List.nil_append]
      refine den_idx (e := .int .i64) (l := kept ++ (m0 :: mid) ++ []) rfl rfl rfl (by omega) hi (den_let (ev_clrI (l := kept ++ (m0 :: mid) ++ []) (x := kept.length) rfl rfl (by omega) hkl) ?_)
      simp only [List.cons_append, List.nil_append]
      refine den_let (ev_subI (x := kept.length) rfl rfl (by omega) (by simp; omega)) (den_ret rfl ?_)
      simp
def behL (i0 i1 i2 : Int) (l : List (D ITy)) (i4 i5 i6 i7 : Int) (v : List Bool) (n m : List Int) (s : Int) : List Int :=
  if nodeOk i0 i1 i2 l i4 i5 i6 i7 v n m s && (i5 == 2) then (upL (fun x => !(x == i0)) 0 v.length).filter (fun x => !delB m l.length x) else []
set_option maxHeartbeats 4000000 in
theorem lead79 (N q : Nat) (i0 i1 i2 : Int) (l : List (D ITy)) (i4 i5 i6 i7 : Int) (v : List Bool) (n m : List Int) (s : Int) (hN : big ≤ N) (hl : l.length < big) (hx : ∀ y ∈ l, okI y) (hv : v.length < big) :
    Lv N (q + 7) 79 [⟨NTy, (i0, i1, i2, l, i4, i5, i6, i7, v, n, m, ())⟩, I s] = some [B (nodeOk i0 i1 i2 l i4 i5 i6 i7 v n m s && (i5 == 2))] := by
  refine level_den rfl rfl ?_ rfl
  unfold ir79
  refine den_let rfl (den_let rfl ?_)
  simp only [List.cons_append, List.nil_append]
  refine den_call rfl (node15 N q i0 i1 i2 l i4 i5 i6 i7 v n m s hN hl hx hv) rfl (den_ite (b := nodeOk i0 i1 i2 l i4 i5 i6 i7 v n m s) rfl (fun h => ?_) (fun h => ?_))
  · rw [h]
    exact den_let rfl (den_ret rfl rfl)
  · rw [h]
    exact den_ret rfl rfl
set_option maxHeartbeats 4000000 in
theorem behI (N q : Nat) (i0 i1 i2 : Int) (l : List (D ITy)) (i4 i5 i6 i7 : Int) (v : List Bool) (n m : List Int) (s : Int) (hN : big ≤ N) (hl : l.length < big) (hx : ∀ y ∈ l, okI y) (hv : v.length < big) :
    Lv N (q + 8) 28 [⟨NTy, (i0, i1, i2, l, i4, i5, i6, i7, v, n, m, ())⟩, I s] = some [Li (behL i0 i1 i2 l i4 i5 i6 i7 v n m s)] := by
  refine level_den rfl rfl ?_ rfl
  unfold ir28 behL
  refine den_let rfl (den_let rfl ?_)
  simp only [List.cons_append, List.nil_append]
  refine den_call rfl (lead79 N q i0 i1 i2 l i4 i5 i6 i7 v n m s hN hl hx hv) rfl (den_let rfl (den_ite (b := !(nodeOk i0 i1 i2 l i4 i5 i6 i7 v n m s && (i5 == 2))) rfl (fun h => ?_) (fun h => ?_)))
  · rw [if_neg (by rw [Bool.not_eq_true'] at h; rw [h]; simp)]
    exact den_ret rfl rfl
  · have h : (nodeOk i0 i1 i2 l i4 i5 i6 i7 v n m s && (i5 == 2)) = true := by simpa using h
    rw [if_pos h]
    have hf := nodeOk_facts (by rw [Bool.and_eq_true] at h; exact h.1)
    simp only [List.cons_append, List.nil_append]
    refine den_let rfl (den_call rfl (others80 N (q + 6) i0 i1 i2 l i4 i5 i6 i7 v n m hv hN) rfl (den_let rfl ?_))
    simp only [List.cons_append, List.nil_append]
    refine den_call rfl (delete83 N (q + 4) i0 i1 i2 l i4 i5 i6 i7 v n m _ (fun x hx => by have := upL_mem hx; omega) (Nat.lt_of_le_of_lt (upL_len _ _ _) hv) hN) rfl (den_ret rfl rfl)
set_option maxHeartbeats 1000000 in
theorem behS (N q : Nat) (i0 i1 i2 : Int) (l : List (D ITy)) (i4 i5 i6 i7 : Int) (v : List Bool) (n m : List Int) (s : Int) (hN : big ≤ N) (hl : l.length < big) (hx : ∀ y ∈ l, okI y) (hv : v.length < big) :
    Lv N (q + 7) 27 [⟨NTy, (i0, i1, i2, l, i4, i5, i6, i7, v, n, m, ())⟩, I s] = some [Li (behL i0 i1 i2 l i4 i5 i6 i7 v n m s)] := by
  have hbig : big = 1048577 := rfl
  refine level_den rfl rfl ?_ rfl
  unfold ir27 behL
  refine den_let rfl (den_let rfl (den_call rfl (node13 N q i0 i1 i2 l i4 i5 i6 i7 v n m s hN hl hx hv) rfl (den_let rfl (den_ite (b := !nodeOk i0 i1 i2 l i4 i5 i6 i7 v n m s) rfl (fun h => ?_) (fun h => ?_)))))
  · have h : nodeOk i0 i1 i2 l i4 i5 i6 i7 v n m s = false := by simpa using h
    rw [if_neg (by rw [h]; simp)]
    exact den_ret rfl rfl
  have h : nodeOk i0 i1 i2 l i4 i5 i6 i7 v n m s = true := by simpa using h
  simp only [List.cons_append, List.nil_append]
  refine den_let rfl (den_ite (b := i5 != 2) rfl (fun g => ?_) (fun g => ?_))
  · rw [if_neg (by rw [Bool.and_eq_true]; rintro ⟨_, g2⟩; simp at g g2; exact g g2)]
    exact den_ret rfl rfl
  have g2 : (i5 == 2) = true := by simpa using g
  rw [if_pos (by rw [h, g2]; rfl)]
  have hf := nodeOk_facts h
  rw [upL_filter]
  simp only [List.cons_append, List.nil_append]
  refine den_loop (den_jump rfl rfl ?_)
  generalize hP : (fun x => !(x == i0) && !delB m l.length x) = P
  have e0 : upL P 0 v.length = [] ++ upL P 0 (s - 0).toNat := by
    rw [show (s - 0).toNat = v.length by omega]; rfl
  rw [e0]
  refine rounds_ind (α := List Int × Int) (enc := fun z => [Li z.1, I z.2, Li []]) (ans := fun z => some [Li (z.1 ++ upL P z.2 (s - z.2).toNat)]) (meas := fun z => (s - z.2).toNat) (Q := fun z => 0 ≤ z.2 ∧ z.2 ≤ s ∧ (z.1.length : Int) ≤ z.2) ?_ N ([], 0) ⟨by show (0 : Int) ≤ 0; omega, by show (0 : Int) ≤ s; omega, by simp⟩ (by show (s - 0).toNat < N; omega)
  rintro J ⟨acc, i⟩ ⟨h0, h1, h2⟩ hJ
  dsimp only at h0 h1 h2
  dsimp only
  simp only [List.cons_append, List.nil_append]
  have hnext : ∀ acc' : List Int, (acc'.length : Int) ≤ i + 1 → i < s → J [Li acc', I (i + 1), Li []] = some [Li (acc' ++ upL P (i + 1) (s - (i + 1)).toNat)] := fun acc' ha hi =>
    hJ (acc', i + 1) ⟨by show 0 ≤ i + 1; omega, by show i + 1 ≤ s; omega, ha⟩ (by show (s - (i + 1)).toNat < (s - i).toNat; omega)
  refine den_let rfl (den_ite (b := decide (i < s)) rfl (fun c => ?_) (fun c => ?_))
  · have c : i < s := of_decide_eq_true c
    rw [upL_step c]
    simp only [List.cons_append, List.nil_append]
    refine den_let rfl (den_ite (b := i != i0) rfl (fun d => ?_) (fun d => ?_))
    · simp only [List.cons_append, List.nil_append]
      refine den_idx (e := .int .i64) (l := m) rfl rfl rfl h0 (get_d (by omega)) (den_let rfl (den_let rfl ?_))
      simp only [List.cons_append, List.nil_append]
      refine den_let rfl (den_ite (b := decide (m.getD i.toNat 0 < l.length)) rfl (fun e => ?_) (fun e => ?_))
      · have e : m.getD i.toNat 0 < l.length := of_decide_eq_true e
        have hp : P i = true := by
          rw [← hP]
          show (!(i == i0) && !delB m l.length i) = true
          unfold delB
          rw [show (!(i == i0)) = (i != i0) from rfl, d, decide_eq_false (by omega)]
          rfl
        rw [if_pos hp]
        simp only [List.cons_append, List.nil_append]
        refine den_let (ev_lstI (x := i) rfl) (den_app (e := .int .i64) (l := acc) (m := [i]) rfl rfl (by unfold maxRow; simp; omega) (den_let (ev_addI (x := i) (y := 1) rfl rfl (by omega) (by omega)) (den_jump rfl rfl ?_)))
        rw [show acc ++ i :: upL P (i + 1) (s - (i + 1)).toNat = (acc ++ [i]) ++ upL P (i + 1) (s - (i + 1)).toNat by simp]
        exact hnext (acc ++ [i]) (by simp; omega) c
      · have e : ¬ m.getD i.toNat 0 < l.length := of_decide_eq_false e
        have hp : P i = false := by
          rw [← hP]
          show (!(i == i0) && !delB m l.length i) = false
          unfold delB
          rw [decide_eq_true (by omega)]
          simp
        rw [if_neg (by rw [hp]; simp)]
        exact den_let (ev_addI (x := i) (y := 1) rfl rfl (by omega) (by omega)) (den_jump rfl rfl (hnext acc (by omega) c))
    · have hp : P i = false := by
        rw [← hP]
        show (!(i == i0) && !delB m l.length i) = false
        rw [show (!(i == i0)) = (i != i0) from rfl, d]
        rfl
      rw [if_neg (by rw [hp]; simp)]
      exact den_let (ev_addI (x := i) (y := 1) rfl rfl (by omega) (by omega)) (den_jump rfl rfl (hnext acc (by omega) c))
  · have c : ¬ i < s := of_decide_eq_false c
    rw [upL_end c]
    exact den_ret rfl (by simp)
theorem behL_len (i0 i1 i2 : Int) (l : List (D ITy)) (i4 i5 i6 i7 : Int) (v : List Bool) (n m : List Int) (s : Int) : (behL i0 i1 i2 l i4 i5 i6 i7 v n m s).length ≤ v.length := by
  unfold behL
  split
  · exact Nat.le_trans (List.length_filter_le _ _) (upL_len _ _ _)
  · simp
end Go.Proofs.Ytecleaangfcloaa.VtFnExactBehind
