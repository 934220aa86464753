/- What the laws' sizes, copies and comparisons of rows answer, for every kind of element. Lemmas alone, no statement. -/
import Derived.Test.YtecleaangfcloaaVmPu
import Derived.Test.YtecleaangfcloaaVmOpen
namespace Go.Vm
set_option linter.unusedVariables false
set_option linter.unusedSimpArgs false

/-- How long a list may be. -/
def big : Nat := 1048577

/-- All rows are short. -/
def okD : (τ : Ty) → D τ → Prop
  | .pair a b, x => okD a x.1 ∧ okD b x.2
  | .sl e, l => List.length l < big ∧ ∀ y ∈ (show List (D e) from l), okD e y
  | .int _, _ => True
  | .bool, _ => True
  | .str, _ => True
  | .unit, _ => True

/-- f says that a value is itself. -/
def EqF (F : Fns) (f : Nat) (τ : Ty) : Prop := ∀ x : D τ, okD τ x → F f [⟨τ, x⟩, ⟨τ, x⟩] = some [B true]
/-- f copies. -/
def ToF (F : Fns) (f : Nat) (τ : Ty) : Prop := ∀ x : D τ, okD τ x → F f [⟨τ, x⟩] = some [⟨τ, x⟩]
/-- f measures. -/
def SzF (F : Fns) (f : Nat) (τ : Ty) : Prop := ∀ (x : D τ) (a : Int), 0 ≤ a → a < big → WfD τ x → ∃ r, F f [⟨τ, x⟩, I a] = some [I r] ∧ r ≤ a ∧ (r < 0 ∨ (0 ≤ r ∧ okD τ x))

theorem up {i : Int} {n : Nat} (h0 : 0 ≤ i) (h : i ≤ n) (hn : n < big) : IntKind.i64.wrap (i + 1) = i + 1 := by
  unfold big at hn
  exact wrap_id (by omega) (by omega)

def eqSlIR (m g : Nat) : IR := .letE ⟨.len, [.var 0]⟩ (.letE ⟨.len, [.var 1]⟩ (.letE ⟨.bin .neq 3, [.var 2, .var 3]⟩ (.ite (.var 4) (.ret [.bool false])
  (.label true (.letE ⟨.len, [.var 0]⟩ (.letE ⟨.bin .lss 3, [.var 6, .var 7]⟩ (.ite (.var 8)
    (.letE ⟨.idx m, [.var 0, .var 6]⟩ (.letE ⟨.cells 0 m, [.var 9]⟩ (.letE ⟨.idx m, [.var 1, .var 6]⟩ (.letE ⟨.cells 0 m, [.var 11]⟩ (.call g [.var 10, .var 12] 1 (.letE ⟨.un .not, [.var 13]⟩ (.ite (.var 14) (.ret [.bool false])
      (.letE ⟨.bin .add 3, [.var 6, .int .i64 1]⟩ (.jump 0 [.var 5, .var 15])))))))))
    (.ret [.bool true]))))
  (.jump 0 [.bool false, .int .i64 0])))))

def eqSlAIR (op : Xo) : IR := .letE ⟨.len, [.var 0]⟩ (.letE ⟨.len, [.var 1]⟩ (.letE ⟨.bin .neq 3, [.var 2, .var 3]⟩ (.ite (.var 4) (.ret [.bool false])
  (.label true (.letE ⟨.len, [.var 0]⟩ (.letE ⟨.bin .lss 3, [.var 6, .var 7]⟩ (.ite (.var 8)
    (.letE ⟨.idx 1, [.var 0, .var 6]⟩ (.letE ⟨.a, [.fld (.var 9) 0]⟩ (.letE ⟨.idx 1, [.var 1, .var 6]⟩ (.letE ⟨.a, [.fld (.var 11) 0]⟩ (.letE ⟨op, [.var 10, .var 12]⟩ (.ite (.var 13) (.ret [.bool false])
      (.letE ⟨.bin .add 3, [.var 6, .int .i64 1]⟩ (.jump 0 [.var 5, .var 14]))))))))
    (.ret [.bool true]))))
  (.jump 0 [.bool false, .int .i64 0])))))

section
variable {F : Fns} {e : Ty} {m g : Nat}

/-- All cells of an element are the element. -/
def Whole (e : Ty) (m : Nat) : Prop := e.n = m ∧ ∀ y : D e, evX (.cells 0 m) [⟨e, y⟩] = some ⟨e, y⟩

theorem den_cells {N : Nat} {ρ : List Dy} {Ls : List Lb} {r : Option (List Dy)} {a : A} {k : IR} {y : D e} (hw : Whole e m) (ha : evA ρ a = some ⟨e, y⟩) (hk : den F N k (ρ ++ [⟨e, y⟩]) Ls = r) : den F N (.letE ⟨.cells 0 m, [a]⟩ k) ρ Ls = r :=
  den_let (by simp only [ev, evAs, ha, hw.2]) hk

theorem ans_cells {N : Nat} {ρ : List Dy} {Ls : List Lb} {Q : List Dy → Prop} {a : A} {k : IR} {y : D e} (hw : Whole e m) (ha : evA ρ a = some ⟨e, y⟩) (hk : Ans (den F N k (ρ ++ [⟨e, y⟩]) Ls) Q) : Ans (den F N (.letE ⟨.cells 0 m, [a]⟩ k) ρ Ls) Q :=
  ans_let (by simp only [ev, evAs, ha, hw.2]) hk

theorem eqSl (hw : Whole e m) (hg : EqF F g e) (l : List (D e)) (hl : okD (.sl e) l) : den F big (eqSlIR m g) [S e l, S e l] [] = some [B true] := by
  obtain ⟨hm, hx⟩ := hl
  have hm : l.length < big := hm
  unfold eqSlIR
  refine den_let rfl (den_let rfl (den_let rfl (den_ite rfl (fun h => ?_) (fun _ => ?_))))
  · simp at h
  · refine den_loop (den_jump rfl rfl ?_)
    refine rounds_ind (α := Int) (enc := fun i => [B false, I i]) (ans := fun _ => some [B true]) (meas := fun i => l.length - i.toNat) (Q := fun i => 0 ≤ i ∧ i ≤ l.length) (fun J i hi hJ => ?_) big 0 (by omega) (by simp; omega)
    refine den_let rfl (den_let rfl (den_ite rfl (fun h => ?_) (fun h => ?_)))
    · have h : i < l.length := by simpa using h
      have hlt : i.toNat < l.length := by omega
      refine den_idx rfl rfl hw.1 hi.1 (List.getElem?_eq_getElem hlt) (den_cells hw rfl (den_idx rfl rfl hw.1 hi.1 (List.getElem?_eq_getElem hlt) (den_cells hw rfl (den_call rfl (hg l[i.toNat] (hx _ (List.getElem_mem hlt))) rfl (den_let rfl (den_ite rfl (fun h => ?_) (fun _ => ?_)))))))
      · simp at h
      · refine den_let rfl (den_jump rfl rfl ?_)
        rw [up hi.1 hi.2 hm]
        exact hJ (i + 1) (by omega) (by omega)
    · exact den_ret rfl rfl

theorem den_a {N : Nat} {ρ : List Dy} {Ls : List Lb} {r : Option (List Dy)} {a : A} {k : IR} {y : D e} (he : e.isAgg = false) (ha : evA ρ a = some ⟨e, y⟩) (hk : den F N k (ρ ++ [⟨e, y⟩]) Ls = r) : den F N (.letE ⟨.a, [.fld a 0]⟩ k) ρ Ls = r :=
  den_let (by simp [ev, evAs, evA, ha, Dy.cell, he, evX]) hk

theorem eqSlA {op : Xo} (hw : e.n = 1) (he : e.isAgg = false) (hop : ∀ y : D e, evX op [⟨e, y⟩, ⟨e, y⟩] = some (B false)) (l : List (D e)) (hl : okD (.sl e) l) : den F big (eqSlAIR op) [S e l, S e l] [] = some [B true] := by
  obtain ⟨hm, hx⟩ := hl
  have hm : l.length < big := hm
  unfold eqSlAIR
  refine den_let rfl (den_let rfl (den_let rfl (den_ite rfl (fun h => ?_) (fun _ => ?_))))
  · simp at h
  · refine den_loop (den_jump rfl rfl ?_)
    refine rounds_ind (α := Int) (enc := fun i => [B false, I i]) (ans := fun _ => some [B true]) (meas := fun i => l.length - i.toNat) (Q := fun i => 0 ≤ i ∧ i ≤ l.length) (fun J i hi hJ => ?_) big 0 (by omega) (by simp; omega)
    refine den_let rfl (den_let rfl (den_ite rfl (fun h => ?_) (fun h => ?_)))
    · have h : i < l.length := by simpa using h
      have hlt : i.toNat < l.length := by omega
      refine den_idx rfl rfl hw hi.1 (List.getElem?_eq_getElem hlt) (den_a he rfl (den_idx rfl rfl hw hi.1 (List.getElem?_eq_getElem hlt) (den_a he rfl (den_let (d := B false) (hop l[i.toNat]) (den_ite rfl (fun h => ?_) (fun _ => ?_))))))
      · simp at h
      · refine den_let rfl (den_jump rfl rfl ?_)
        rw [up hi.1 hi.2 hm]
        exact hJ (i + 1) (by omega) (by omega)
    · exact den_ret rfl rfl

def szSlAIR : IR := .letE ⟨.len, [.var 0]⟩ (.letE ⟨.bin .sub 3, [.var 1, .var 2]⟩ (.letE ⟨.bin .lss 3, [.var 3, .int .i64 0]⟩ (.ite (.var 4) (.ret [.int .i64 (-1)]) (.ret [.var 3]))))

/-- Elements without rows. -/
theorem szSlA (hp : ∀ y : D e, okD e y) (l : List (D e)) (a : Int) (h0 : 0 ≤ a) (h1 : a < big) (hw : WfD (.sl e) l) : ∃ r, den F big szSlAIR [S e l, I a] [] = some [I r] ∧ r ≤ a ∧ (r < 0 ∨ (0 ≤ r ∧ okD (.sl e) l)) := by
  have hl : l.length ≤ 9223372036854775807 := hw.1
  unfold big at h1
  have hwr : IntKind.i64.wrap (a - l.length) = a - l.length := wrap_id (by omega) (by omega)
  by_cases h : a - (l.length : Int) < 0
  · refine ⟨-1, ?_, by omega, .inl (by omega)⟩
    unfold szSlAIR
    refine den_let rfl (den_let rfl (den_let rfl (den_ite rfl (fun _ => den_ret rfl rfl) (fun h' => ?_))))
    rw [hwr] at h'
    exact absurd h (by simpa using h')
  · refine ⟨a - l.length, ?_, by omega, .inr ⟨by omega, by show l.length < big; unfold big; omega, fun y _ => hp y⟩⟩
    unfold szSlAIR
    refine den_let rfl (den_let rfl (den_let rfl (den_ite rfl (fun h' => ?_) (fun _ => den_ret rfl ?_))))
    · rw [hwr] at h'
      exact absurd (by simpa using h') h
    · show some [I (a - l.length)] = some [I (IntKind.i64.wrap (a - l.length))]
      rw [hwr]

def szSlIR (m g : Nat) : IR := .letE ⟨.len, [.var 0]⟩ (.letE ⟨.bin .sub 3, [.var 1, .var 2]⟩ (.letE ⟨.bin .lss 3, [.var 3, .int .i64 0]⟩ (.ite (.var 4) (.ret [.int .i64 (-1)])
  (.label true (.letE ⟨.len, [.var 0]⟩ (.letE ⟨.bin .lss 3, [.var 7, .var 8]⟩ (.ite (.var 9)
    (.letE ⟨.idx m, [.var 0, .var 7]⟩ (.letE ⟨.cells 0 m, [.var 10]⟩ (.call g [.var 11, .var 5] 1 (.letE ⟨.bin .lss 3, [.var 12, .int .i64 0]⟩ (.ite (.var 13) (.ret [.int .i64 (-1)])
      (.letE ⟨.bin .add 3, [.var 7, .int .i64 1]⟩ (.jump 0 [.var 12, .var 6, .var 14])))))))
    (.ret [.var 5]))))
  (.jump 0 [.var 3, .int .i64 0, .int .i64 0])))))

def postS (e : Ty) (l : List (D e)) (p : Int × Int) (rs : List Dy) : Prop := ∃ r, rs = [I r] ∧ r ≤ p.1 ∧ (r < 0 ∨ (0 ≤ r ∧ ∀ y ∈ l.drop p.2.toNat, okD e y))

theorem szSl (hw : Whole e m) (hg : SzF F g e) (l : List (D e)) (a : Int) (h0 : 0 ≤ a) (h1 : a < big) (hwf : WfD (.sl e) l) : ∃ r, den F big (szSlIR m g) [S e l, I a] [] = some [I r] ∧ r ≤ a ∧ (r < 0 ∨ (0 ≤ r ∧ okD (.sl e) l)) := by
  have hl : l.length ≤ 9223372036854775807 := hwf.1
  have hwr : IntKind.i64.wrap (a - l.length) = a - l.length := by unfold big at h1; exact wrap_id (by omega) (by omega)
  have key : Ans (den F big (szSlIR m g) [S e l, I a] []) (fun rs => ∃ r, rs = [I r] ∧ r ≤ a ∧ (r < 0 ∨ (0 ≤ r ∧ okD (.sl e) l))) := by
    unfold szSlIR
    refine ans_let rfl (ans_let rfl (ans_let rfl (ans_ite rfl (fun _ => ans_ret rfl ⟨-1, rfl, by omega, .inl (by omega)⟩) (fun h => ?_))))
    have hge : 0 ≤ a - (l.length : Int) := by
      rw [← hwr]
      simpa using h
    have hlb : l.length < big := by omega
    refine ans_loop (ans_jump rfl rfl ?_)
    refine Ans.imp (rounds_ans (α := Int × Int) (enc := fun p => [I p.1, I 0, I p.2]) (Post := postS e l) (meas := fun p => l.length - p.2.toNat) (R := fun p => 0 ≤ p.1 ∧ p.1 ≤ a ∧ 0 ≤ p.2 ∧ p.2 ≤ l.length) ?_ big (IntKind.i64.wrap (a - l.length), 0) ?_ ?_) ?_
    · rintro J ⟨b, i⟩ ⟨hb0, hba, hi0, hi1⟩ hJ
      dsimp only at hb0 hba hi0 hi1
      refine ans_let rfl (ans_let rfl (ans_ite rfl (fun h => ?_) (fun h => ?_)))
      · have h : i < l.length := by simpa using h
        have hlt : i.toNat < l.length := by omega
        obtain ⟨r, er, c1, c2⟩ := hg l[i.toNat] b hb0 (by omega) (hwf.2 _ (List.getElem_mem hlt))
        refine ans_idx rfl rfl hw.1 hi0 (List.getElem?_eq_getElem hlt) (ans_cells hw rfl (ans_call rfl er rfl (ans_let rfl (ans_ite rfl (fun _ => ans_ret rfl ⟨-1, rfl, by show (-1 : Int) ≤ b; omega, .inl (by omega)⟩) (fun h => ?_)))))
        have hr : 0 ≤ r := by simpa using h
        refine ans_let rfl (ans_jump rfl rfl ?_)
        rw [up hi0 hi1 hlb]
        refine Ans.imp (hJ (r, i + 1) ⟨hr, by show r ≤ a; omega, by show 0 ≤ i + 1; omega, by show i + 1 ≤ l.length; omega⟩ (by show l.length - (i + 1).toNat < l.length - i.toNat; omega)) ?_
        rintro rs ⟨r', rfl, d1, d2⟩
        refine ⟨r', rfl, by have : r' ≤ r := d1; show r' ≤ b; omega, d2.imp id (fun d2 => ⟨d2.1, fun y hy => ?_⟩)⟩
        rcases c2 with c2 | ⟨_, c2⟩
        · omega
        · have hd : l.drop i.toNat = l[i.toNat] :: l.drop (i + 1).toNat := by
            rw [show (i + 1).toNat = i.toNat + 1 by omega]
            exact List.drop_eq_getElem_cons hlt
          have hy : y ∈ l.drop i.toNat := hy
          rw [hd] at hy
          rcases List.mem_cons.1 hy with rfl | hy
          · exact c2
          · exact d2.2 y hy
      · have h : ¬ i < l.length := by simpa using h
        refine ans_ret rfl ⟨b, rfl, Int.le_refl _, .inr ⟨hb0, fun y hy => ?_⟩⟩
        have hy : y ∈ l.drop i.toNat := hy
        rw [List.drop_of_length_le (by omega)] at hy
        simp at hy
    · rw [hwr]
      exact ⟨hge, by show a - l.length ≤ a; omega, Int.le_refl _, by show (0 : Int) ≤ l.length; omega⟩
    · show l.length - 0 < big
      omega
    · rintro rs ⟨r, rfl, d1, d2⟩
      refine ⟨r, rfl, by have d1 : r ≤ IntKind.i64.wrap (a - l.length) := d1; rw [hwr] at d1; omega, d2.imp id (fun d2 => ⟨d2.1, hlb, fun y hy => d2.2 y (by simpa using hy)⟩)⟩
  obtain ⟨rs, er, r, rfl, c1, c2⟩ := key
  exact ⟨r, er, c1, c2⟩

/-- The first i of l, then z's. -/
def mix {α : Type} (z : α) (l : List α) (i : Nat) : List α := l.take i ++ List.replicate (l.length - i) z
theorem mix_length {α : Type} (z : α) (l : List α) {i : Nat} (h : i ≤ l.length) : (mix z l i).length = l.length := by
  simp [mix]; omega
theorem mix_set {α : Type} (z : α) (l : List α) {i : Nat} (h : i < l.length) : (mix z l i).set i l[i] = mix z l (i + 1) := by
  apply List.ext_getElem?
  intro j
  unfold mix
  have ht : (l.take i).length = i := by simp; omega
  have ht1 : (l.take (i + 1)).length = i + 1 := by simp; omega
  rw [List.getElem?_set]
  by_cases hj : i = j
  · subst hj
    rw [if_pos rfl]
    rw [if_pos (by simp; omega)]
    rw [List.getElem?_append_left (by omega), List.getElem?_take, if_pos (by omega), List.getElem?_eq_getElem h]
  · rw [if_neg hj]
    rcases Nat.lt_or_ge j i with hji | hji
    · rw [List.getElem?_append_left (by omega), List.getElem?_append_left (by omega), List.getElem?_take, List.getElem?_take, if_pos hji, if_pos (by omega)]
    · rw [List.getElem?_append_right (by omega), List.getElem?_append_right (by omega), ht, ht1, List.getElem?_replicate, List.getElem?_replicate]
      by_cases hk : j < l.length
      · rw [if_pos (by omega), if_pos (by omega)]
      · rw [if_neg (by omega), if_neg (by omega)]
theorem mix_zero {α : Type} (z : α) (l : List α) : mix z l 0 = List.replicate l.length z := by simp [mix]
theorem mix_all {α : Type} (z : α) (l : List α) {i : Nat} (h : l.length ≤ i) : mix z l i = l := by
  unfold mix
  rw [List.take_of_length_le h, show l.length - i = 0 by omega]
  simp

def toSlAIR (e : Ty) (z : A) : IR := .letE ⟨.len, [.var 0]⟩ (.letE ⟨.rep e, [.var 1, z]⟩
  (.label true (.letE ⟨.len, [.var 0]⟩ (.letE ⟨.bin .lss 3, [.var 3, .var 6]⟩ (.ite (.var 7)
    (.letE ⟨.idx 1, [.var 0, .var 3]⟩ (.letE ⟨.a, [.fld (.var 8) 0]⟩ (.letE ⟨.idx 1, [.var 5, .var 3]⟩ (.letE ⟨.setE 1, [.var 5, .var 3, .var 9]⟩ (.letE ⟨.bin .add 3, [.var 3, .int .i64 1]⟩ (.jump 0 [.var 12, .var 4, .var 11]))))))
    (.ret [.var 5]))))
  (.jump 0 [.int .i64 0, .nil e, .var 2])))

theorem toSlA {z : A} {zv : D e} (hw : e.n = 1) (he : e.isAgg = false) (hz : ∀ ρ, evA ρ z = some ⟨e, zv⟩) (l : List (D e)) (hl : okD (.sl e) l) : den F big (toSlAIR e z) [S e l] [] = some [S e l] := by
  have hm : l.length < big := hl.1
  unfold toSlAIR
  refine den_let rfl (den_rep (n := (l.length : Int)) rfl (hz _) (by omega) (by unfold big at hm; show (l.length : Int) < 4294967296; omega) ?_)
  refine den_loop (den_jump rfl rfl ?_)
  rw [show (List.replicate (l.length : Int).toNat zv) = mix zv l 0 by rw [mix_zero, Int.toNat_natCast]]
  refine rounds_ind (α := Int) (enc := fun i => [I i, S e [], S e (mix zv l i.toNat)]) (ans := fun _ => some [S e l]) (meas := fun i => l.length - i.toNat) (Q := fun i => 0 ≤ i ∧ i ≤ l.length) (fun J i hi hJ => ?_) big 0 (by omega) (by simp; omega)
  refine den_let rfl (den_let rfl (den_ite rfl (fun h => ?_) (fun h => ?_)))
  · have h : i < l.length := by simpa using h
    have hlt : i.toNat < l.length := by omega
    have hml : i.toNat < (mix zv l i.toNat).length := by rw [mix_length _ _ (by omega)]; exact hlt
    refine den_idx rfl rfl hw hi.1 (List.getElem?_eq_getElem hlt) (den_a he rfl (den_idx rfl rfl hw hi.1 (List.getElem?_eq_getElem hml) (den_setE rfl rfl rfl hw hi.1 hml (den_let rfl (den_jump rfl rfl ?_)))))
    rw [up hi.1 hi.2 hm, mix_set _ _ hlt, show i.toNat + 1 = (i + 1).toNat by omega]
    exact hJ (i + 1) (by omega) (by omega)
  · have h : ¬ i < l.length := by simpa using h
    refine den_ret rfl ?_
    show some [S e l] = some [S e (mix zv l i.toNat)]
    rw [mix_all _ _ (by omega)]

def toSlIR (e : Ty) (m g : Nat) (zs : List A) : IR := .letE ⟨.len, [.var 0]⟩ (.letE ⟨.mk, zs⟩ (.letE ⟨.rep e, [.var 1, .var 2]⟩
  (.label true (.letE ⟨.len, [.var 0]⟩ (.letE ⟨.bin .lss 3, [.var 4, .var 7]⟩ (.ite (.var 8)
    (.letE ⟨.idx m, [.var 0, .var 4]⟩ (.letE ⟨.cells 0 m, [.var 9]⟩ (.call g [.var 10] 1 (.letE ⟨.idx m, [.var 6, .var 4]⟩ (.letE ⟨.setE m, [.var 6, .var 4, .var 11]⟩ (.letE ⟨.bin .add 3, [.var 4, .int .i64 1]⟩ (.jump 0 [.var 14, .var 5, .var 13])))))))
    (.ret [.var 6]))))
  (.jump 0 [.int .i64 0, .nil e, .var 3]))))

theorem toSl {zs : List A} {zv : D e} (hw : Whole e m) (hz : ∀ ρ, ev ρ ⟨.mk, zs⟩ = some ⟨e, zv⟩) (hg : ToF F g e) (l : List (D e)) (hl : okD (.sl e) l) : den F big (toSlIR e m g zs) [S e l] [] = some [S e l] := by
  obtain ⟨hm, hx⟩ := hl
  have hm : l.length < big := hm
  unfold toSlIR
  refine den_let rfl (den_let (hz _) (den_rep (n := (l.length : Int)) rfl rfl (by omega) (by unfold big at hm; show (l.length : Int) < 4294967296; omega) ?_))
  refine den_loop (den_jump rfl rfl ?_)
  rw [show (List.replicate (l.length : Int).toNat zv) = mix zv l 0 by rw [mix_zero, Int.toNat_natCast]]
  refine rounds_ind (α := Int) (enc := fun i => [I i, S e [], S e (mix zv l i.toNat)]) (ans := fun _ => some [S e l]) (meas := fun i => l.length - i.toNat) (Q := fun i => 0 ≤ i ∧ i ≤ l.length) (fun J i hi hJ => ?_) big 0 (by omega) (by simp; omega)
  refine den_let rfl (den_let rfl (den_ite rfl (fun h => ?_) (fun h => ?_)))
  · have h : i < l.length := by simpa using h
    have hlt : i.toNat < l.length := by omega
    have hml : i.toNat < (mix zv l i.toNat).length := by rw [mix_length _ _ (by omega)]; exact hlt
    refine den_idx rfl rfl hw.1 hi.1 (List.getElem?_eq_getElem hlt) (den_cells hw rfl (den_call rfl (hg l[i.toNat] (hx _ (List.getElem_mem hlt))) rfl (den_idx rfl rfl hw.1 hi.1 (List.getElem?_eq_getElem hml) (den_setE rfl rfl rfl hw.1 hi.1 hml (den_let rfl (den_jump rfl rfl ?_))))))
    rw [up hi.1 hi.2 hm, mix_set _ _ hlt, show i.toNat + 1 = (i + 1).toNat by omega]
    exact hJ (i + 1) (by omega) (by omega)
  · have h : ¬ i < l.length := by simpa using h
    refine den_ret rfl ?_
    show some [S e l] = some [S e (mix zv l i.toNat)]
    rw [mix_all _ _ (by omega)]
end
end Go.Vm
